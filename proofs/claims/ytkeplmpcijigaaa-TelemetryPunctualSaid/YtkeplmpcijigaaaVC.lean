/- The feed of the code: what New, Put, Mark, Late, Ready do. -/
import Derived.Test.YtkeplmpcijigaaaSO
namespace Go.Proofs.Ytkeplmpcijigaaa
variable [Drw]
set_option linter.unusedSectionVars false
set_option linter.unusedSimpArgs false
set_option linter.unusedVariables false
set_option maxRecDepth 100000
structure FS where
  dl:Int
  mk_:Int
  ls:Int
  got:List (Key×Bool)
  wt:List Msg
  lt:List Msg
noncomputable def putE (s:FS) (m:Msg):Int:=bif !(rightB m) then 1 else bif ilt m.ar s.ls then 17 else bif mgetD kq_key s.got (keyM m) d_bool then 10 else bif ile (10000:Int) (Int.ofNat (List.length s.got)) then 4 else 0
noncomputable def upM (s:FS) (m:Msg):Int:=IntKind.wrap .i64 (m.ar - s.dl)
noncomputable def putS (s:FS) (m:Msg):FS:=⟨s.dl,
  bif putE s m == 0 then (bif ilt s.mk_ (upM s m) then upM s m else s.mk_) else s.mk_,
  bif putE s m == 0 then m.ar else s.ls,
  bif putE s m == 0 then mput kq_key s.got (keyM m) true else s.got,
  bif putE s m == 0 then (bif ilt m.at_ s.mk_ then s.wt else s.wt++[m]) else s.wt,
  bif putE s m == 0 then (bif ilt m.at_ s.mk_ then s.lt++[m] else s.lt) else s.lt⟩
noncomputable def fsOk (s:FS):Bool:=nle s.wt.length 80000&&nle s.lt.length 80000
noncomputable def hsF (s:FS):Heap U El:=[(1000000000,.box 1000000000 [.int .i64 s.dl,.int .i64 s.mk_,.int .i64 s.ls,.mp 1000000001,.ful 1000000002,.ful 1000000003]),(1000000001,.map .key .bool s.got),(1000000002,.rows .msg s.wt),(1000000003,.rows .msg s.lt)]
theorem capT {n k:Nat} (h1:n≤1000000) (h2:k≤1000000):(nle ((n+k) * 48) 140737488355328&&nle (n+k) 9223372036854775807)=true:=Bool.and_eq_true_iff.2 ⟨nleT (by omega),nleT (by omega)⟩
namespace newF
noncomputable def bd:Code:=(Try.f11.body).getD .skip
noncomputable def X:Ctx U El:=⟨E,tds,zeros,eqs,specOf [(35,within.sp)],100000,11,dspecOf [],fun _=>none,fun _=>none⟩
noncomputable def nmR:Norm U:=⟨[],[2,3],[10,8,500001004,500001005],[],[(10,4,.msg,500001004),(10,5,.msg,500001005)],[],[]⟩
noncomputable def RR:Kont U El:=fun st=>normK nmR st (retM [2,3])
noncomputable def fr0 (d:Int):St U El:=⟨[(0,(.int .i64 d))],[]⟩
noncomputable def sh0 (d:Int):R :=
  condB (!((ile (0:Int) d&&ile d (68719476736:Int)))) (some ((.tup [.nilp,(.int .i64 (2:Int))]),[])) (some ((.tup [(.ptr 10 0),(.int .i64 (0:Int))]),[(10,(.box 0 [(.int .i64 d),(.int .i64 (-137438953472:Int)),(.int .i64 (-68719476736:Int)),(.mp 8),(.ful 500001004),(.ful 500001005)])),(8,(.map .key .bool ([]:List (Key×Bool)))),(500001004,(.rows .msg ([]:List Msg))),(500001005,(.rows .msg ([]:List Msg)))]))
theorem P0 (d):exec X (cdp [] bd) .d (fr0 d) RR (fun _ _=>none) RR=sh0 d:=by kernel_rfl
noncomputable def f0 (d:Int):R:=sh0 d
theorem T0 (d):exec X bd .d (fr0 d) RR (fun _ _=>none) RR=f0 d:=by
  refine (P0 d).trans ?_
  show _=sh0 d
  rfl
theorem run (d):runM X bd .d nmR [2,3] [] [(.int .i64 d)]=f0 d:=T0 d
theorem f0_eq1 (d:Int) (hc:(ile 0 d&&ile d 68719476736)=true):f0 d=some (.tup [.ptr 10 0,.int .i64 0],[(10,(.box 0 [(.int .i64 d),(.int .i64 (-137438953472:Int)),(.int .i64 (-68719476736:Int)),(.mp 8),(.ful 500001004),(.ful 500001005)])),(8,(.map .key .bool ([]:List (Key×Bool)))),(500001004,(.rows .msg ([]:List Msg))),(500001005,(.rows .msg ([]:List Msg)))]):=by
  show sh0 d=_
  unfold sh0
  rw [hc]
  rfl
theorem f0_eq2 (d:Int) (hc:(ile 0 d&&ile d 68719476736)=false):f0 d=some (.tup [.nilp,.int .i64 2],[]):=by
  show sh0 d=_
  unfold sh0
  rw [hc]
  rfl
theorem ok:CtxOk Try.prog X:=ctxOk tab (spC within.spOk spN) dpN
theorem okM:MOk Try.prog X:=fun g sp h=>by cases h
theorem spec1 (d:Int) (hc:(ile 0 d&&ile d 68719476736)=true):MCall Try.prog E 11 [(.int .i64 d)] [] (.tup [(.ptr 10 0),(.int .i64 (0:Int))]) [(10,(.box 0 [(.int .i64 (d)),(.int .i64 (-137438953472:Int)),(.int .i64 (-68719476736:Int)),(.mp 8),(.ful 500001004),(.ful 500001005)])),(8,(.map .key .bool ([]))),(500001004,(.rows .msg ([]))),(500001005,(.rows .msg ([])))] :=
  runM_sound ok okM Try.func11 (by kernel_rfl) (by kernel_rfl) (by kernel_rfl) (by show 1≤11; decide) ((run d).trans (f0_eq1 d hc))
theorem spec2 (d:Int) (hc:(ile 0 d&&ile d 68719476736)=false):MCall Try.prog E 11 [(.int .i64 d)] [] (.tup [.nilp,(.int .i64 (2:Int))]) [] :=
  runM_sound ok okM Try.func11 (by kernel_rfl) (by kernel_rfl) (by kernel_rfl) (by show 1≤11; decide) ((run d).trans (f0_eq2 d hc))
noncomputable def sp:MSp U El:=fun args hs k=>match args,hs with
  | [.int .i64 d],[]=>chk true (condB (ile 0 d&&ile d 68719476736) (k (.tup [(.ptr 10 0),(.int .i64 (0:Int))]) [(10,(.box 0 [(.int .i64 (d)),(.int .i64 (-137438953472:Int)),(.int .i64 (-68719476736:Int)),(.mp 8),(.ful 500001004),(.ful 500001005)])),(8,(.map .key .bool ([]))),(500001004,(.rows .msg ([]))),(500001005,(.rows .msg ([])))]) (k (.tup [.nilp,(.int .i64 (2:Int))]) []))
  | _,_=>none
theorem spOk:MSpOk Try.prog E 11 sp:=⟨Try.call11,fun args hs k r h=>by
  unfold sp at h
  split at h
  · obtain ⟨_, hA⟩ := chk_some h
    rcases condB_some hA with ⟨h2,h⟩ | ⟨h2,h⟩
    · exact ⟨_,_,spec1 _ h2,h⟩
    · exact ⟨_,_,spec2 _ h2,h⟩
  · cases h⟩
end newF
namespace fput
noncomputable def bd:Code:=(Try.f13.body).getD .skip
noncomputable def X:Ctx U El:=⟨E,tds,zeros,eqs,specOf [(38,right.sp),(39,keyOf.sp)],100000,89,dspecOf [],fun _=>none,fun _=>none⟩
noncomputable def nmR:Norm U:=⟨[],[4],[1000000000,1000000001,1000000002,1000000003],[],[(1000000000,3,.key,1000000001),(1000000000,4,.msg,1000000002),(1000000000,5,.msg,1000000003)],[],[]⟩
noncomputable def RR:Kont U El:=fun st=>normK nmR st (retM [4])
noncomputable def nm1:Norm U:=⟨[],[0,3],[3,1000000000,1000000001,1000000002,1000000003],[],[(1000000000,3,.key,1000000001),(1000000000,4,.msg,1000000002),(1000000000,5,.msg,1000000003)],[],[]⟩
noncomputable def nm2:Norm U:=⟨[],[0,3],[3,1000000000,1000000001,1000000002,1000000003],[],[(1000000000,3,.key,1000000001),(1000000000,4,.msg,1000000002),(1000000000,5,.msg,1000000003)],[],[]⟩
abbrev Y1:=Msg→Int→Int→Int→(List (Key×Bool))→(List Msg)→(List Msg)→R
abbrev Y2:=Msg→Int→Int→Int→(List (Key×Bool))→(List Msg)→(List Msg)→R
noncomputable def fr0 (m:Msg) (dl:Int) (mk:Int) (ls:Int) (got:List (Key×Bool)) (wt:List Msg) (lt:List Msg):St U El:=⟨[(0,(.ptr 1000000000 0)),(1,(.agg [(.str m.nd),(.int .i64 m.no),(.int .i64 m.at_),(.int .i64 m.ar),(.int .i64 m.lv)]))],[(1000000000,(.box 1000000000 [(.int .i64 dl),(.int .i64 mk),(.int .i64 ls),(.mp 1000000001),(.ful 1000000002),(.ful 1000000003)])),(1000000001,(.map .key .bool got)),(1000000002,(.rows .msg wt)),(1000000003,(.rows .msg lt))]⟩
noncomputable def fr1 (b3:Msg) (cA:Int) (bA:Int) (fA:Int) (eA:List (Key×Bool)) (aA:List Msg) (dA:List Msg):St U El:=⟨[(0,(.ptr 1000000000 0)),(3,(.ptr 3 0))],[(3,(.box 0 [(.str b3.nd),(.int .i64 b3.no),(.int .i64 b3.at_),(.int .i64 b3.ar),(.int .i64 b3.lv)])),(1000000000,(.box 1000000000 [(.int .i64 cA),(.int .i64 bA),(.int .i64 fA),(.mp 1000000001),(.ful 1000000002),(.ful 1000000003)])),(1000000001,(.map .key .bool eA)),(1000000002,(.rows .msg aA)),(1000000003,(.rows .msg dA))]⟩
noncomputable def fr2 (b3:Msg) (cA:Int) (bA:Int) (fA:Int) (eA:List (Key×Bool)) (aA:List Msg) (dA:List Msg):St U El:=⟨[(0,(.ptr 1000000000 0)),(3,(.ptr 3 0))],[(3,(.box 0 [(.str b3.nd),(.int .i64 b3.no),(.int .i64 b3.at_),(.int .i64 b3.ar),(.int .i64 b3.lv)])),(1000000000,(.box 1000000000 [(.int .i64 cA),(.int .i64 bA),(.int .i64 fA),(.mp 1000000001),(.ful 1000000002),(.ful 1000000003)])),(1000000001,(.map .key .bool eA)),(1000000002,(.rows .msg aA)),(1000000003,(.rows .msg dA))]⟩
noncomputable def sh0 (m:Msg) (dl:Int) (mk:Int) (ls:Int) (got:List (Key×Bool)) (wt:List Msg) (lt:List Msg) (k1:Y1):R :=
  condB (!(rightB m)) (some ((.int .i64 (1:Int)),[(1000000000,(.box 1000000000 [(.int .i64 dl),(.int .i64 mk),(.int .i64 ls),(.mp 1000000001),(.ful 1000000002),(.ful 1000000003)])),(1000000001,(.map .key .bool got)),(1000000002,(.rows .msg wt)),(1000000003,(.rows .msg lt))])) (condB (ilt m.ar ls) (some ((.int .i64 (17:Int)),[(1000000000,(.box 1000000000 [(.int .i64 dl),(.int .i64 mk),(.int .i64 ls),(.mp 1000000001),(.ful 1000000002),(.ful 1000000003)])),(1000000001,(.map .key .bool got)),(1000000002,(.rows .msg wt)),(1000000003,(.rows .msg lt))])) (condB (mgetD kq_key got (keyM m) d_bool) (some ((.int .i64 (10:Int)),[(1000000000,(.box 1000000000 [(.int .i64 dl),(.int .i64 mk),(.int .i64 ls),(.mp 1000000001),(.ful 1000000002),(.ful 1000000003)])),(1000000001,(.map .key .bool got)),(1000000002,(.rows .msg wt)),(1000000003,(.rows .msg lt))])) (condB (ile (10000:Int) (Int.ofNat (List.length got))) (some ((.int .i64 (4:Int)),[(1000000000,(.box 1000000000 [(.int .i64 dl),(.int .i64 mk),(.int .i64 ls),(.mp 1000000001),(.ful 1000000002),(.ful 1000000003)])),(1000000001,(.map .key .bool got)),(1000000002,(.rows .msg wt)),(1000000003,(.rows .msg lt))])) (k1 m dl mk ls got wt lt))))
noncomputable def sh1 (b3:Msg) (cA:Int) (bA:Int) (fA:Int) (eA:List (Key×Bool)) (aA:List Msg) (dA:List Msg) (k2:Y2):R :=
  condB (ilt b3.at_ bA) (chk (nle ((List.length dA+List.length ([b3]:List Msg)) * 48) 140737488355328&&nle (List.length dA+List.length ([b3]:List Msg)) 9223372036854775807) (k2 b3 cA bA fA (mput kq_key eA (keyM b3) true) aA (dA++([b3]:List Msg)))) (chk (nle ((List.length aA+List.length ([b3]:List Msg)) * 48) 140737488355328&&nle (List.length aA+List.length ([b3]:List Msg)) 9223372036854775807) (k2 b3 cA bA fA (mput kq_key eA (keyM b3) true) (aA++([b3]:List Msg)) dA))
noncomputable def sh2 (b3:Msg) (cA:Int) (bA:Int) (fA:Int) (eA:List (Key×Bool)) (aA:List Msg) (dA:List Msg):R :=
  some ((.int .i64 (0:Int)),[(1000000000,(.box 1000000000 [(.int .i64 cA),(.int .i64 (bif ilt bA (IntKind.wrap .i64 (b3.ar - cA)) then (IntKind.wrap .i64 (b3.ar - cA)) else bA)),(.int .i64 b3.ar),(.mp 1000000001),(.ful 1000000002),(.ful 1000000003)])),(1000000001,(.map .key .bool eA)),(1000000002,(.rows .msg aA)),(1000000003,(.rows .msg dA))])
noncomputable def ct1:Kont U El:=fun st=>exec X (cdp [1,1] bd) (.seq none (.region [(6,1000000001)]) (.seq (some nm2) (.seq none .d (.cond (.region [(7,1000000003),(10,1000000000)]) (.region [(7,1000000002),(10,1000000000)]))) (.seq none .d (.seq none (.region [(15,1000000000)]) .d)))) st RR (fun _ _=>none) RR
noncomputable def ct2:Kont U El:=fun st=>exec X (cdp [1,1,1,1] bd) (.seq none .d (.seq none (.region [(15,1000000000)]) .d)) st RR (fun _ _=>none) RR
theorem P0 (m dl mk ls got wt lt):exec X (cdp [] bd) (.seq none .d (.seq (some nm1) .d (.seq none (.region [(6,1000000001)]) (.seq (some nm2) (.seq none .d (.cond (.region [(7,1000000003),(10,1000000000)]) (.region [(7,1000000002),(10,1000000000)]))) (.seq none .d (.seq none (.region [(15,1000000000)]) .d)))))) (fr0 m dl mk ls got wt lt) RR (fun _ _=>none) RR=sh0 m dl mk ls got wt lt (fun y0 y1 y2 y3 y4 y5 y6=>(hid ct1) (fr1 y0 y1 y2 y3 y4 y5 y6)):=by kernel_rfl
theorem P1 (b3 cA bA fA eA aA dA):ct1 (fr1 b3 cA bA fA eA aA dA)=sh1 b3 cA bA fA eA aA dA (fun y0 y1 y2 y3 y4 y5 y6=>(hid ct2) (fr2 y0 y1 y2 y3 y4 y5 y6)):=by kernel_rfl
theorem P2 (b3 cA bA fA eA aA dA):ct2 (fr2 b3 cA bA fA eA aA dA)=sh2 b3 cA bA fA eA aA dA:=by kernel_rfl
noncomputable def f2 (b3:Msg) (cA:Int) (bA:Int) (fA:Int) (eA:List (Key×Bool)) (aA:List Msg) (dA:List Msg):R:=sh2 b3 cA bA fA eA aA dA
noncomputable def f1 (b3:Msg) (cA:Int) (bA:Int) (fA:Int) (eA:List (Key×Bool)) (aA:List Msg) (dA:List Msg):R:=sh1 b3 cA bA fA eA aA dA f2
noncomputable def f0 (m:Msg) (dl:Int) (mk:Int) (ls:Int) (got:List (Key×Bool)) (wt:List Msg) (lt:List Msg):R:=sh0 m dl mk ls got wt lt f1
theorem T2 (b3 cA bA fA eA aA dA):(hid ct2) (fr2 b3 cA bA fA eA aA dA)=f2 b3 cA bA fA eA aA dA:=by
  refine (congrFun (hid_eq _) _).trans <| (P2 b3 cA bA fA eA aA dA).trans ?_
  show _=sh2 b3 cA bA fA eA aA dA
  rfl
theorem T1 (b3 cA bA fA eA aA dA):(hid ct1) (fr1 b3 cA bA fA eA aA dA)=f1 b3 cA bA fA eA aA dA:=by
  refine (congrFun (hid_eq _) _).trans <| (P1 b3 cA bA fA eA aA dA).trans ?_
  show _=sh1 b3 cA bA fA eA aA dA f2
  simp only [T2]
theorem T0 (m dl mk ls got wt lt):exec X bd (.seq none .d (.seq (some nm1) .d (.seq none (.region [(6,1000000001)]) (.seq (some nm2) (.seq none .d (.cond (.region [(7,1000000003),(10,1000000000)]) (.region [(7,1000000002),(10,1000000000)]))) (.seq none .d (.seq none (.region [(15,1000000000)]) .d)))))) (fr0 m dl mk ls got wt lt) RR (fun _ _=>none) RR=f0 m dl mk ls got wt lt:=by
  refine (P0 m dl mk ls got wt lt).trans ?_
  show _=sh0 m dl mk ls got wt lt f1
  simp only [T1]
theorem run (m dl mk ls got wt lt):runM X bd (.seq none .d (.seq (some nm1) .d (.seq none (.region [(6,1000000001)]) (.seq (some nm2) (.seq none .d (.cond (.region [(7,1000000003),(10,1000000000)]) (.region [(7,1000000002),(10,1000000000)]))) (.seq none .d (.seq none (.region [(15,1000000000)]) .d)))))) nmR [4] [(1000000000,(.box 1000000000 [(.int .i64 dl),(.int .i64 mk),(.int .i64 ls),(.mp 1000000001),(.ful 1000000002),(.ful 1000000003)])),(1000000001,(.map .key .bool got)),(1000000002,(.rows .msg wt)),(1000000003,(.rows .msg lt))] [(.ptr 1000000000 0),(.agg [(.str m.nd),(.int .i64 m.no),(.int .i64 m.at_),(.int .i64 m.ar),(.int .i64 m.lv)])]=f0 m dl mk ls got wt lt:=T0 m dl mk ls got wt lt
theorem f0_eq (m:Msg) (dl:Int) (mk:Int) (ls:Int) (got:List (Key×Bool)) (wt:List Msg) (lt:List Msg) (h:(fsOk ⟨dl,mk,ls,got,wt,lt⟩)=true) :
    f0 m dl mk ls got wt lt=some (.int .i64 (putE ⟨dl,mk,ls,got,wt,lt⟩ m),hsF (putS ⟨dl,mk,ls,got,wt,lt⟩ m)):=by
  simp only [fsOk,Bool.and_eq_true] at h
  have h1:=nleI h.1
  have h2:=nleI h.2
  show sh0 m dl mk ls got wt lt f1=_
  simp only [putS,putE,upM]
  unfold sh0
  cases rightB m
  · rfl
  cases ilt m.ar ls
  rotate_left
  · rfl
  cases mgetD kq_key got (keyM m) d_bool
  rotate_left
  · rfl
  cases ile (10000:Int) (Int.ofNat (List.length got))
  rotate_left
  · rfl
  show sh1 m dl mk ls got wt lt f2=_
  unfold sh1
  cases ilt m.at_ mk
  · rw [condF, capT (by omega) (by simp)]
    rfl
  · rw [condT, capT (by omega) (by simp)]
    rfl
theorem ok:CtxOk Try.prog X:=ctxOk tab (spC right.spOk (spC keyOf.spOk spN)) dpN
theorem okM:MOk Try.prog X:=fun g sp h=>by cases h
theorem spec (m:Msg) (dl:Int) (mk:Int) (ls:Int) (got:List (Key×Bool)) (wt:List Msg) (lt:List Msg) (h:(fsOk ⟨dl,mk,ls,got,wt,lt⟩)=true):MCall Try.prog E 13 [(.ptr 1000000000 0),(.agg [(.str m.nd),(.int .i64 m.no),(.int .i64 m.at_),(.int .i64 m.ar),(.int .i64 m.lv)])] [(1000000000,(.box 1000000000 [(.int .i64 dl),(.int .i64 mk),(.int .i64 ls),(.mp 1000000001),(.ful 1000000002),(.ful 1000000003)])),(1000000001,(.map .key .bool got)),(1000000002,(.rows .msg wt)),(1000000003,(.rows .msg lt))] (.int .i64 (putE ⟨dl,mk,ls,got,wt,lt⟩ m)) [(1000000000,(.box 1000000000 [(.int .i64 dl),(.int .i64 (FS.mk_ (putS ⟨dl,mk,ls,got,wt,lt⟩ m))),(.int .i64 (FS.ls (putS ⟨dl,mk,ls,got,wt,lt⟩ m))),(.mp 1000000001),(.ful 1000000002),(.ful 1000000003)])),(1000000001,(.map .key .bool (FS.got (putS ⟨dl,mk,ls,got,wt,lt⟩ m)))),(1000000002,(.rows .msg (FS.wt (putS ⟨dl,mk,ls,got,wt,lt⟩ m)))),(1000000003,(.rows .msg (FS.lt (putS ⟨dl,mk,ls,got,wt,lt⟩ m))))] :=
  runM_sound ok okM Try.func13 (by kernel_rfl) (by kernel_rfl) (by kernel_rfl) (by show 2≤89; decide) ((run m dl mk ls got wt lt).trans (f0_eq m dl mk ls got wt lt h))
noncomputable def sp:MSp U El:=fun args hs k=>match args,hs with
  | [.ptr q0 0,.agg [.str m_nd,.int .i64 m_no,.int .i64 m_at_,.int .i64 m_ar,.int .i64 m_lv]],[(q1,.box q2 [.int .i64 dl,.int .i64 mk,.int .i64 ls,.mp q3,.ful q4,.ful q5]),(q6,.map .key .bool got),(q7,.rows .msg wt),(q8,.rows .msg lt)]=>chk (Nat.beq q0 1000000000&&(Nat.beq q1 1000000000&&(Nat.beq q2 1000000000&&(Nat.beq q3 1000000001&&(Nat.beq q4 1000000002&&(Nat.beq q5 1000000003&&(Nat.beq q6 1000000001&&(Nat.beq q7 1000000002&&(Nat.beq q8 1000000003&&true))))))))) (chk (fsOk ⟨dl,mk,ls,got,wt,lt⟩) (k (.int .i64 (putE ⟨dl,mk,ls,got,wt,lt⟩ (⟨m_nd,m_no,m_at_,m_ar,m_lv⟩:Msg))) [(1000000000,(.box 1000000000 [(.int .i64 dl),(.int .i64 (FS.mk_ (putS ⟨dl,mk,ls,got,wt,lt⟩ (⟨m_nd,m_no,m_at_,m_ar,m_lv⟩:Msg)))),(.int .i64 (FS.ls (putS ⟨dl,mk,ls,got,wt,lt⟩ (⟨m_nd,m_no,m_at_,m_ar,m_lv⟩:Msg)))),(.mp 1000000001),(.ful 1000000002),(.ful 1000000003)])),(1000000001,(.map .key .bool (FS.got (putS ⟨dl,mk,ls,got,wt,lt⟩ (⟨m_nd,m_no,m_at_,m_ar,m_lv⟩:Msg))))),(1000000002,(.rows .msg (FS.wt (putS ⟨dl,mk,ls,got,wt,lt⟩ (⟨m_nd,m_no,m_at_,m_ar,m_lv⟩:Msg))))),(1000000003,(.rows .msg (FS.lt (putS ⟨dl,mk,ls,got,wt,lt⟩ (⟨m_nd,m_no,m_at_,m_ar,m_lv⟩:Msg)))))]))
  | _,_=>none
theorem spOk:MSpOk Try.prog E 13 sp:=⟨Try.call13,fun args hs k r h=>by
  unfold sp at h
  split at h
  · obtain ⟨hq, hA⟩ := chk_some h
    clear h
    simp only [Bool.and_eq_true] at hq
    obtain ⟨e0,e1,e2,e3,e4,e5,e6,e7,e8,_⟩:=hq
    cases Nat.eq_of_beq_eq_true e0
    cases Nat.eq_of_beq_eq_true e1
    cases Nat.eq_of_beq_eq_true e2
    cases Nat.eq_of_beq_eq_true e3
    cases Nat.eq_of_beq_eq_true e4
    cases Nat.eq_of_beq_eq_true e5
    cases Nat.eq_of_beq_eq_true e6
    cases Nat.eq_of_beq_eq_true e7
    cases Nat.eq_of_beq_eq_true e8
    obtain ⟨h1,hB⟩:=chk_some hA
    exact ⟨_,_,spec ⟨_,_,_,_,_⟩ _ _ _ _ _ _ h1,hB⟩
  · cases h⟩
theorem spDet:∀ args hs,∃ oo:Option (AV U El×Heap U El),∀ k,sp args hs k=oo.bind fun p=>k p.1 p.2:=fun args hs=>by
  unfold sp
  split
  · exact det_chkM (det_chkM ⟨some (_,_),fun _=>rfl⟩)
  · exact ⟨none,fun _=>rfl⟩
end fput
namespace fmark
noncomputable def bd:Code:=(Try.f14.body).getD .skip
noncomputable def X:Ctx U El:=⟨E,tds,zeros,eqs,specOf [],100000,9,dspecOf [],fun _=>none,fun _=>none⟩
noncomputable def nmR:Norm U:=⟨[],[2],[1000000000,1000000001,1000000002,1000000003],[],[(1000000000,3,.key,1000000001),(1000000000,4,.msg,1000000002),(1000000000,5,.msg,1000000003)],[],[]⟩
noncomputable def RR:Kont U El:=fun st=>normK nmR st (retM [2])
noncomputable def fr0 (dl:Int) (mk:Int) (ls:Int) (got:List (Key×Bool)) (wt:List Msg) (lt:List Msg):St U El:=⟨[(0,(.ptr 1000000000 0))],[(1000000000,(.box 1000000000 [(.int .i64 dl),(.int .i64 mk),(.int .i64 ls),(.mp 1000000001),(.ful 1000000002),(.ful 1000000003)])),(1000000001,(.map .key .bool got)),(1000000002,(.rows .msg wt)),(1000000003,(.rows .msg lt))]⟩
noncomputable def sh0 (dl:Int) (mk:Int) (ls:Int) (got:List (Key×Bool)) (wt:List Msg) (lt:List Msg):R :=
  some ((.int .i64 mk),[(1000000000,(.box 1000000000 [(.int .i64 dl),(.int .i64 mk),(.int .i64 ls),(.mp 1000000001),(.ful 1000000002),(.ful 1000000003)])),(1000000001,(.map .key .bool got)),(1000000002,(.rows .msg wt)),(1000000003,(.rows .msg lt))])
theorem P0 (dl mk ls got wt lt):exec X (cdp [] bd) .d (fr0 dl mk ls got wt lt) RR (fun _ _=>none) RR=sh0 dl mk ls got wt lt:=by kernel_rfl
noncomputable def f0 (dl:Int) (mk:Int) (ls:Int) (got:List (Key×Bool)) (wt:List Msg) (lt:List Msg):R:=sh0 dl mk ls got wt lt
theorem T0 (dl mk ls got wt lt):exec X bd .d (fr0 dl mk ls got wt lt) RR (fun _ _=>none) RR=f0 dl mk ls got wt lt:=by
  refine (P0 dl mk ls got wt lt).trans ?_
  show _=sh0 dl mk ls got wt lt
  rfl
theorem run (dl mk ls got wt lt):runM X bd .d nmR [2] [(1000000000,(.box 1000000000 [(.int .i64 dl),(.int .i64 mk),(.int .i64 ls),(.mp 1000000001),(.ful 1000000002),(.ful 1000000003)])),(1000000001,(.map .key .bool got)),(1000000002,(.rows .msg wt)),(1000000003,(.rows .msg lt))] [(.ptr 1000000000 0)]=f0 dl mk ls got wt lt:=T0 dl mk ls got wt lt
theorem f0_eq (dl:Int) (mk:Int) (ls:Int) (got:List (Key×Bool)) (wt:List Msg) (lt:List Msg):f0 dl mk ls got wt lt=some (.int .i64 mk,hsF ⟨dl,mk,ls,got,wt,lt⟩):=rfl
theorem ok:CtxOk Try.prog X:=ctxOk tab spN dpN
theorem okM:MOk Try.prog X:=fun g sp h=>by cases h
theorem spec (dl:Int) (mk:Int) (ls:Int) (got:List (Key×Bool)) (wt:List Msg) (lt:List Msg):MCall Try.prog E 14 [(.ptr 1000000000 0)] [(1000000000,(.box 1000000000 [(.int .i64 dl),(.int .i64 mk),(.int .i64 ls),(.mp 1000000001),(.ful 1000000002),(.ful 1000000003)])),(1000000001,(.map .key .bool got)),(1000000002,(.rows .msg wt)),(1000000003,(.rows .msg lt))] (.int .i64 (mk)) [(1000000000,(.box 1000000000 [(.int .i64 dl),(.int .i64 mk),(.int .i64 ls),(.mp 1000000001),(.ful 1000000002),(.ful 1000000003)])),(1000000001,(.map .key .bool got)),(1000000002,(.rows .msg wt)),(1000000003,(.rows .msg lt))] :=
  runM_sound ok okM Try.func14 (by kernel_rfl) (by kernel_rfl) (by kernel_rfl) (by show 1≤9; decide) ((run dl mk ls got wt lt).trans (f0_eq dl mk ls got wt lt))
noncomputable def sp:MSp U El:=fun args hs k=>match args,hs with
  | [.ptr q0 0],[(q1,.box q2 [.int .i64 dl,.int .i64 mk,.int .i64 ls,.mp q3,.ful q4,.ful q5]),(q6,.map .key .bool got),(q7,.rows .msg wt),(q8,.rows .msg lt)]=>chk (Nat.beq q0 1000000000&&(Nat.beq q1 1000000000&&(Nat.beq q2 1000000000&&(Nat.beq q3 1000000001&&(Nat.beq q4 1000000002&&(Nat.beq q5 1000000003&&(Nat.beq q6 1000000001&&(Nat.beq q7 1000000002&&(Nat.beq q8 1000000003&&true))))))))) (k (.int .i64 (mk)) [(1000000000,(.box 1000000000 [(.int .i64 dl),(.int .i64 mk),(.int .i64 ls),(.mp 1000000001),(.ful 1000000002),(.ful 1000000003)])),(1000000001,(.map .key .bool got)),(1000000002,(.rows .msg wt)),(1000000003,(.rows .msg lt))])
  | _,_=>none
theorem spOk:MSpOk Try.prog E 14 sp:=⟨Try.call14,fun args hs k r h=>by
  unfold sp at h
  split at h
  · obtain ⟨hq, hA⟩ := chk_some h
    clear h
    simp only [Bool.and_eq_true] at hq
    obtain ⟨e0,e1,e2,e3,e4,e5,e6,e7,e8,_⟩:=hq
    cases Nat.eq_of_beq_eq_true e0
    cases Nat.eq_of_beq_eq_true e1
    cases Nat.eq_of_beq_eq_true e2
    cases Nat.eq_of_beq_eq_true e3
    cases Nat.eq_of_beq_eq_true e4
    cases Nat.eq_of_beq_eq_true e5
    cases Nat.eq_of_beq_eq_true e6
    cases Nat.eq_of_beq_eq_true e7
    cases Nat.eq_of_beq_eq_true e8
    exact ⟨_,_,spec _ _ _ _ _ _,hA⟩
  · cases h⟩
theorem spDet:∀ args hs,∃ oo:Option (AV U El×Heap U El),∀ k,sp args hs k=oo.bind fun p=>k p.1 p.2:=fun args hs=>by
  unfold sp
  split
  · exact det_chkM ⟨some (_,_),fun _=>rfl⟩
  · exact ⟨none,fun _=>rfl⟩
end fmark
namespace flate
noncomputable def bd:Code:=(Try.f17.body).getD .skip
noncomputable def X:Ctx U El:=⟨E,tds,zeros,eqs,specOf [(22,cloneM.sp)],100000,10,dspecOf [],fun _=>none,fun _=>none⟩
noncomputable def nmR:Norm U:=⟨[(2,.msg)],[2],[2,1000000000,1000000001,1000000002,1000000003],[],[(1000000000,3,.key,1000000001),(1000000000,4,.msg,1000000002),(1000000000,5,.msg,1000000003)],[],[]⟩
noncomputable def RR:Kont U El:=fun st=>normK nmR st (retM [2])
noncomputable def fr0 (dl:Int) (mk:Int) (ls:Int) (got:List (Key×Bool)) (wt:List Msg) (lt:List Msg):St U El:=⟨[(0,(.ptr 1000000000 0))],[(1000000000,(.box 1000000000 [(.int .i64 dl),(.int .i64 mk),(.int .i64 ls),(.mp 1000000001),(.ful 1000000002),(.ful 1000000003)])),(1000000001,(.map .key .bool got)),(1000000002,(.rows .msg wt)),(1000000003,(.rows .msg lt))]⟩
noncomputable def sh0 (dl:Int) (mk:Int) (ls:Int) (got:List (Key×Bool)) (wt:List Msg) (lt:List Msg):R :=
  chk (nle (List.length lt) 100000) (some ((.ful 2),[(2,.rows .msg (lt)),(1000000000,(.box 1000000000 [(.int .i64 dl),(.int .i64 mk),(.int .i64 ls),(.mp 1000000001),(.ful 1000000002),(.ful 1000000003)])),(1000000001,(.map .key .bool got)),(1000000002,(.rows .msg wt)),(1000000003,(.rows .msg lt))]))
theorem P0 (dl mk ls got wt lt):exec X (cdp [] bd) .d (fr0 dl mk ls got wt lt) RR (fun _ _=>none) RR=sh0 dl mk ls got wt lt:=by kernel_rfl
noncomputable def f0 (dl:Int) (mk:Int) (ls:Int) (got:List (Key×Bool)) (wt:List Msg) (lt:List Msg):R:=sh0 dl mk ls got wt lt
theorem T0 (dl mk ls got wt lt):exec X bd .d (fr0 dl mk ls got wt lt) RR (fun _ _=>none) RR=f0 dl mk ls got wt lt:=by
  refine (P0 dl mk ls got wt lt).trans ?_
  show _=sh0 dl mk ls got wt lt
  rfl
theorem run (dl mk ls got wt lt):runM X bd .d nmR [2] [(1000000000,(.box 1000000000 [(.int .i64 dl),(.int .i64 mk),(.int .i64 ls),(.mp 1000000001),(.ful 1000000002),(.ful 1000000003)])),(1000000001,(.map .key .bool got)),(1000000002,(.rows .msg wt)),(1000000003,(.rows .msg lt))] [(.ptr 1000000000 0)]=f0 dl mk ls got wt lt:=T0 dl mk ls got wt lt
theorem f0_eq (dl:Int) (mk:Int) (ls:Int) (got:List (Key×Bool)) (wt:List Msg) (lt:List Msg) (h:(nle (List.length lt) 90000)=true):f0 dl mk ls got wt lt=some (.ful 2,(2,.rows .msg lt) :: hsF ⟨dl,mk,ls,got,wt,lt⟩):=by
  have:=nleI h
  show sh0 dl mk ls got wt lt=_
  unfold sh0
  rw [nleT (by omega)]
  rfl
theorem ok:CtxOk Try.prog X:=ctxOk tab (spC cloneM.spOk spN) dpN
theorem okM:MOk Try.prog X:=fun g sp h=>by cases h
theorem spec (dl:Int) (mk:Int) (ls:Int) (got:List (Key×Bool)) (wt:List Msg) (lt:List Msg) (h:(nle (List.length lt) 90000)=true):MCall Try.prog E 17 [(.ptr 1000000000 0)] [(1000000000,(.box 1000000000 [(.int .i64 dl),(.int .i64 mk),(.int .i64 ls),(.mp 1000000001),(.ful 1000000002),(.ful 1000000003)])),(1000000001,(.map .key .bool got)),(1000000002,(.rows .msg wt)),(1000000003,(.rows .msg lt))] (.ful 2) [(2,(.rows .msg (lt))),(1000000000,(.box 1000000000 [(.int .i64 dl),(.int .i64 mk),(.int .i64 ls),(.mp 1000000001),(.ful 1000000002),(.ful 1000000003)])),(1000000001,(.map .key .bool got)),(1000000002,(.rows .msg wt)),(1000000003,(.rows .msg lt))] :=
  runM_sound ok okM Try.func17 (by kernel_rfl) (by kernel_rfl) (by kernel_rfl) (by show 1≤10; decide) ((run dl mk ls got wt lt).trans (f0_eq dl mk ls got wt lt h))
noncomputable def sp:MSp U El:=fun args hs k=>match args,hs with
  | [.ptr q0 0],[(q1,.box q2 [.int .i64 dl,.int .i64 mk,.int .i64 ls,.mp q3,.ful q4,.ful q5]),(q6,.map .key .bool got),(q7,.rows .msg wt),(q8,.rows .msg lt)]=>chk (Nat.beq q0 1000000000&&(Nat.beq q1 1000000000&&(Nat.beq q2 1000000000&&(Nat.beq q3 1000000001&&(Nat.beq q4 1000000002&&(Nat.beq q5 1000000003&&(Nat.beq q6 1000000001&&(Nat.beq q7 1000000002&&(Nat.beq q8 1000000003&&true))))))))) (chk (nle (List.length lt) 90000) (k (.ful 2) [(2,(.rows .msg (lt))),(1000000000,(.box 1000000000 [(.int .i64 dl),(.int .i64 mk),(.int .i64 ls),(.mp 1000000001),(.ful 1000000002),(.ful 1000000003)])),(1000000001,(.map .key .bool got)),(1000000002,(.rows .msg wt)),(1000000003,(.rows .msg lt))]))
  | _,_=>none
theorem spOk:MSpOk Try.prog E 17 sp:=⟨Try.call17,fun args hs k r h=>by
  unfold sp at h
  split at h
  · obtain ⟨hq, hA⟩ := chk_some h
    clear h
    simp only [Bool.and_eq_true] at hq
    obtain ⟨e0,e1,e2,e3,e4,e5,e6,e7,e8,_⟩:=hq
    cases Nat.eq_of_beq_eq_true e0
    cases Nat.eq_of_beq_eq_true e1
    cases Nat.eq_of_beq_eq_true e2
    cases Nat.eq_of_beq_eq_true e3
    cases Nat.eq_of_beq_eq_true e4
    cases Nat.eq_of_beq_eq_true e5
    cases Nat.eq_of_beq_eq_true e6
    cases Nat.eq_of_beq_eq_true e7
    cases Nat.eq_of_beq_eq_true e8
    obtain ⟨h1,hB⟩:=chk_some hA
    exact ⟨_,_,spec _ _ _ _ _ _ h1,hB⟩
  · cases h⟩
theorem spDet:∀ args hs,∃ oo:Option (AV U El×Heap U El),∀ k,sp args hs k=oo.bind fun p=>k p.1 p.2:=fun args hs=>by
  unfold sp
  split
  · exact det_chkM (det_chkM ⟨some (_,_),fun _=>rfl⟩)
  · exact ⟨none,fun _=>rfl⟩
end flate
theorem keysB_sub {xs ys:List Msg} (h:keysB xs=true) (hs:∀ y,y∈ys→y∈xs):keysB ys=true :=
  keysB_iff.2 fun x hx y hy=>keysB_iff.1 h x (hs x hx) y (hs y hy)
namespace fready
noncomputable def bd:Code:=(Try.f19.body).getD .skip
noncomputable def X:Ctx U El:=⟨E,tds,zeros,eqs,specOf [],100000,41,dspecOf [],mspecOf [(40,sortMSp)],fun _=>none⟩
noncomputable def nmR:Norm U:=⟨[(2,.msg)],[2],[2,1000000000,1000000001,1000000002,1000000003],[],[(1000000000,3,.key,1000000001),(1000000000,4,.msg,1000000002),(1000000000,5,.msg,1000000003)],[],[]⟩
noncomputable def RR:Kont U El:=fun st=>normK nmR st (retM [2])
noncomputable def nm1:Norm U:=⟨[(3,.msg),(4,.msg)],[0,3,4],[3,4,1000000000,1000000001,1000000002,1000000003],[],[(1000000000,3,.key,1000000001),(1000000000,4,.msg,1000000002),(1000000000,5,.msg,1000000003)],[],[]⟩
noncomputable def nm2:Norm U:=⟨[(3,.msg),(4,.msg)],[0,3,4,12,13,14],[3,4,1000000000,1000000001,1000000002,1000000003],[],[(1000000000,3,.key,1000000001),(1000000000,4,.msg,1000000002),(1000000000,5,.msg,1000000003)],[],[]⟩
noncomputable def nm3:Norm U:=⟨[(3,.msg),(4,.msg)],[0,3,4,12,13,14],[3,4,1000000000,1000000001,1000000002,1000000003],[],[(1000000000,3,.key,1000000001),(1000000000,4,.msg,1000000002),(1000000000,5,.msg,1000000003)],[],[]⟩
abbrev Y1:=(List Msg)→(List Msg)→Int→Int→Int→(List (Key×Bool))→(List Msg)→(List Msg)→R
abbrev Y2:=(List Msg)→(List Msg)→Int→Int→Int→Int→Int→(List (Key×Bool))→(List Msg)→(List Msg)→R
abbrev Y3:=(List Msg)→(List Msg)→Int→Int→Int→Int→Int→(List (Key×Bool))→(List Msg)→(List Msg)→R
noncomputable def fr0 (dl:Int) (mk:Int) (ls:Int) (got:List (Key×Bool)) (wt:List Msg) (lt:List Msg):St U El:=⟨[(0,(.ptr 1000000000 0))],[(1000000000,(.box 1000000000 [(.int .i64 dl),(.int .i64 mk),(.int .i64 ls),(.mp 1000000001),(.ful 1000000002),(.ful 1000000003)])),(1000000001,(.map .key .bool got)),(1000000002,(.rows .msg wt)),(1000000003,(.rows .msg lt))]⟩
noncomputable def fr1 (iA:List Msg) (gA:List Msg) (cA:Int) (bA:Int) (fA:Int) (eA:List (Key×Bool)) (aA:List Msg) (dA:List Msg):St U El:=⟨[(0,(.ptr 1000000000 0)),(3,(.ful 3)),(4,(.ful 4))],[(3,(.rows .msg iA)),(4,(.rows .msg gA)),(1000000000,(.box 1000000000 [(.int .i64 cA),(.int .i64 bA),(.int .i64 fA),(.mp 1000000001),(.ful 1000000002),(.ful 1000000003)])),(1000000001,(.map .key .bool eA)),(1000000002,(.rows .msg aA)),(1000000003,(.rows .msg dA))]⟩
noncomputable def fr2 (iA:List Msg) (gA:List Msg) (kA:Int) (jA:Int) (cA:Int) (bA:Int) (fA:Int) (eA:List (Key×Bool)) (aA:List Msg) (dA:List Msg):St U El:=⟨[(0,(.ptr 1000000000 0)),(3,(.ful 3)),(4,(.ful 4)),(12,(.ful 1000000002)),(13,(.int .i64 kA)),(14,(.int .i64 jA))],[(3,(.rows .msg iA)),(4,(.rows .msg gA)),(1000000000,(.box 1000000000 [(.int .i64 cA),(.int .i64 bA),(.int .i64 fA),(.mp 1000000001),(.ful 1000000002),(.ful 1000000003)])),(1000000001,(.map .key .bool eA)),(1000000002,(.rows .msg aA)),(1000000003,(.rows .msg dA))]⟩
noncomputable def fr3 (iA:List Msg) (gA:List Msg) (kA:Int) (jA:Int) (cA:Int) (bA:Int) (fA:Int) (eA:List (Key×Bool)) (aA:List Msg) (dA:List Msg):St U El:=⟨[(0,(.ptr 1000000000 0)),(3,(.ful 3)),(4,(.ful 4)),(12,(.ful 1000000002)),(13,(.int .i64 kA)),(14,(.int .i64 jA))],[(3,(.rows .msg iA)),(4,(.rows .msg gA)),(1000000000,(.box 1000000000 [(.int .i64 cA),(.int .i64 bA),(.int .i64 fA),(.mp 1000000001),(.ful 1000000002),(.ful 1000000003)])),(1000000001,(.map .key .bool eA)),(1000000002,(.rows .msg aA)),(1000000003,(.rows .msg dA))]⟩
noncomputable def sh0 (dl:Int) (mk:Int) (ls:Int) (got:List (Key×Bool)) (wt:List Msg) (lt:List Msg) (k2:Y2):R :=
  k2 ([]:List Msg) ([]:List Msg) (Int.ofNat (List.length wt)) (0:Int) dl mk ls got wt lt
noncomputable def sh1 (iA:List Msg) (gA:List Msg) (cA:Int) (bA:Int) (fA:Int) (eA:List (Key×Bool)) (aA:List Msg) (dA:List Msg):R :=
  chk (true&&(keysB iA&&nle (List.length iA) 4611686018427387903)) (some ((.ful 2),[(2,.rows .msg (sortM iA)),(1000000000,(.box 1000000000 [(.int .i64 cA),(.int .i64 bA),(.int .i64 fA),(.mp 1000000001),(.ful 1000000002),(.ful 1000000003)])),(1000000001,(.map .key .bool eA)),(1000000002,(.rows .msg gA)),(1000000003,(.rows .msg dA))]))
noncomputable def sh2 (iA:List Msg) (gA:List Msg) (kA:Int) (jA:Int) (cA:Int) (bA:Int) (fA:Int) (eA:List (Key×Bool)) (aA:List Msg) (dA:List Msg) (k1:Y1) (k3:Y3):R :=
  condB (ilt jA kA) (chk (inb jA (List.length aA)) (chk (nlt (Int.toNat jA) (List.length aA)) (condB (ilt ((List.getD aA (Int.toNat jA) d_msg).at_) bA) (chk (nle ((List.length iA+List.length ([(List.getD aA (Int.toNat jA) d_msg)]:List Msg)) * 48) 140737488355328&&nle (List.length iA+List.length ([(List.getD aA (Int.toNat jA) d_msg)]:List Msg)) 9223372036854775807) (k3 (iA++([(List.getD aA (Int.toNat jA) d_msg)]:List Msg)) gA kA jA cA bA fA eA aA dA)) (chk (nle ((List.length gA+List.length ([(List.getD aA (Int.toNat jA) d_msg)]:List Msg)) * 48) 140737488355328&&nle (List.length gA+List.length ([(List.getD aA (Int.toNat jA) d_msg)]:List Msg)) 9223372036854775807) (k3 iA (gA++([(List.getD aA (Int.toNat jA) d_msg)]:List Msg)) kA jA cA bA fA eA aA dA))))) (k1 iA gA cA bA fA eA aA dA)
noncomputable def sh3 (iA:List Msg) (gA:List Msg) (kA:Int) (jA:Int) (cA:Int) (bA:Int) (fA:Int) (eA:List (Key×Bool)) (aA:List Msg) (dA:List Msg) (k2:Y2):R :=
  k2 iA gA kA (IntKind.wrap .i64 (jA+(1:Int))) cA bA fA eA aA dA
noncomputable def it2 (Kb1:Kont U El) (n:Nat):Kont U El:=iter nm2 (fun st' K'=>exec X (cdp [1,1,1,0,1,0,0] bd) (.seq none .d (.seq none .d (.seq (some nm3) .d .d))) st' K' (Eblk 0 (cutK nm1 Kb1) (fun _ _=>none)) RR) n
noncomputable def ct1:Kont U El:=fun st=>exec X (cdp [1,1,1,1] bd) .d st RR (fun _ _=>none) RR
noncomputable def ct3 (Kb1 Kb2:Kont U El):Kont U El:=fun st=>exec X (cdp [1,1,1,0,1,0,0,1,1,1] bd) .d st (cutK nm2 Kb2) (Eblk 0 (cutK nm1 Kb1) (fun _ _=>none)) RR
theorem P0 (dl mk ls got wt lt):exec X (cdp [] bd) (.seq none .d (.seq none .d (.seq none .d (.seq (some nm1) (.seq none .d (.block (.loop nm2 (.seq none .d (.seq none .d (.seq (some nm3) .d .d)))))) .d)))) (fr0 dl mk ls got wt lt) RR (fun _ _=>none) RR=sh0 dl mk ls got wt lt (fun y0 y1 y2 y3 y4 y5 y6 y7 y8 y9=>(hid (it2 (hid ct1) 100000)) (fr2 y0 y1 y2 y3 y4 y5 y6 y7 y8 y9)):=by kernel_rfl
theorem P1 (iA gA cA bA fA eA aA dA):ct1 (fr1 iA gA cA bA fA eA aA dA)=sh1 iA gA cA bA fA eA aA dA:=by kernel_rfl
theorem P2 (iA gA kA jA cA bA fA eA aA dA) (Kb1 Kb2:Kont U El):exec X (cdp [1,1,1,0,1,0,0] bd) (.seq none .d (.seq none .d (.seq (some nm3) .d .d))) (fr2 iA gA kA jA cA bA fA eA aA dA) (cutK nm2 Kb2) (Eblk 0 (cutK nm1 Kb1) (fun _ _=>none)) RR=sh2 iA gA kA jA cA bA fA eA aA dA (fun y0 y1 y2 y3 y4 y5 y6 y7=>Kb1 (fr1 y0 y1 y2 y3 y4 y5 y6 y7)) (fun y0 y1 y2 y3 y4 y5 y6 y7 y8 y9=>(hid (ct3 Kb1 Kb2)) (fr3 y0 y1 y2 y3 y4 y5 y6 y7 y8 y9)):=by kernel_rfl
theorem P3 (iA gA kA jA cA bA fA eA aA dA) (Kb1 Kb2:Kont U El):ct3 Kb1 Kb2 (fr3 iA gA kA jA cA bA fA eA aA dA)=sh3 iA gA kA jA cA bA fA eA aA dA (fun y0 y1 y2 y3 y4 y5 y6 y7 y8 y9=>Kb2 (fr2 y0 y1 y2 y3 y4 y5 y6 y7 y8 y9)):=by kernel_rfl
noncomputable def f1 (iA:List Msg) (gA:List Msg) (cA:Int) (bA:Int) (fA:Int) (eA:List (Key×Bool)) (aA:List Msg) (dA:List Msg):R:=sh1 iA gA cA bA fA eA aA dA
noncomputable def f3 (k2:Y2) (iA:List Msg) (gA:List Msg) (kA:Int) (jA:Int) (cA:Int) (bA:Int) (fA:Int) (eA:List (Key×Bool)) (aA:List Msg) (dA:List Msg):R:=sh3 iA gA kA jA cA bA fA eA aA dA k2
noncomputable def f2:Nat→Y2
  | 0=>fun _ _ _ _ _ _ _ _ _ _=>none
  | n+1=>fun iA gA kA jA cA bA fA eA aA dA=>sh2 iA gA kA jA cA bA fA eA aA dA f1 (f3 (f2 n))
noncomputable def f0 (dl:Int) (mk:Int) (ls:Int) (got:List (Key×Bool)) (wt:List Msg) (lt:List Msg):R:=sh0 dl mk ls got wt lt (f2 100000)
theorem T1 (iA gA cA bA fA eA aA dA):(hid ct1) (fr1 iA gA cA bA fA eA aA dA)=f1 iA gA cA bA fA eA aA dA:=by
  refine (congrFun (hid_eq _) _).trans <| (P1 iA gA cA bA fA eA aA dA).trans ?_
  show _=sh1 iA gA cA bA fA eA aA dA
  rfl
theorem T3 (KL2:Kont U El) (k2:Y2) (h2:∀ iA gA kA jA cA bA fA eA aA dA,KL2 (fr2 iA gA kA jA cA bA fA eA aA dA)=k2 iA gA kA jA cA bA fA eA aA dA) (iA gA kA jA cA bA fA eA aA dA):(hid (ct3 (hid ct1) KL2)) (fr3 iA gA kA jA cA bA fA eA aA dA)=f3 k2 iA gA kA jA cA bA fA eA aA dA:=by
  refine (congrFun (hid_eq _) _).trans <| (P3 iA gA kA jA cA bA fA eA aA dA (hid ct1) KL2).trans ?_
  show _=sh3 iA gA kA jA cA bA fA eA aA dA k2
  simp only [h2]
theorem T2:∀ (n:Nat),∀ iA gA kA jA cA bA fA eA aA dA,it2 (hid ct1) n (fr2 iA gA kA jA cA bA fA eA aA dA)=f2 n iA gA kA jA cA bA fA eA aA dA:=by
  intro n
  induction n with
  | zero=>intros; rfl
  | succ n ih =>
    intro iA gA kA jA cA bA fA eA aA dA
    refine (P2 iA gA kA jA cA bA fA eA aA dA (hid ct1) (it2 (hid ct1) n)).trans ?_
    show _=sh2 iA gA kA jA cA bA fA eA aA dA f1 (f3 (f2 n))
    simp only [T1,T3 (it2 (hid ct1) n) (f2 n) ih]
theorem H2 (iA gA kA jA cA bA fA eA aA dA):hid (it2 (hid ct1) 100000) (fr2 iA gA kA jA cA bA fA eA aA dA)=f2 100000 iA gA kA jA cA bA fA eA aA dA:=(congrFun (hid_eq _) _).trans (T2 100000 iA gA kA jA cA bA fA eA aA dA)
theorem T0 (dl mk ls got wt lt):exec X bd (.seq none .d (.seq none .d (.seq none .d (.seq (some nm1) (.seq none .d (.block (.loop nm2 (.seq none .d (.seq none .d (.seq (some nm3) .d .d)))))) .d)))) (fr0 dl mk ls got wt lt) RR (fun _ _=>none) RR=f0 dl mk ls got wt lt:=by
  refine (P0 dl mk ls got wt lt).trans ?_
  show _=sh0 dl mk ls got wt lt (f2 100000)
  simp only [H2]
theorem run (dl mk ls got wt lt):runM X bd (.seq none .d (.seq none .d (.seq none .d (.seq (some nm1) (.seq none .d (.block (.loop nm2 (.seq none .d (.seq none .d (.seq (some nm3) .d .d)))))) .d)))) nmR [2] [(1000000000,(.box 1000000000 [(.int .i64 dl),(.int .i64 mk),(.int .i64 ls),(.mp 1000000001),(.ful 1000000002),(.ful 1000000003)])),(1000000001,(.map .key .bool got)),(1000000002,(.rows .msg wt)),(1000000003,(.rows .msg lt))] [(.ptr 1000000000 0)]=f0 dl mk ls got wt lt:=T0 dl mk ls got wt lt
theorem fin (dl:Int) (mk:Int) (ls:Int) (got:List (Key×Bool)) (wt:List Msg) (lt:List Msg) (o w:List Msg) (ho:o.length≤90000) (hk:keysB o=true) :
    f1 o w dl mk ls got wt lt=some (.ful 2,(2,.rows .msg (sortM o)) :: hsF ⟨dl,mk,ls,got,w,lt⟩):=by
  show sh1 o w dl mk ls got wt lt=_
  unfold sh1
  rw [hk,nleT (show o.length≤4611686018427387903 by omega)]
  rfl
theorem loop (dl : Int) (mk : Int) (ls : Int) (got : List (Key × Bool)) (wt : List Msg) (lt : List Msg) (hl : wt.length ≤ 90000) : ∀ (n i : Nat) (o w : List Msg), wt.length < n + i → i ≤ wt.length → o.length ≤ i → w.length ≤ i →
    f2 n o w (Int.ofNat wt.length) (i:Int) dl mk ls got wt lt=f1 (o++(wt.drop i).filter fun m=>ilt (Msg.at_ m) mk) (w++(wt.drop i).filter fun m => !(ilt (Msg.at_ m) mk)) dl mk ls got wt lt:=by
  intro n
  induction n with
  | zero=>intro i o w h1 h2; omega
  | succ n ih =>
    intro i o w h1 h2 h3 h4
    show sh2 o w (Int.ofNat wt.length) (i:Int) dl mk ls got wt lt f1 (f3 (f2 n))=_
    unfold sh2
    by_cases hi:i < wt.length
    · rw [iltT (show (i : Int) < Int.ofNat wt.length by simp; omega), inbT hi, toNat_nat, nltT hi, getD_lt hi, drop_lt hi]
      simp only [chkT,condT,List.filter_cons]
      rw [capT (by omega) (by simp),capT (by omega) (by simp),chkT,chkT]
      show condB _ (f2 n (o++[wt[i]]) w (Int.ofNat wt.length) (IntKind.wrap .i64 ((i:Int)+1)) dl mk ls got wt lt) (f2 n o (w++[wt[i]]) (Int.ofNat wt.length) (IntKind.wrap .i64 ((i:Int)+1)) dl mk ls got wt lt)=_
      rw [wrapS i (by omega)]
      cases hb:ilt (Msg.at_ wt[i]) mk
      · rw [condF, ih (i + 1) o (w ++ [wt[i]]) (by omega) hi (by omega) (by simp; omega)]
        simp
      · rw [condT, ih (i + 1) (o ++ [wt[i]]) w (by omega) hi (by simp; omega) (by omega)]
        simp
    · have : i = wt.length := by omega
      subst this
      rw [iltF (by simp),List.drop_length]
      simp only [condF,List.filter_nil,List.append_nil]
theorem f0_eq (dl:Int) (mk:Int) (ls:Int) (got:List (Key×Bool)) (wt:List Msg) (lt:List Msg) (h:(keysB wt&&nle (List.length wt) 90000)=true) :
    f0 dl mk ls got wt lt=some (.ful 2,(2,.rows .msg (sortM (List.filter (fun m=>ilt (Msg.at_ m) mk) wt))) :: hsF ⟨dl,mk,ls,got,List.filter (fun m => !(ilt (Msg.at_ m) mk)) wt,lt⟩):=by
  rw [Bool.and_eq_true] at h
  have hl:=nleI h.2
  have h1:(List.filter (fun m=>ilt (Msg.at_ m) mk) wt).length≤wt.length:=List.length_filter_le _ _
  exact (loop dl mk ls got wt lt hl 100000 0 [] [] (by omega) (by omega) (by simp) (by simp)).trans (by
    simp only [List.drop_zero,List.nil_append]
    exact fin _ _ _ _ _ _ _ _ (by omega) (keysB_sub h.1 fun y hy=>(List.mem_filter.1 hy).1))
theorem ok:CtxOk Try.prog X:=ctxOk tab spN dpN
theorem okM:MOk Try.prog X:=mspecOf_ok _ (mpC (sortMOk rfl ok) mpN)
theorem spec (dl:Int) (mk:Int) (ls:Int) (got:List (Key×Bool)) (wt:List Msg) (lt:List Msg) (h:((keysB wt&&nle (List.length wt) 90000))=true):MCall Try.prog E 19 [(.ptr 1000000000 0)] [(1000000000,(.box 1000000000 [(.int .i64 dl),(.int .i64 mk),(.int .i64 ls),(.mp 1000000001),(.ful 1000000002),(.ful 1000000003)])),(1000000001,(.map .key .bool got)),(1000000002,(.rows .msg wt)),(1000000003,(.rows .msg lt))] (.ful 2) [(2,(.rows .msg (sortM (List.filter (fun m=>ilt (Msg.at_ m) mk) wt)))),(1000000000,(.box 1000000000 [(.int .i64 dl),(.int .i64 mk),(.int .i64 ls),(.mp 1000000001),(.ful 1000000002),(.ful 1000000003)])),(1000000001,(.map .key .bool got)),(1000000002,(.rows .msg (List.filter (fun m => !(ilt (Msg.at_ m) mk)) wt))),(1000000003,(.rows .msg lt))] :=
  runM_sound ok okM Try.func19 (by kernel_rfl) (by kernel_rfl) (by kernel_rfl) (by show 1≤41; decide) ((run dl mk ls got wt lt).trans (f0_eq dl mk ls got wt lt h))
noncomputable def sp:MSp U El:=fun args hs k=>match args,hs with
  | [.ptr q0 0],[(q1,.box q2 [.int .i64 dl,.int .i64 mk,.int .i64 ls,.mp q3,.ful q4,.ful q5]),(q6,.map .key .bool got),(q7,.rows .msg wt),(q8,.rows .msg lt)]=>chk (Nat.beq q0 1000000000&&(Nat.beq q1 1000000000&&(Nat.beq q2 1000000000&&(Nat.beq q3 1000000001&&(Nat.beq q4 1000000002&&(Nat.beq q5 1000000003&&(Nat.beq q6 1000000001&&(Nat.beq q7 1000000002&&(Nat.beq q8 1000000003&&true))))))))) (chk ((keysB wt&&nle (List.length wt) 90000)) (k (.ful 2) [(2,(.rows .msg (sortM (List.filter (fun m=>ilt (Msg.at_ m) mk) wt)))),(1000000000,(.box 1000000000 [(.int .i64 dl),(.int .i64 mk),(.int .i64 ls),(.mp 1000000001),(.ful 1000000002),(.ful 1000000003)])),(1000000001,(.map .key .bool got)),(1000000002,(.rows .msg (List.filter (fun m => !(ilt (Msg.at_ m) mk)) wt))),(1000000003,(.rows .msg lt))]))
  | _,_=>none
theorem spOk:MSpOk Try.prog E 19 sp:=⟨Try.call19,fun args hs k r h=>by
  unfold sp at h
  split at h
  · obtain ⟨hq, hA⟩ := chk_some h
    clear h
    simp only [Bool.and_eq_true] at hq
    obtain ⟨e0,e1,e2,e3,e4,e5,e6,e7,e8,_⟩:=hq
    cases Nat.eq_of_beq_eq_true e0
    cases Nat.eq_of_beq_eq_true e1
    cases Nat.eq_of_beq_eq_true e2
    cases Nat.eq_of_beq_eq_true e3
    cases Nat.eq_of_beq_eq_true e4
    cases Nat.eq_of_beq_eq_true e5
    cases Nat.eq_of_beq_eq_true e6
    cases Nat.eq_of_beq_eq_true e7
    cases Nat.eq_of_beq_eq_true e8
    obtain ⟨h1,hB⟩:=chk_some hA
    exact ⟨_,_,spec _ _ _ _ _ _ h1,hB⟩
  · cases h⟩
theorem spDet:∀ args hs,∃ oo:Option (AV U El×Heap U El),∀ k,sp args hs k=oo.bind fun p=>k p.1 p.2:=fun args hs=>by
  unfold sp
  split
  · exact det_chkM (det_chkM ⟨some (_,_),fun _=>rfl⟩)
  · exact ⟨none,fun _=>rfl⟩
end fready
namespace fputN
noncomputable def bd:Code:=(Try.f13.body).getD .skip
noncomputable def X:Ctx U El:=⟨E,tds,zeros,eqs,specOf [],100000,89,dspecOf [],fun _=>none,fun _=>none⟩
noncomputable def nmR:Norm U:=⟨[],[4],[],[],[],[],[]⟩
noncomputable def RR:Kont U El:=fun st=>normK nmR st (retM [4])
noncomputable def fr0 (m:Msg):St U El:=⟨[(0,.nilp),(1,(.agg [(.str m.nd),(.int .i64 m.no),(.int .i64 m.at_),(.int .i64 m.ar),(.int .i64 m.lv)]))],[]⟩
noncomputable def sh0 (m:Msg):R :=
  some ((.int .i64 (1:Int)),[])
theorem P0 (m):exec X (cdp [] bd) .d (fr0 m) RR (fun _ _=>none) RR=sh0 m:=by kernel_rfl
noncomputable def f0 (m:Msg):R:=sh0 m
theorem T0 (m):exec X bd .d (fr0 m) RR (fun _ _=>none) RR=f0 m:=by
  refine (P0 m).trans ?_
  show _=sh0 m
  rfl
theorem run (m):runM X bd .d nmR [4] [] [.nilp,(.agg [(.str m.nd),(.int .i64 m.no),(.int .i64 m.at_),(.int .i64 m.ar),(.int .i64 m.lv)])]=f0 m:=T0 m
theorem f0_eq (m:Msg):f0 m=some (.int .i64 1,[]):=rfl
theorem ok:CtxOk Try.prog X:=ctxOk tab spN dpN
theorem okM:MOk Try.prog X:=fun g sp h=>by cases h
theorem spec (m:Msg):MCall Try.prog E 13 [.nilp,(.agg [(.str m.nd),(.int .i64 m.no),(.int .i64 m.at_),(.int .i64 m.ar),(.int .i64 m.lv)])] [] (.int .i64 (1:Int)) [] :=
  runM_sound ok okM Try.func13 (by kernel_rfl) (by kernel_rfl) (by kernel_rfl) (by show 2≤89; decide) ((run m).trans (f0_eq m))
noncomputable def sp:MSp U El:=fun args hs k=>match args,hs with
  | [.nilp,.agg [.str m_nd,.int .i64 m_no,.int .i64 m_at_,.int .i64 m_ar,.int .i64 m_lv]],[]=>chk true (k (.int .i64 (1:Int)) [])
  | _,_=>none
theorem spOk:MSpOk Try.prog E 13 sp:=⟨Try.call13,fun args hs k r h=>by
  unfold sp at h
  split at h
  · obtain ⟨_, hA⟩ := chk_some h
    exact ⟨_,_,spec ⟨_,_,_,_,_⟩,hA⟩
  · cases h⟩
theorem spDet:∀ args hs,∃ oo:Option (AV U El×Heap U El),∀ k,sp args hs k=oo.bind fun p=>k p.1 p.2:=fun args hs=>by
  unfold sp
  split
  · exact det_chkM ⟨some (_,_),fun _=>rfl⟩
  · exact ⟨none,fun _=>rfl⟩
end fputN
namespace freadyN
noncomputable def bd:Code:=(Try.f19.body).getD .skip
noncomputable def X:Ctx U El:=⟨E,tds,zeros,eqs,specOf [],100000,41,dspecOf [],fun _=>none,fun _=>none⟩
noncomputable def nmR:Norm U:=⟨[],[2],[],[],[],[],[]⟩
noncomputable def RR:Kont U El:=fun st=>normK nmR st (retM [2])
noncomputable def fr0:St U El:=⟨[(0,.nilp)],[]⟩
noncomputable def sh0:R :=
  some (.nils,[])
theorem P0:exec X (cdp [] bd) .d (fr0) RR (fun _ _=>none) RR=sh0:=by kernel_rfl
noncomputable def f0:R:=sh0
theorem T0:exec X bd .d (fr0) RR (fun _ _=>none) RR=f0:=by
  refine (P0).trans ?_
  show _=sh0
  rfl
theorem run:runM X bd .d nmR [2] [] [.nilp]=f0:=T0
theorem f0_eq:f0=some (.nils,[]):=rfl
theorem ok:CtxOk Try.prog X:=ctxOk tab spN dpN
theorem okM:MOk Try.prog X:=fun g sp h=>by cases h
theorem spec:MCall Try.prog E 19 [.nilp] [] .nils [] :=
  runM_sound ok okM Try.func19 (by kernel_rfl) (by kernel_rfl) (by kernel_rfl) (by show 1≤41; decide) ((run).trans (f0_eq))
noncomputable def sp:MSp U El:=fun args hs k=>match args,hs with
  | [.nilp],[]=>chk true (k .nils [])
  | _,_=>none
theorem spOk:MSpOk Try.prog E 19 sp:=⟨Try.call19,fun args hs k r h=>by
  unfold sp at h
  split at h
  · obtain ⟨_, hA⟩ := chk_some h
    exact ⟨_,_,spec,hA⟩
  · cases h⟩
theorem spDet:∀ args hs,∃ oo:Option (AV U El×Heap U El),∀ k,sp args hs k=oo.bind fun p=>k p.1 p.2:=fun args hs=>by
  unfold sp
  split
  · exact det_chkM ⟨some (_,_),fun _=>rfl⟩
  · exact ⟨none,fun _=>rfl⟩
end freadyN
namespace flateN
noncomputable def bd:Code:=(Try.f17.body).getD .skip
noncomputable def X:Ctx U El:=⟨E,tds,zeros,eqs,specOf [],100000,10,dspecOf [],fun _=>none,fun _=>none⟩
noncomputable def nmR:Norm U:=⟨[],[2],[],[],[],[],[]⟩
noncomputable def RR:Kont U El:=fun st=>normK nmR st (retM [2])
noncomputable def fr0:St U El:=⟨[(0,.nilp)],[]⟩
noncomputable def sh0:R :=
  some (.nils,[])
theorem P0:exec X (cdp [] bd) .d (fr0) RR (fun _ _=>none) RR=sh0:=by kernel_rfl
noncomputable def f0:R:=sh0
theorem T0:exec X bd .d (fr0) RR (fun _ _=>none) RR=f0:=by
  refine (P0).trans ?_
  show _=sh0
  rfl
theorem run:runM X bd .d nmR [2] [] [.nilp]=f0:=T0
theorem f0_eq:f0=some (.nils,[]):=rfl
theorem ok:CtxOk Try.prog X:=ctxOk tab spN dpN
theorem okM:MOk Try.prog X:=fun g sp h=>by cases h
theorem spec:MCall Try.prog E 17 [.nilp] [] .nils [] :=
  runM_sound ok okM Try.func17 (by kernel_rfl) (by kernel_rfl) (by kernel_rfl) (by show 1≤10; decide) ((run).trans (f0_eq))
noncomputable def sp:MSp U El:=fun args hs k=>match args,hs with
  | [.nilp],[]=>chk true (k .nils [])
  | _,_=>none
theorem spOk:MSpOk Try.prog E 17 sp:=⟨Try.call17,fun args hs k r h=>by
  unfold sp at h
  split at h
  · obtain ⟨_, hA⟩ := chk_some h
    exact ⟨_,_,spec,hA⟩
  · cases h⟩
theorem spDet:∀ args hs,∃ oo:Option (AV U El×Heap U El),∀ k,sp args hs k=oo.bind fun p=>k p.1 p.2:=fun args hs=>by
  unfold sp
  split
  · exact det_chkM ⟨some (_,_),fun _=>rfl⟩
  · exact ⟨none,fun _=>rfl⟩
end flateN
end Go.Proofs.Ytkeplmpcijigaaa
