/- Renaming; copies; programs that are the same. -/
import Derived.Test.YtlkfbblapimhoaaGreatDoorVC
namespace Go.Proofs.YtlkfbblapimhoaaGreatDoor
set_option linter.unusedSectionVars false
set_option linter.unusedSimpArgs false
set_option linter.unusedVariables false
set_option maxRecDepth 100000
noncomputable def renN (fr to s:List UInt8):List UInt8:=bif s == fr then to else s
noncomputable def renC (fr to:List UInt8) (c:Cnd):Cnd:=⟨renN fr to c.cn,c.cb,c.cl⟩
noncomputable def renR (fr to:List UInt8) (r:Rule):Rule:=⟨r.rn,r.rw.map (renC fr to),renN fr to r.rl,r.rs⟩
noncomputable def occC (to:List UInt8) (c:Cnd):Bool:=c.cn == to
noncomputable def occR (to:List UInt8) (r:Rule):Bool:=(r.rl == to)||List.any r.rw (occC to)
noncomputable def renE (l:List Rule) (fr to:List UInt8):Int:=bif rulesB l then (bif nameB to then (bif List.any l (occR to) && !(fr == to) then 15 else 0) else 7) else 1
noncomputable def renL (l:List Rule) (fr to:List UInt8):List Rule:=bif renE l fr to == 0 then l.map (renR fr to) else []
noncomputable def sameC (x y:Cnd):Bool:=(x.cn == y.cn)&&((x.cb == y.cb)&&((x.cl == y.cl)&&true))
noncomputable def sameR (a b:Rule):Bool:=(a.rn == b.rn)&&((a.rl == b.rl)&&((a.rs == b.rs)&&eqLen sameC a.rw b.rw))
noncomputable def sameL (a b:List Rule):Bool:=eqLen sameR a b
noncomputable def outR6 (l:List Rule) (e:Int):R:=some (.tup [.ful 6,.int .i64 e],[(6,.rows .rule l)])
namespace cloneC
noncomputable def bd:Code:=(Tryz.f69.body).getD .skip
noncomputable def X:Ctx U El:=⟨E,tds,zeros,eqs,specOf [],100000,8,dspecOf [],fun _=>none⟩
noncomputable def nmR:Norm U:=⟨[(2,.cnd)],[2],[2],[],[],[],[]⟩
noncomputable def RR:Kont U El:=fun st=>normK nmR st (retFin [2] [2])
noncomputable def fr0 (l:List Cnd):St U El:=⟨[(0,(.lst .cnd l))],[]⟩
noncomputable def sh0 (l:List Cnd):R :=
  condB (nlt 0 (List.length l)) (chk (nle ((List.length ([]:List Cnd)+List.length l) * 32) 140737488355328&&nle (List.length ([]:List Cnd)+List.length l) 9223372036854775807) (some ((.ful 0),[(0,.rows .cnd (([]:List Cnd)++l))]))) (amb (some ((.ful 0),[(0,.rows .cnd ([]:List Cnd))])) (chk (nle ((List.length ([]:List Cnd)+List.length l) * 32) 140737488355328&&nle (List.length ([]:List Cnd)+List.length l) 9223372036854775807) (some ((.ful 0),[(0,.rows .cnd (([]:List Cnd)++l))]))))
theorem P0 (l):exec X (cdp [] bd) .d (fr0 l) RR (fun _ _=>none) RR=sh0 l:=by kernel_rfl
noncomputable def f0 (l:List Cnd):R:=sh0 l
theorem T0 (l):exec X bd .d (fr0 l) RR (fun _ _=>none) RR=f0 l:=by
  refine (P0 l).trans ?_
  show _=sh0 l
  rfl
theorem run (l):runFn X bd .d nmR [2] [2] [(.lst .cnd l)]=f0 l:=T0 l
theorem f0_eq (l:List Cnd) (h:(nle (List.length l) 90000)=true):f0 l=some (.ful 0,[(0,.rows .cnd l)]):=by
  have hl:=nleI h
  show sh0 l=_
  unfold sh0
  have e1:nle ((List.length ([]:List Cnd)+List.length l) * 32) 140737488355328=true:=nleT (by simp; omega)
  have e2:nle (List.length ([]:List Cnd)+List.length l) 9223372036854775807=true:=nleT (by simp; omega)
  rw [e1,e2]
  cases l with
  | nil=>exact amb_same _
  | cons x l=>rfl
theorem ok:CtxOk Tryz.prog X:=ctxOk tab spN dpN
theorem okM:MOk Tryz.prog X:=fun g sp h=>by cases h
theorem spec (l:List Cnd) (h:(nle (List.length l) 90000)=true):CallSpec Tryz.prog E 69 [(.lst .cnd l)] (.ful 0) [(0,.rows .cnd (l))] :=
  runFn_sound ok okM Tryz.call69 Tryz.func69 (by kernel_rfl) (by kernel_rfl) (by kernel_rfl) (by show 1≤8; decide) (by decide) (by rfl) ((run l).trans (f0_eq l h))
noncomputable def sp:Sp U El:=fun args k=>match args with
  | [.lst .cnd l]=>chk (nle (List.length l) 90000) (k (.ful 0) [(0,.rows .cnd (l))])
  | _=>none
theorem spOk:SpOk Tryz.prog E 69 sp where
  det:=fun vs=>by
    unfold sp
    split
    · exact det_c _ _ _
    · exact ⟨none,fun _=>rfl⟩
  ok:=fun vs k r h=>by
    unfold sp at h
    split at h
    · obtain ⟨h1, h2⟩ := chk_some h
      exact ⟨_,_,spec _ h1,h2⟩
    · cases h
end cloneC
namespace ren1
noncomputable def bd:Code:=(Tryz.f68.body).getD .skip
noncomputable def X:Ctx U El:=⟨E,tds,zeros,eqs,specOf [],100000,17,dspecOf [],fun _=>none⟩
noncomputable def nmR:Norm U:=⟨[],[5],[1000000000,1000000001,1000000002],[],[],[],[]⟩
noncomputable def RR:Kont U El:=fun st=>normK nmR st (retM [5])
noncomputable def nm1:Norm U:=⟨[],[0,2,3],[1000000000,1000000001,1000000002],[],[],[],[]⟩
abbrev Y1:=(List UInt8)→Bool→(List UInt8)→(List UInt8)→R
noncomputable def fr0 (s:List UInt8) (ex:Bool) (to:List UInt8) (fr:List UInt8):St U El:=⟨[(0,(.str s)),(1,(.ptr 1000000000 0)),(2,(.ptr 1000000001 0)),(3,(.ptr 1000000002 0))],[(1000000000,(.box 1000000000 [(.bool ex)])),(1000000001,(.box 1000000001 [(.str to)])),(1000000002,(.box 1000000002 [(.str fr)]))]⟩
noncomputable def fr1 (s0:List UInt8) (yA:Bool) (wA:List UInt8) (xA:List UInt8):St U El:=⟨[(0,(.str s0)),(2,(.ptr 1000000001 0)),(3,(.ptr 1000000002 0))],[(1000000000,(.box 1000000000 [(.bool yA)])),(1000000001,(.box 1000000001 [(.str wA)])),(1000000002,(.box 1000000002 [(.str xA)]))]⟩
noncomputable def sh0 (s:List UInt8) (ex:Bool) (to:List UInt8) (fr:List UInt8) (k1:Y1):R :=
  condB ex (k1 s true to fr) (k1 s (s == to) to fr)
noncomputable def sh1 (s0:List UInt8) (yA:Bool) (wA:List UInt8) (xA:List UInt8):R :=
  condB (s0 == xA) (some ((.str wA),[(1000000000,(.box 1000000000 [(.bool yA)])),(1000000001,(.box 1000000001 [(.str wA)])),(1000000002,(.box 1000000002 [(.str xA)]))])) (some ((.str s0),[(1000000000,(.box 1000000000 [(.bool yA)])),(1000000001,(.box 1000000001 [(.str wA)])),(1000000002,(.box 1000000002 [(.str xA)]))]))
noncomputable def ct1:Kont U El:=fun st=>exec X (cdp [1,1] bd) .d st RR (fun _ _=>none) RR
theorem P0 (s ex to fr):exec X (cdp [] bd) (.seq none .d (.seq (some nm1) .d .d)) (fr0 s ex to fr) RR (fun _ _=>none) RR=sh0 s ex to fr (fun y0 y1 y2 y3=>(hid ct1) (fr1 y0 y1 y2 y3)):=by kernel_rfl
theorem P1 (s0 yA wA xA):ct1 (fr1 s0 yA wA xA)=sh1 s0 yA wA xA:=by kernel_rfl
noncomputable def f1 (s0:List UInt8) (yA:Bool) (wA:List UInt8) (xA:List UInt8):R:=sh1 s0 yA wA xA
noncomputable def f0 (s:List UInt8) (ex:Bool) (to:List UInt8) (fr:List UInt8):R:=sh0 s ex to fr f1
theorem T1 (s0 yA wA xA):(hid ct1) (fr1 s0 yA wA xA)=f1 s0 yA wA xA:=by
  refine (congrFun (hid_eq _) _).trans <| (P1 s0 yA wA xA).trans ?_
  show _=sh1 s0 yA wA xA
  rfl
theorem T0 (s ex to fr):exec X bd (.seq none .d (.seq (some nm1) .d .d)) (fr0 s ex to fr) RR (fun _ _=>none) RR=f0 s ex to fr:=by
  refine (P0 s ex to fr).trans ?_
  show _=sh0 s ex to fr f1
  simp only [T1]
theorem run (s ex to fr):runM X bd (.seq none .d (.seq (some nm1) .d .d)) nmR [5] [(1000000000,(.box 1000000000 [(.bool ex)])),(1000000001,(.box 1000000001 [(.str to)])),(1000000002,(.box 1000000002 [(.str fr)]))] [(.str s),(.ptr 1000000000 0),(.ptr 1000000001 0),(.ptr 1000000002 0)]=f0 s ex to fr:=T0 s ex to fr
theorem f0_eq (s:List UInt8) (ex:Bool) (to fr:List UInt8):f0 s ex to fr=some (.str (renN fr to s),[(1000000000,.box 1000000000 [.bool (ex||(s == to))]),(1000000001,.box 1000000001 [.str to]),(1000000002,.box 1000000002 [.str fr])]):=by
  show sh0 s ex to fr f1=_
  unfold sh0 renN
  cases ex
  · show sh1 s (s == to) to fr = _
    unfold sh1
    cases s == fr<;>rfl
  · show sh1 s true to fr = _
    unfold sh1
    cases s == fr<;>rfl
theorem ok:CtxOk Tryz.prog X:=ctxOk tab spN dpN
theorem okM:MOk Tryz.prog X:=fun g sp h=>by cases h
theorem spec (s:List UInt8) (ex:Bool) (to:List UInt8) (fr:List UInt8):MCall Tryz.prog E 68 [(.str s),(.ptr 1000000000 0),(.ptr 1000000001 0),(.ptr 1000000002 0)] [(1000000000,(.box 1000000000 [(.bool ex)])),(1000000001,(.box 1000000001 [(.str to)])),(1000000002,(.box 1000000002 [(.str fr)]))] (.str (renN fr to s)) [(1000000000,(.box 1000000000 [(.bool ((ex||(s == to))))])),(1000000001,(.box 1000000001 [(.str to)])),(1000000002,(.box 1000000002 [(.str fr)]))] :=
  runM_sound ok okM Tryz.func68 (by kernel_rfl) (by kernel_rfl) (by kernel_rfl) (by show 4≤17; decide) ((run s ex to fr).trans (f0_eq s ex to fr))
noncomputable def sp:MSp U El:=fun args hs k=>match args,hs with
  | [.str s,.ptr q0 0,.ptr q1 0,.ptr q2 0],[(q3,.box q4 [.bool ex]),(q5,.box q6 [.str to]),(q7,.box q8 [.str fr])]=>chk (Nat.beq q0 1000000000&&(Nat.beq q1 1000000001&&(Nat.beq q2 1000000002&&(Nat.beq q3 1000000000&&(Nat.beq q4 1000000000&&(Nat.beq q5 1000000001&&(Nat.beq q6 1000000001&&(Nat.beq q7 1000000002&&(Nat.beq q8 1000000002&&true))))))))) (k (.str (renN fr to s)) [(1000000000,(.box 1000000000 [(.bool ((ex||(s == to))))])),(1000000001,(.box 1000000001 [(.str to)])),(1000000002,(.box 1000000002 [(.str fr)]))])
  | _,_=>none
theorem spOk:MSpOk Tryz.prog E 68 sp:=⟨Tryz.call68,fun args hs k r h=>by
  unfold sp at h
  split at h
  · obtain ⟨hq, hA⟩ := chk_some h
    clear h
    simp only [Bool.and_eq_true] at hq
    obtain ⟨e0,e1,e2,e3,e4,e5,e6,e7,e8,_⟩:=hq
    cases Nat.eq_of_beq_eq_true e0
    cases Nat.eq_of_beq_eq_true e1
    cases Nat.eq_of_beq_eq_true e2
    cases Nat.eq_of_beq_eq_true e3
    cases Nat.eq_of_beq_eq_true e4
    cases Nat.eq_of_beq_eq_true e5
    cases Nat.eq_of_beq_eq_true e6
    cases Nat.eq_of_beq_eq_true e7
    cases Nat.eq_of_beq_eq_true e8
    exact ⟨_,_,spec _ _ _ _,hA⟩
  · cases h⟩
theorem spDet:∀ args hs,∃ oo:Option (AV U El×Heap U El),∀ k,sp args hs k=oo.bind fun p=>k p.1 p.2:=fun args hs=>by
  unfold sp
  split
  · exact det_chkM ⟨some (_,_),fun _=>rfl⟩
  · exact ⟨none,fun _=>rfl⟩
end ren1
theorem set_map {α:Type} (f:α→α) {w:List α} {j:Nat} (h:j < w.length):((w.take j).map f++w.drop j).set j (f w[j])=(w.take (j+1)).map f++w.drop (j+1):=by
  have hl:((w.take j).map f).length=j:=by simp; omega
  rw [List.set_append_right _ _ (by omega),hl,Nat.sub_self,drop_lt h,List.set_cons_zero,take_lt h,List.map_append,List.append_assoc]
  rfl
theorem get_map {α:Type} (f:α→α) {w:List α} {j:Nat} (d:α) (h:j < w.length):((w.take j).map f++w.drop j).getD j d=w[j]:=by
  have hl:((w.take j).map f).length=j:=by simp; omega
  rw [List.getD_eq_getElem?_getD,List.getElem?_append_right (by omega),hl,Nat.sub_self,drop_lt h]
  rfl
theorem len_map {α:Type} (f:α→α) {w:List α} {j:Nat} (h:j≤w.length):((w.take j).map f++w.drop j).length=w.length:=by simp; omega
namespace rename
noncomputable def bd:Code:=(Tryz.f23.body).getD .skip
noncomputable def X:Ctx U El:=⟨E,tds,zeros,eqs,specOf [(13,valid.sp),(67,isname.sp),(69,cloneC.sp)],100000,68,dspecOf [(68,ren1.sp)],mspecOf [(68,(mcSp ren1.sp))]⟩
noncomputable def nmR:Norm U:=⟨[(6,.rule)],[6,7],[6],[],[],[],[]⟩
noncomputable def RR:Kont U El:=fun st=>normK nmR st (retM [6,7])
noncomputable def nm1:Norm U:=⟨[(10,.rule)],[4,5,8,10],[10,4,5,8],[],[],[],[]⟩
noncomputable def nm2:Norm U:=⟨[(10,.rule)],[4,5,8,9,10,21,22,23],[10,4,5,8],[],[],[],[]⟩
noncomputable def nm3:Norm U:=⟨[(10,.rule)],[4,5,8,9,10,21,22,23],[10,4,5,8],[],[],[],[]⟩
noncomputable def nm4:Norm U:=⟨[(10,.rule)],[4,5,8,9,10,12,21,22,23],[10,4,5,8,12,500001201],[],[(12,1,.cnd,500001201)],[],[]⟩
noncomputable def nm5:Norm U:=⟨[(10,.rule)],[4,5,8,9,10,12,21,22,23,38,39],[10,4,5,8,12,500001201],[],[(12,1,.cnd,500001201)],[],[]⟩
noncomputable def nm6:Norm U:=⟨[(10,.rule)],[10],[10],[],[],[],[]⟩
abbrev Y1:=(List Rule)→(List UInt8)→(List UInt8)→Bool→R
abbrev Y2:=(List Rule)→(List Rule)→Int→Int→(List UInt8)→(List UInt8)→Bool→R
abbrev Y3:=(List Rule)→(List Rule)→Int→Int→(List UInt8)→(List UInt8)→Bool→R
abbrev Y4:=(List Rule)→(List Rule)→Int→Int→(List UInt8)→(List UInt8)→Bool→(List UInt8)→(List Cnd)→(List UInt8)→Int→R
abbrev Y5:=(List Rule)→(List Rule)→Int→Int→Int→Int→(List UInt8)→(List UInt8)→Bool→(List UInt8)→(List Cnd)→(List UInt8)→Int→R
abbrev Y6:=(List Rule)→R
noncomputable def fr0 (l:List Rule) (fr:List UInt8) (to:List UInt8):St U El:=⟨[(0,(.lst .rule l)),(1,(.str fr)),(2,(.str to))],[]⟩
noncomputable def fr1 (aA:List Rule) (cA:List UInt8) (bA:List UInt8) (dA:Bool):St U El:=⟨[(4,(.ptr 4 0)),(5,(.ptr 5 0)),(8,(.ptr 8 0)),(10,(.ful 10))],[(10,(.rows .rule aA)),(4,(.box 0 [(.str cA)])),(5,(.box 0 [(.str bA)])),(8,(.box 0 [(.bool dA)]))]⟩
noncomputable def fr2 (aA:List Rule) (mA:List Rule) (kA:Int) (jA:Int) (cA:List UInt8) (bA:List UInt8) (dA:Bool):St U El:=⟨[(4,(.ptr 4 0)),(5,(.ptr 5 0)),(8,(.ptr 8 0)),(9,(.fn 68 [] [(.ptr 8 0),(.ptr 5 0),(.ptr 4 0)])),(10,(.ful 10)),(21,(.lst .rule mA)),(22,(.int .i64 kA)),(23,(.int .i64 jA))],[(10,(.rows .rule aA)),(4,(.box 0 [(.str cA)])),(5,(.box 0 [(.str bA)])),(8,(.box 0 [(.bool dA)]))]⟩
noncomputable def fr3 (aA:List Rule) (mA:List Rule) (kA:Int) (jA:Int) (cA:List UInt8) (bA:List UInt8) (dA:Bool):St U El:=⟨[(4,(.ptr 4 0)),(5,(.ptr 5 0)),(8,(.ptr 8 0)),(9,(.fn 68 [] [(.ptr 8 0),(.ptr 5 0),(.ptr 4 0)])),(10,(.ful 10)),(21,(.lst .rule mA)),(22,(.int .i64 kA)),(23,(.int .i64 jA))],[(10,(.rows .rule aA)),(4,(.box 0 [(.str cA)])),(5,(.box 0 [(.str bA)])),(8,(.box 0 [(.bool dA)]))]⟩
noncomputable def fr4 (aA:List Rule) (mA:List Rule) (kA:Int) (jA:Int) (cA:List UInt8) (bA:List UInt8) (dA:Bool) (fA:List UInt8) (eA:List Cnd) (gA:List UInt8) (iA:Int):St U El:=⟨[(4,(.ptr 4 0)),(5,(.ptr 5 0)),(8,(.ptr 8 0)),(9,(.fn 68 [] [(.ptr 8 0),(.ptr 5 0),(.ptr 4 0)])),(10,(.ful 10)),(12,(.ptr 12 0)),(21,(.lst .rule mA)),(22,(.int .i64 kA)),(23,(.int .i64 jA))],[(10,(.rows .rule aA)),(4,(.box 0 [(.str cA)])),(5,(.box 0 [(.str bA)])),(8,(.box 0 [(.bool dA)])),(12,(.box 0 [(.str fA),(.ful 500001201),(.str gA),(.int .i64 iA)])),(500001201,(.rows .cnd eA))]⟩
noncomputable def fr5 (aA:List Rule) (mA:List Rule) (kA:Int) (jA:Int) (zA:Int) (vA:Int) (cA:List UInt8) (bA:List UInt8) (dA:Bool) (fA:List UInt8) (eA:List Cnd) (gA:List UInt8) (iA:Int):St U El:=⟨[(4,(.ptr 4 0)),(5,(.ptr 5 0)),(8,(.ptr 8 0)),(9,(.fn 68 [] [(.ptr 8 0),(.ptr 5 0),(.ptr 4 0)])),(10,(.ful 10)),(12,(.ptr 12 0)),(21,(.lst .rule mA)),(22,(.int .i64 kA)),(23,(.int .i64 jA)),(38,(.int .i64 zA)),(39,(.int .i64 vA))],[(10,(.rows .rule aA)),(4,(.box 0 [(.str cA)])),(5,(.box 0 [(.str bA)])),(8,(.box 0 [(.bool dA)])),(12,(.box 0 [(.str fA),(.ful 500001201),(.str gA),(.int .i64 iA)])),(500001201,(.rows .cnd eA))]⟩
noncomputable def fr6 (aA:List Rule):St U El:=⟨[(10,(.ful 10))],[(10,(.rows .rule aA))]⟩
noncomputable def sh0 (l:List Rule) (fr:List UInt8) (to:List UInt8) (k2:Y2):R :=
  condB (!(rulesB l)) (some ((.tup [(.ful 6),(.int .i64 (1:Int))]),[(6,.rows .rule ([]:List Rule))])) (condB (!(nameB to)) (some ((.tup [(.ful 6),(.int .i64 (7:Int))]),[(6,.rows .rule ([]:List Rule))])) (k2 ([]:List Rule) l (Int.ofNat (List.length l)) (0:Int) fr to false))
noncomputable def sh1 (aA:List Rule) (cA:List UInt8) (bA:List UInt8) (dA:Bool) (k6:Y6):R :=
  condB dA (condB (!(cA == bA)) (some ((.tup [(.ful 6),(.int .i64 (15:Int))]),[(6,.rows .rule ([]:List Rule))])) (k6 aA)) (k6 aA)
noncomputable def sh2 (aA:List Rule) (mA:List Rule) (kA:Int) (jA:Int) (cA:List UInt8) (bA:List UInt8) (dA:Bool) (k1:Y1) (k5:Y5):R :=
  condB (ilt jA kA) (chk (inb jA (List.length mA)) (chk (nle (List.length ((List.getD mA (Int.toNat jA) d_rule).rw)) 90000) (k5 aA mA kA jA (Int.ofNat (List.length (((List.getD mA (Int.toNat jA) d_rule).rw)))) (0:Int) cA bA ((dA||(((List.getD mA (Int.toNat jA) d_rule).rl) == bA))) ((List.getD mA (Int.toNat jA) d_rule).rn) (((List.getD mA (Int.toNat jA) d_rule).rw)) (renN cA bA ((List.getD mA (Int.toNat jA) d_rule).rl)) ((List.getD mA (Int.toNat jA) d_rule).rs)))) (k1 aA cA bA dA)
noncomputable def sh3 (aA:List Rule) (mA:List Rule) (kA:Int) (jA:Int) (cA:List UInt8) (bA:List UInt8) (dA:Bool) (k2:Y2):R :=
  k2 aA mA kA (IntKind.wrap .i64 (jA+(1:Int))) cA bA dA
noncomputable def sh4 (aA:List Rule) (mA:List Rule) (kA:Int) (jA:Int) (cA:List UInt8) (bA:List UInt8) (dA:Bool) (fA:List UInt8) (eA:List Cnd) (gA:List UInt8) (iA:Int) (k3:Y3):R :=
  chk (nle ((List.length aA+List.length ([(⟨fA,eA,gA,iA⟩:Rule)]:List Rule)) * 64) 140737488355328&&nle (List.length aA+List.length ([(⟨fA,eA,gA,iA⟩:Rule)]:List Rule)) 9223372036854775807) (k3 (aA++([(⟨fA,eA,gA,iA⟩:Rule)]:List Rule)) mA kA jA cA bA dA)
noncomputable def sh5 (aA:List Rule) (mA:List Rule) (kA:Int) (jA:Int) (zA:Int) (vA:Int) (cA:List UInt8) (bA:List UInt8) (dA:Bool) (fA:List UInt8) (eA:List Cnd) (gA:List UInt8) (iA:Int) (k4:Y4) (k5:Y5):R :=
  condB (ilt vA zA) (chk (inb vA (List.length eA)) (chk (nlt (Int.toNat vA) (List.length eA)) (chk (inb vA (List.length eA)) (chk (nlt (Int.toNat vA) (List.length eA)&&true) (k5 aA mA kA jA zA (IntKind.wrap .i64 (vA+(1:Int))) cA bA ((dA||(((List.getD eA (Int.toNat vA) d_cnd).cn) == bA))) fA (List.set eA (Int.toNat vA) (⟨(renN cA bA ((List.getD eA (Int.toNat vA) d_cnd).cn)),(List.getD eA (Int.toNat vA) d_cnd).cb,(List.getD eA (Int.toNat vA) d_cnd).cl⟩:Cnd)) gA iA))))) (k4 aA mA kA jA cA bA dA fA eA gA iA)
noncomputable def sh6 (aA:List Rule):R :=
  some ((.tup [(.ful 6),(.int .i64 (0:Int))]),[(6,.rows .rule aA)])
noncomputable def it2 (Kb1:Kont U El) (n:Nat):Kont U El:=iter nm2 (fun st' K'=>exec X (cdp [1,1,1,1,1,1,0,1,0,0] bd) (.seq none .d (.seq none .d (.seq (some nm3) (.block (.seq none .d (.seq none .d (.seq none .d (.seq (some nm4) (.seq none .d (.block (.loop nm5 (.seq none .d (.seq none .d (.seq none (.block (.seq none .d (.region [(10,8),(10,5),(10,4),(13,500001201)]))) .d)))))) .d))))) .d))) st' K' (Eblk 0 (cutK nm1 Kb1) (fun _ _=>none)) RR) n
noncomputable def it5 (Kb1 Kb3 Kb4:Kont U El) (n:Nat):Kont U El:=iter nm5 (fun st' K'=>exec X (cdp [1,1,1,1,1,1,0,1,0,0,1,1,0,0,1,1,1,0,1,0,0] bd) (.seq none .d (.seq none .d (.seq none (.block (.seq none .d (.region [(10,8),(10,5),(10,4),(13,500001201)]))) .d))) st' K' (Eblk 2 (cutK nm4 Kb4) (Eblk 1 (cutK nm3 Kb3) (Eblk 0 (cutK nm1 Kb1) (fun _ _=>none)))) RR) n
noncomputable def ct1:Kont U El:=fun st=>exec X (cdp [1,1,1,1,1,1,1] bd) (.seq (some nm6) .d .d) st RR (fun _ _=>none) RR
noncomputable def ct3 (Kb1 Kb2:Kont U El):Kont U El:=fun st=>exec X (cdp [1,1,1,1,1,1,0,1,0,0,1,1,1] bd) .d st (cutK nm2 Kb2) (Eblk 0 (cutK nm1 Kb1) (fun _ _=>none)) RR
noncomputable def ct4 (Kb1 Kb3:Kont U El):Kont U El:=fun st=>exec X (cdp [1,1,1,1,1,1,0,1,0,0,1,1,0,0,1,1,1,1] bd) .d st (cutK nm3 Kb3) (Eblk 1 (cutK nm3 Kb3) (Eblk 0 (cutK nm1 Kb1) (fun _ _=>none))) RR
noncomputable def ct6:Kont U El:=fun st=>exec X (cdp [1,1,1,1,1,1,1,1] bd) .d st RR (fun _ _=>none) RR
theorem P0 (l fr to):exec X (cdp [] bd) (.seq none .d (.seq none .d (.seq none .d (.seq none .d (.seq none .d (.seq none .d (.seq (some nm1) (.seq none .d (.block (.loop nm2 (.seq none .d (.seq none .d (.seq (some nm3) (.block (.seq none .d (.seq none .d (.seq none .d (.seq (some nm4) (.seq none .d (.block (.loop nm5 (.seq none .d (.seq none .d (.seq none (.block (.seq none .d (.region [(10,8),(10,5),(10,4),(13,500001201)]))) .d)))))) .d))))) .d)))))) (.seq (some nm6) .d .d)))))))) (fr0 l fr to) RR (fun _ _=>none) RR=sh0 l fr to (fun y0 y1 y2 y3 y4 y5 y6=>(hid (it2 (hid ct1) 100000)) (fr2 y0 y1 y2 y3 y4 y5 y6)):=by kernel_rfl
theorem P1 (aA cA bA dA):ct1 (fr1 aA cA bA dA)=sh1 aA cA bA dA (fun y0=>(hid ct6) (fr6 y0)):=by kernel_rfl
theorem P2 (aA mA kA jA cA bA dA) (Kb1 Kb2:Kont U El):exec X (cdp [1,1,1,1,1,1,0,1,0,0] bd) (.seq none .d (.seq none .d (.seq (some nm3) (.block (.seq none .d (.seq none .d (.seq none .d (.seq (some nm4) (.seq none .d (.block (.loop nm5 (.seq none .d (.seq none .d (.seq none (.block (.seq none .d (.region [(10,8),(10,5),(10,4),(13,500001201)]))) .d)))))) .d))))) .d))) (fr2 aA mA kA jA cA bA dA) (cutK nm2 Kb2) (Eblk 0 (cutK nm1 Kb1) (fun _ _=>none)) RR=sh2 aA mA kA jA cA bA dA (fun y0 y1 y2 y3=>Kb1 (fr1 y0 y1 y2 y3)) (fun y0 y1 y2 y3 y4 y5 y6 y7 y8 y9 y10 y11 y12=>(hid (it5 Kb1 (hid (ct3 Kb1 Kb2)) (hid (ct4 Kb1 (hid (ct3 Kb1 Kb2)))) 100000)) (fr5 y0 y1 y2 y3 y4 y5 y6 y7 y8 y9 y10 y11 y12)):=by kernel_rfl
theorem P3 (aA mA kA jA cA bA dA) (Kb1 Kb2:Kont U El):ct3 Kb1 Kb2 (fr3 aA mA kA jA cA bA dA)=sh3 aA mA kA jA cA bA dA (fun y0 y1 y2 y3 y4 y5 y6=>Kb2 (fr2 y0 y1 y2 y3 y4 y5 y6)):=by kernel_rfl
theorem P4 (aA mA kA jA cA bA dA fA eA gA iA) (Kb1 Kb3:Kont U El):ct4 Kb1 Kb3 (fr4 aA mA kA jA cA bA dA fA eA gA iA)=sh4 aA mA kA jA cA bA dA fA eA gA iA (fun y0 y1 y2 y3 y4 y5 y6=>Kb3 (fr3 y0 y1 y2 y3 y4 y5 y6)):=by kernel_rfl
theorem P5 (aA mA kA jA zA vA cA bA dA fA eA gA iA) (Kb1 Kb3 Kb4 Kb5:Kont U El):exec X (cdp [1,1,1,1,1,1,0,1,0,0,1,1,0,0,1,1,1,0,1,0,0] bd) (.seq none .d (.seq none .d (.seq none (.block (.seq none .d (.region [(10,8),(10,5),(10,4),(13,500001201)]))) .d))) (fr5 aA mA kA jA zA vA cA bA dA fA eA gA iA) (cutK nm5 Kb5) (Eblk 2 (cutK nm4 Kb4) (Eblk 1 (cutK nm3 Kb3) (Eblk 0 (cutK nm1 Kb1) (fun _ _=>none)))) RR=sh5 aA mA kA jA zA vA cA bA dA fA eA gA iA (fun y0 y1 y2 y3 y4 y5 y6 y7 y8 y9 y10=>Kb4 (fr4 y0 y1 y2 y3 y4 y5 y6 y7 y8 y9 y10)) (fun y0 y1 y2 y3 y4 y5 y6 y7 y8 y9 y10 y11 y12=>Kb5 (fr5 y0 y1 y2 y3 y4 y5 y6 y7 y8 y9 y10 y11 y12)):=by kernel_rfl
theorem P6 (aA):ct6 (fr6 aA)=sh6 aA:=by kernel_rfl
noncomputable def f6 (aA:List Rule):R:=sh6 aA
noncomputable def f1 (aA:List Rule) (cA:List UInt8) (bA:List UInt8) (dA:Bool):R:=sh1 aA cA bA dA f6
noncomputable def f3 (k2:Y2) (aA:List Rule) (mA:List Rule) (kA:Int) (jA:Int) (cA:List UInt8) (bA:List UInt8) (dA:Bool):R:=sh3 aA mA kA jA cA bA dA k2
noncomputable def f4 (k2:Y2) (aA:List Rule) (mA:List Rule) (kA:Int) (jA:Int) (cA:List UInt8) (bA:List UInt8) (dA:Bool) (fA:List UInt8) (eA:List Cnd) (gA:List UInt8) (iA:Int):R:=sh4 aA mA kA jA cA bA dA fA eA gA iA (f3 k2)
noncomputable def f5 (k2:Y2):Nat→Y5
  | 0=>fun _ _ _ _ _ _ _ _ _ _ _ _ _=>none
  | n+1=>fun aA mA kA jA zA vA cA bA dA fA eA gA iA=>sh5 aA mA kA jA zA vA cA bA dA fA eA gA iA (f4 k2) (f5 k2 n)
noncomputable def f2:Nat→Y2
  | 0=>fun _ _ _ _ _ _ _=>none
  | n+1=>fun aA mA kA jA cA bA dA=>sh2 aA mA kA jA cA bA dA f1 (f5 (f2 n) 100000)
noncomputable def f0 (l:List Rule) (fr:List UInt8) (to:List UInt8):R:=sh0 l fr to (f2 100000)
theorem T6 (aA):(hid ct6) (fr6 aA)=f6 aA:=by
  refine (congrFun (hid_eq _) _).trans <| (P6 aA).trans ?_
  show _=sh6 aA
  rfl
theorem T1 (aA cA bA dA):(hid ct1) (fr1 aA cA bA dA)=f1 aA cA bA dA:=by
  refine (congrFun (hid_eq _) _).trans <| (P1 aA cA bA dA).trans ?_
  show _=sh1 aA cA bA dA f6
  simp only [T6]
theorem T3 (KL2:Kont U El) (k2:Y2) (h2:∀ aA mA kA jA cA bA dA,KL2 (fr2 aA mA kA jA cA bA dA)=k2 aA mA kA jA cA bA dA) (aA mA kA jA cA bA dA):(hid (ct3 (hid ct1) KL2)) (fr3 aA mA kA jA cA bA dA)=f3 k2 aA mA kA jA cA bA dA:=by
  refine (congrFun (hid_eq _) _).trans <| (P3 aA mA kA jA cA bA dA (hid ct1) KL2).trans ?_
  show _=sh3 aA mA kA jA cA bA dA k2
  simp only [h2]
theorem T4 (KL2:Kont U El) (k2:Y2) (h2:∀ aA mA kA jA cA bA dA,KL2 (fr2 aA mA kA jA cA bA dA)=k2 aA mA kA jA cA bA dA) (aA mA kA jA cA bA dA fA eA gA iA):(hid (ct4 (hid ct1) (hid (ct3 (hid ct1) KL2)))) (fr4 aA mA kA jA cA bA dA fA eA gA iA)=f4 k2 aA mA kA jA cA bA dA fA eA gA iA:=by
  refine (congrFun (hid_eq _) _).trans <| (P4 aA mA kA jA cA bA dA fA eA gA iA (hid ct1) (hid (ct3 (hid ct1) KL2))).trans ?_
  show _=sh4 aA mA kA jA cA bA dA fA eA gA iA (f3 k2)
  simp only [T3 KL2 k2 h2]
theorem T5 (KL2:Kont U El) (k2:Y2) (h2:∀ aA mA kA jA cA bA dA,KL2 (fr2 aA mA kA jA cA bA dA)=k2 aA mA kA jA cA bA dA):∀ (n:Nat),∀ aA mA kA jA zA vA cA bA dA fA eA gA iA,it5 (hid ct1) (hid (ct3 (hid ct1) KL2)) (hid (ct4 (hid ct1) (hid (ct3 (hid ct1) KL2)))) n (fr5 aA mA kA jA zA vA cA bA dA fA eA gA iA)=f5 k2 n aA mA kA jA zA vA cA bA dA fA eA gA iA:=by
  intro n
  induction n with
  | zero=>intros; rfl
  | succ n ih =>
    intro aA mA kA jA zA vA cA bA dA fA eA gA iA
    refine (P5 aA mA kA jA zA vA cA bA dA fA eA gA iA (hid ct1) (hid (ct3 (hid ct1) KL2)) (hid (ct4 (hid ct1) (hid (ct3 (hid ct1) KL2)))) (it5 (hid ct1) (hid (ct3 (hid ct1) KL2)) (hid (ct4 (hid ct1) (hid (ct3 (hid ct1) KL2)))) n)).trans ?_
    show _=sh5 aA mA kA jA zA vA cA bA dA fA eA gA iA (f4 k2) (f5 k2 n)
    simp only [T4 KL2 k2 h2,ih]
theorem H5 (KL2:Kont U El) (k2:Y2) (h2:∀ aA mA kA jA cA bA dA,KL2 (fr2 aA mA kA jA cA bA dA)=k2 aA mA kA jA cA bA dA) (aA mA kA jA zA vA cA bA dA fA eA gA iA):hid (it5 (hid ct1) (hid (ct3 (hid ct1) KL2)) (hid (ct4 (hid ct1) (hid (ct3 (hid ct1) KL2)))) 100000) (fr5 aA mA kA jA zA vA cA bA dA fA eA gA iA)=f5 k2 100000 aA mA kA jA zA vA cA bA dA fA eA gA iA:=(congrFun (hid_eq _) _).trans (T5 KL2 k2 h2 100000 aA mA kA jA zA vA cA bA dA fA eA gA iA)
theorem T2:∀ (n:Nat),∀ aA mA kA jA cA bA dA,it2 (hid ct1) n (fr2 aA mA kA jA cA bA dA)=f2 n aA mA kA jA cA bA dA:=by
  intro n
  induction n with
  | zero=>intros; rfl
  | succ n ih =>
    intro aA mA kA jA cA bA dA
    refine (P2 aA mA kA jA cA bA dA (hid ct1) (it2 (hid ct1) n)).trans ?_
    show _=sh2 aA mA kA jA cA bA dA f1 (f5 (f2 n) 100000)
    simp only [T1,H5 (it2 (hid ct1) n) (f2 n) ih]
theorem H2 (aA mA kA jA cA bA dA):hid (it2 (hid ct1) 100000) (fr2 aA mA kA jA cA bA dA)=f2 100000 aA mA kA jA cA bA dA:=(congrFun (hid_eq _) _).trans (T2 100000 aA mA kA jA cA bA dA)
theorem T0 (l fr to):exec X bd (.seq none .d (.seq none .d (.seq none .d (.seq none .d (.seq none .d (.seq none .d (.seq (some nm1) (.seq none .d (.block (.loop nm2 (.seq none .d (.seq none .d (.seq (some nm3) (.block (.seq none .d (.seq none .d (.seq none .d (.seq (some nm4) (.seq none .d (.block (.loop nm5 (.seq none .d (.seq none .d (.seq none (.block (.seq none .d (.region [(10,8),(10,5),(10,4),(13,500001201)]))) .d)))))) .d))))) .d)))))) (.seq (some nm6) .d .d)))))))) (fr0 l fr to) RR (fun _ _=>none) RR=f0 l fr to:=by
  refine (P0 l fr to).trans ?_
  show _=sh0 l fr to (f2 100000)
  simp only [H2]
theorem run (l fr to):runM X bd (.seq none .d (.seq none .d (.seq none .d (.seq none .d (.seq none .d (.seq none .d (.seq (some nm1) (.seq none .d (.block (.loop nm2 (.seq none .d (.seq none .d (.seq (some nm3) (.block (.seq none .d (.seq none .d (.seq none .d (.seq (some nm4) (.seq none .d (.block (.loop nm5 (.seq none .d (.seq none .d (.seq none (.block (.seq none .d (.region [(10,8),(10,5),(10,4),(13,500001201)]))) .d)))))) .d))))) .d)))))) (.seq (some nm6) .d .d)))))))) nmR [6,7] [] [(.lst .rule l),(.str fr),(.str to)]=f0 l fr to:=T0 l fr to
theorem inner (k2:Y2) (out l:List Rule) (L i:Int) (w:List Cnd) (hw:w.length≤90000) (fr to rn rl:List UInt8) (rs:Int):∀ (n j:Nat) (ex:Bool),w.length < n+j→j≤w.length →
    f5 k2 n out l L i (Int.ofNat w.length) (j:Int) fr to ex rn ((w.take j).map (renC fr to)++w.drop j) rl rs=f4 k2 out l L i fr to (ex||List.any (w.drop j) (occC to)) rn (w.map (renC fr to)) rl rs:=by
  intro n
  induction n with
  | zero=>intro j ex h1 h2; omega
  | succ n ih =>
    intro j ex h1 h2
    show sh5 out l L i (Int.ofNat w.length) (j:Int) fr to ex rn ((w.take j).map (renC fr to)++w.drop j) rl rs (f4 k2) (f5 k2 n)=_
    unfold sh5
    by_cases hj:j < w.length
    · rw [iltT (by simp; omega), len_map _ h2, inbT hj, toNat_nat, nltT hj, get_map _ _ hj, wrapS j (by omega)]
      have e:=set_map (renC fr to) hj
      have e2:(⟨renN fr to w[j].cn,w[j].cb,w[j].cl⟩:Cnd)=renC fr to w[j]:=rfl
      rw [e2,e]
      refine (ih (j+1) (ex||(w[j].cn == to)) (by omega) hj).trans ?_
      rw [drop_lt hj,List.any_cons,Bool.or_assoc]
      rfl
    · have : j = w.length := by omega
      subst this
      rw [iltF (by simp),List.drop_length,List.take_length,List.append_nil,List.any_nil,Bool.or_false]
      rfl
theorem loop (fr to:List UInt8) (l:List Rule) (hl:l.length≤60) (hw:∀ r∈l,r.rw.length≤20):∀ (n i:Nat) (out:List Rule) (ex:Bool),l.length < n+i→i≤l.length→out.length≤i →
    f2 n out l (Int.ofNat l.length) (i:Int) fr to ex=f1 (out++(l.drop i).map (renR fr to)) fr to (ex||List.any (l.drop i) (occR to)):=by
  intro n
  induction n with
  | zero=>intro i out ex h1 h2; omega
  | succ n ih =>
    intro i out ex h1 h2 h3
    show sh2 out l (Int.ofNat l.length) (i:Int) fr to ex f1 (f5 (f2 n) 100000)=_
    unfold sh2
    by_cases hi:i < l.length
    · have hr := hw _ (List.getElem_mem hi)
      have e:=inner (f2 n) out l (Int.ofNat l.length) (i:Int) l[i].rw (by omega) fr to l[i].rn (renN fr to l[i].rl) l[i].rs 100000 0 (ex||(l[i].rl == to)) (by omega) (by omega)
      rw [List.take_zero,List.drop_zero] at e
      replace e:f5 (f2 n) 100000 out l (Int.ofNat l.length) (i:Int) (Int.ofNat l[i].rw.length) 0 fr to (ex||(l[i].rl == to)) l[i].rn l[i].rw (renN fr to l[i].rl) l[i].rs=_:=e
      rw [iltT (by simp; omega),inbT hi,toNat_nat,getD_lt hi,nleT (show l[i].rw.length≤90000 by omega),e]
      show sh4 out l (Int.ofNat l.length) (i:Int) fr to _ l[i].rn _ _ l[i].rs (f3 (f2 n))=_
      unfold sh4
      rw [nleT (show _≤140737488355328 by simp; omega),nleT (show _≤9223372036854775807 by simp; omega)]
      show f2 n (out++[renR fr to l[i]]) l (Int.ofNat l.length) (IntKind.wrap .i64 ((i:Int)+1)) fr to _=_
      rw [wrapS i (by omega),ih (i+1) _ _ (by omega) hi (by simp; omega),drop_lt hi,List.map_cons,List.any_cons,List.append_assoc,List.singleton_append]
      unfold occR
      rw [Bool.or_assoc,Bool.or_assoc,Bool.or_assoc]
    · have : i = l.length := by omega
      subst this
      rw [iltF (by simp),List.drop_length,List.map_nil,List.append_nil,List.any_nil,Bool.or_false]
      rfl
theorem f0_eq (l:List Rule) (fr to:List UInt8):f0 l fr to=outR6 (renL l fr to) (renE l fr to):=by
  show sh0 l fr to (f2 100000)=_
  unfold sh0 renL renE
  cases h1:rulesB l with
  | false=>rfl
  | true =>
    cases h2:nameB to with
    | false=>rfl
    | true =>
      obtain ⟨g1,g2⟩:=rulesB_len h1
      show f2 100000 [] l (Int.ofNat l.length) ((0:Nat):Int) fr to false=_
      rw [loop fr to l g1 (fun r hr=>(ruleB_len (g2 r hr)).1) 100000 0 [] false (by omega) (by omega) (by simp),List.drop_zero,Bool.false_or,List.nil_append]
      show sh1 (l.map (renR fr to)) fr to (List.any l (occR to)) f6=_
      unfold sh1
      cases List.any l (occR to)<;>cases fr == to<;>rfl
theorem ok:CtxOk Tryz.prog X:=ctxOk tab (spC valid.spOk (spC isname.spOk (spC cloneC.spOk spN))) (dpC ⟨ren1.spOk,ren1.spDet⟩ dpN)
theorem okM:MOk Tryz.prog X:=mspecOf_ok _ (mpC (mcSp_ok ok ren1.spOk) mpN)
theorem spec (l:List Rule) (fr:List UInt8) (to:List UInt8):MCall Tryz.prog E 23 [(.lst .rule l),(.str fr),(.str to)] [] (.tup [(.ful 6),(.int .i64 (renE l fr to))]) [(6,(.rows .rule (renL l fr to)))] :=
  runM_sound ok okM Tryz.func23 (by kernel_rfl) (by kernel_rfl) (by kernel_rfl) (by show 3≤68; decide) ((run l fr to).trans (f0_eq l fr to))
noncomputable def sp:MSp U El:=fun args hs k=>match args,hs with
  | [.lst .rule l,.str fr,.str to],[]=>chk true (k (.tup [(.ful 6),(.int .i64 (renE l fr to))]) [(6,(.rows .rule (renL l fr to)))])
  | _,_=>none
theorem spOk:MSpOk Tryz.prog E 23 sp:=⟨Tryz.call23,fun args hs k r h=>by
  unfold sp at h
  split at h
  · obtain ⟨_, hA⟩ := chk_some h
    exact ⟨_,_,spec _ _ _,hA⟩
  · cases h⟩
theorem spDet:∀ args hs,∃ oo:Option (AV U El×Heap U El),∀ k,sp args hs k=oo.bind fun p=>k p.1 p.2:=fun args hs=>by
  unfold sp
  split
  · exact det_chkM ⟨some (_,_),fun _=>rfl⟩
  · exact ⟨none,fun _=>rfl⟩
end rename
namespace rcopy
noncomputable def bd:Code:=(Tryz.f73.body).getD .skip
noncomputable def X:Ctx U El:=⟨E,tds,zeros,eqs,specOf [],100000,9,dspecOf [],fun _=>none⟩
noncomputable def nmR:Norm U:=⟨[],[9],[6],[],[],[],[]⟩
noncomputable def RR:Kont U El:=fun st=>loadRes X 9 [(2,51)] 9 st fun st=>normK nmR st (retM [9])
noncomputable def fr0 (r:Rule):St U El:=⟨[(0,(.agg [(.str r.rn),(.lst .cnd r.rw),(.str r.rl),(.int .i64 r.rs)]))],[]⟩
noncomputable def sh0 (r:Rule):R :=
  chk (nle ((List.length ([]:List Cnd)+List.length r.rw) * 32) 140737488355328&&nle (List.length ([]:List Cnd)+List.length r.rw) 9223372036854775807) (some ((.agg [(.str r.rn),(.ful 6),(.str r.rl),(.int .i64 r.rs)]),[(6,(.rows .cnd (([]:List Cnd)++r.rw)))]))
theorem P0 (r):exec X (cdp [] bd) .d (fr0 r) RR (fun _ _=>none) RR=sh0 r:=by kernel_rfl
noncomputable def f0 (r:Rule):R:=sh0 r
theorem T0 (r):exec X bd .d (fr0 r) RR (fun _ _=>none) RR=f0 r:=by
  refine (P0 r).trans ?_
  show _=sh0 r
  rfl
theorem run (r):runMC X bd .d nmR [(2,51)] [9] [] [(.agg [(.str r.rn),(.lst .cnd r.rw),(.str r.rl),(.int .i64 r.rs)])]=f0 r:=T0 r
theorem f0_eq (r:Rule) (h:nle (List.length (Rule.rw r)) 90000=true):f0 r=some (.agg [.str r.rn,.ful 6,.str r.rl,.int .i64 r.rs],[(6,.rows .cnd r.rw)]):=by
  have hl:=nleI h
  show sh0 r=_
  unfold sh0
  rw [nleT (show _≤140737488355328 by simp; omega),nleT (show _≤9223372036854775807 by simp; omega)]
  rfl
theorem ok:CtxOk Tryz.prog X:=ctxOk tab spN dpN
theorem okM:MOk Tryz.prog X:=fun g sp h=>by cases h
theorem spec (r:Rule) (h:(nle (List.length (Rule.rw r)) 90000)=true):MCall Tryz.prog E 73 [(.agg [(.str r.rn),(.lst .cnd r.rw),(.str r.rl),(.int .i64 r.rs)])] [] (.agg [(.str (Rule.rn r)),(.ful 6),(.str (Rule.rl r)),(.int .i64 (Rule.rs r))]) [(6,(.rows .cnd (Rule.rw r)))] :=
  runMC_sound ok okM Tryz.func73 (by kernel_rfl) (by kernel_rfl) (by kernel_rfl) (by show 1≤9; decide) ((run r).trans (f0_eq r h))
noncomputable def sp:MSp U El:=fun args hs k=>match args,hs with
  | [.agg [.str r_rn,.lst .cnd r_rw,.str r_rl,.int .i64 r_rs]],[]=>chk true (chk (nle (List.length (Rule.rw (⟨r_rn,r_rw,r_rl,r_rs⟩:Rule))) 90000) (k (.agg [(.str (Rule.rn (⟨r_rn,r_rw,r_rl,r_rs⟩:Rule))),(.ful 6),(.str (Rule.rl (⟨r_rn,r_rw,r_rl,r_rs⟩:Rule))),(.int .i64 (Rule.rs (⟨r_rn,r_rw,r_rl,r_rs⟩:Rule)))]) [(6,(.rows .cnd (Rule.rw (⟨r_rn,r_rw,r_rl,r_rs⟩:Rule))))]))
  | _,_=>none
theorem spOk:MSpOk Tryz.prog E 73 sp:=⟨Tryz.call73,fun args hs k r h=>by
  unfold sp at h
  split at h
  · obtain ⟨_, hA⟩ := chk_some h
    obtain ⟨h1,hB⟩:=chk_some hA
    exact ⟨_,_,spec ⟨_,_,_,_⟩ h1,hB⟩
  · cases h⟩
theorem spDet:∀ args hs,∃ oo:Option (AV U El×Heap U El),∀ k,sp args hs k=oo.bind fun p=>k p.1 p.2:=fun args hs=>by
  unfold sp
  split
  · exact det_chkM (det_chkM ⟨some (_,_),fun _=>rfl⟩)
  · exact ⟨none,fun _=>rfl⟩
end rcopy
theorem sameC_self (c:Cnd):sameC c c=true:=by simp [sameC]
theorem sameR_self (r:Rule):sameR r r=true:=by unfold sameR; rw [eqLen_self sameC_self]; simp
theorem sameL_self (l:List Rule):sameL l l=true:=eqLen_self sameR_self l
namespace rsameR
noncomputable def bd:Code:=(Tryz.f26.body).getD .skip
noncomputable def X:Ctx U El:=⟨E,tds,zeros,eqs,specOf [],100000,52,dspecOf [],fun _=>none⟩
noncomputable def nmR:Norm U:=⟨[],[4],[],[],[],[],[]⟩
noncomputable def RR:Kont U El:=fun st=>normK nmR st (retFin [4] [])
noncomputable def nm1:Norm U:=⟨[],[2,3],[2,3],[],[],[],[(2,1,.cnd),(3,1,.cnd)]⟩
noncomputable def nm2:Norm U:=⟨[],[],[],[],[],[],[]⟩
noncomputable def nm3:Norm U:=⟨[],[2,3,5],[2,3],[],[],[],[(2,1,.cnd),(3,1,.cnd)]⟩
abbrev Y1:=(List UInt8)→(List Cnd)→(List UInt8)→Int→(List UInt8)→(List Cnd)→(List UInt8)→Int→R
abbrev Y2:=R
abbrev Y3:=Int→(List UInt8)→(List Cnd)→(List UInt8)→Int→(List UInt8)→(List Cnd)→(List UInt8)→Int→R
noncomputable def fr0 (a:Rule) (b:Rule):St U El:=⟨[(0,(.agg [(.str a.rn),(.lst .cnd a.rw),(.str a.rl),(.int .i64 a.rs)])),(1,(.agg [(.str b.rn),(.lst .cnd b.rw),(.str b.rl),(.int .i64 b.rs)]))],[]⟩
noncomputable def fr1 (pA:List UInt8) (nA:List Cnd) (qA:List UInt8) (rA:Int) (sA:List UInt8) (oA:List Cnd) (tA:List UInt8) (uA:Int):St U El:=⟨[(2,(.ptr 2 0)),(3,(.ptr 3 0))],[(2,(.box 0 [(.str pA),(.lst .cnd nA),(.str qA),(.int .i64 rA)])),(3,(.box 0 [(.str sA),(.lst .cnd oA),(.str tA),(.int .i64 uA)]))]⟩
noncomputable def fr2:St U El:=⟨[],[]⟩
noncomputable def fr3 (i5:Int) (pA:List UInt8) (nA:List Cnd) (qA:List UInt8) (rA:Int) (sA:List UInt8) (oA:List Cnd) (tA:List UInt8) (uA:Int):St U El:=⟨[(2,(.ptr 2 0)),(3,(.ptr 3 0)),(5,(.int .i64 i5))],[(2,(.box 0 [(.str pA),(.lst .cnd nA),(.str qA),(.int .i64 rA)])),(3,(.box 0 [(.str sA),(.lst .cnd oA),(.str tA),(.int .i64 uA)]))]⟩
noncomputable def sh0 (a:Rule) (b:Rule) (k1:Y1):R :=
  condB (!(a.rn == b.rn)) (some ((.bool false),[])) (condB (!(a.rl == b.rl)) (some ((.bool false),[])) (condB (a.rs != b.rs) (some ((.bool false),[])) (condB ((Int.ofNat (List.length a.rw)) != (Int.ofNat (List.length b.rw))) (some ((.bool false),[])) (k1 a.rn a.rw a.rl a.rs b.rn b.rw b.rl b.rs))))
noncomputable def sh1 (pA:List UInt8) (nA:List Cnd) (qA:List UInt8) (rA:Int) (sA:List UInt8) (oA:List Cnd) (tA:List UInt8) (uA:Int) (k3:Y3):R :=
  k3 (0:Int) pA nA qA rA sA oA tA uA
noncomputable def sh2:R :=
  some ((.bool true),[])
noncomputable def sh3 (i5:Int) (pA:List UInt8) (nA:List Cnd) (qA:List UInt8) (rA:Int) (sA:List UInt8) (oA:List Cnd) (tA:List UInt8) (uA:Int) (k2:Y2) (k3:Y3):R :=
  condB (ilt i5 (Int.ofNat (List.length nA))) (chk (inb i5 (List.length nA)) (chk (inb i5 (List.length oA)) (condB (!(((List.getD nA (Int.toNat i5) d_cnd).cn == (List.getD oA (Int.toNat i5) d_cnd).cn)&&(((List.getD nA (Int.toNat i5) d_cnd).cb == (List.getD oA (Int.toNat i5) d_cnd).cb)&&(((List.getD nA (Int.toNat i5) d_cnd).cl == (List.getD oA (Int.toNat i5) d_cnd).cl)&&true)))) (some ((.bool false),[])) (k3 (IntKind.wrap .i64 (i5+(1:Int))) pA nA qA rA sA oA tA uA)))) (k2)
noncomputable def it3 (Kb2:Kont U El) (n:Nat):Kont U El:=iter nm3 (fun st' K'=>exec X (cdp [1,1,0,1,0,0] bd) .d st' K' (Eblk 0 (cutK nm2 Kb2) (fun _ _=>none)) RR) n
noncomputable def ct1:Kont U El:=fun st=>exec X (cdp [1,1] bd) (.seq (some nm2) (.seq none .d (.block (.loop nm3 .d))) .d) st RR (fun _ _=>none) RR
noncomputable def ct2:Kont U El:=fun st=>exec X (cdp [1,1,1] bd) .d st RR (fun _ _=>none) RR
theorem P0 (a b):exec X (cdp [] bd) (.seq none .d (.seq (some nm1) .d (.seq (some nm2) (.seq none .d (.block (.loop nm3 .d))) .d))) (fr0 a b) RR (fun _ _=>none) RR=sh0 a b (fun y0 y1 y2 y3 y4 y5 y6 y7=>(hid ct1) (fr1 y0 y1 y2 y3 y4 y5 y6 y7)):=by kernel_rfl
theorem P1 (pA nA qA rA sA oA tA uA):ct1 (fr1 pA nA qA rA sA oA tA uA)=sh1 pA nA qA rA sA oA tA uA (fun y0 y1 y2 y3 y4 y5 y6 y7 y8=>(hid (it3 (hid ct2) 100000)) (fr3 y0 y1 y2 y3 y4 y5 y6 y7 y8)):=by kernel_rfl
theorem P2:ct2 (fr2)=sh2:=by kernel_rfl
theorem P3 (i5 pA nA qA rA sA oA tA uA) (Kb2 Kb3:Kont U El):exec X (cdp [1,1,0,1,0,0] bd) .d (fr3 i5 pA nA qA rA sA oA tA uA) (cutK nm3 Kb3) (Eblk 0 (cutK nm2 Kb2) (fun _ _=>none)) RR=sh3 i5 pA nA qA rA sA oA tA uA (Kb2 (fr2)) (fun y0 y1 y2 y3 y4 y5 y6 y7 y8=>Kb3 (fr3 y0 y1 y2 y3 y4 y5 y6 y7 y8)):=by kernel_rfl
noncomputable def f2:R:=sh2
noncomputable def f3:Nat→Y3
  | 0=>fun _ _ _ _ _ _ _ _ _=>none
  | n+1=>fun i5 pA nA qA rA sA oA tA uA=>sh3 i5 pA nA qA rA sA oA tA uA f2 (f3 n)
noncomputable def f1 (pA:List UInt8) (nA:List Cnd) (qA:List UInt8) (rA:Int) (sA:List UInt8) (oA:List Cnd) (tA:List UInt8) (uA:Int):R:=sh1 pA nA qA rA sA oA tA uA (f3 100000)
noncomputable def f0 (a:Rule) (b:Rule):R:=sh0 a b f1
theorem T2:(hid ct2) (fr2)=f2:=by
  refine (congrFun (hid_eq _) _).trans <| (P2).trans ?_
  show _=sh2
  rfl
theorem T3:∀ (n:Nat),∀ i5 pA nA qA rA sA oA tA uA,it3 (hid ct2) n (fr3 i5 pA nA qA rA sA oA tA uA)=f3 n i5 pA nA qA rA sA oA tA uA:=by
  intro n
  induction n with
  | zero=>intros; rfl
  | succ n ih =>
    intro i5 pA nA qA rA sA oA tA uA
    refine (P3 i5 pA nA qA rA sA oA tA uA (hid ct2) (it3 (hid ct2) n)).trans ?_
    show _=sh3 i5 pA nA qA rA sA oA tA uA f2 (f3 n)
    simp only [T2,ih]
theorem H3 (i5 pA nA qA rA sA oA tA uA):hid (it3 (hid ct2) 100000) (fr3 i5 pA nA qA rA sA oA tA uA)=f3 100000 i5 pA nA qA rA sA oA tA uA:=(congrFun (hid_eq _) _).trans (T3 100000 i5 pA nA qA rA sA oA tA uA)
theorem T1 (pA nA qA rA sA oA tA uA):(hid ct1) (fr1 pA nA qA rA sA oA tA uA)=f1 pA nA qA rA sA oA tA uA:=by
  refine (congrFun (hid_eq _) _).trans <| (P1 pA nA qA rA sA oA tA uA).trans ?_
  show _=sh1 pA nA qA rA sA oA tA uA (f3 100000)
  simp only [H3]
theorem T0 (a b):exec X bd (.seq none .d (.seq (some nm1) .d (.seq (some nm2) (.seq none .d (.block (.loop nm3 .d))) .d))) (fr0 a b) RR (fun _ _=>none) RR=f0 a b:=by
  refine (P0 a b).trans ?_
  show _=sh0 a b f1
  simp only [T1]
theorem run (a b):runFn X bd (.seq none .d (.seq (some nm1) .d (.seq (some nm2) (.seq none .d (.block (.loop nm3 .d))) .d))) nmR [4] [] [(.agg [(.str a.rn),(.lst .cnd a.rw),(.str a.rl),(.int .i64 a.rs)]),(.agg [(.str b.rn),(.lst .cnd b.rw),(.str b.rl),(.int .i64 b.rs)])]=f0 a b:=T0 a b
theorem loop (a b:Rule):∀ (n i:Nat),a.rw.length=b.rw.length→a.rw.length≤90000→a.rw.length < n+i→i≤a.rw.length→f3 n (i:Int) a.rn a.rw a.rl a.rs b.rn b.rw b.rl b.rs=outB (eqL sameC (a.rw.drop i) (b.rw.drop i)):=by
  intro n
  induction n with
  | zero=>intro i h1 h2 h3 h4; omega
  | succ n ih =>
    intro i h1 h2 h3 h4
    show sh3 (i:Int) a.rn a.rw a.rl a.rs b.rn b.rw b.rl b.rs f2 (f3 n)=_
    unfold sh3
    by_cases hi:i < a.rw.length
    · have hj : i < b.rw.length := by omega
      rw [iltT (by simp; omega),inbT hi,inbT hj,toNat_nat,getD_lt hi,getD_lt hj,drop_lt hi,drop_lt hj,wrapS i (by omega),ih (i+1) h1 h2 (by omega) hi]
      simp only [condT,chkT,eqL]
      show condB (!(sameC a.rw[i] b.rw[i])) (outB false) _=_
      cases sameC a.rw[i] b.rw[i]<;>rfl
    · have e1 : i = a.rw.length := by omega
      subst e1
      rw [iltF (by simp),List.drop_length,h1,List.drop_length]
      rfl
theorem f0_eq (a b : Rule) (h : nle (List.length (Rule.rw a)) 90000 = true) : f0 a b = outB (sameR a b) := by
  show sh0 a b f1=_
  unfold sh0 sameR eqLen
  have key:a.rw.length=b.rw.length→f1 a.rn a.rw a.rl a.rs b.rn b.rw b.rl b.rs=outB (eqL sameC a.rw b.rw):=fun e=>loop a b 100000 0 e (nleI h) (by have:=nleI h; omega) (by omega)
  cases h1:a.rn == b.rn with
  | false=>rfl
  | true =>
    cases h2:a.rl == b.rl with
    | false=>rfl
    | true =>
      cases h3:a.rs == b.rs with
      | false=>rw [show (a.rs != b.rs)=true by simp [bne,h3]]; rfl
      | true =>
        rw [show (a.rs != b.rs)=false by simp [bne,h3]]
        by_cases e:a.rw.length=b.rw.length
        · rw [bneF e, key e]
          rfl
        · rw [bneT e]
          rfl
theorem ok:CtxOk Tryz.prog X:=ctxOk tab spN dpN
theorem okM:MOk Tryz.prog X:=fun g sp h=>by cases h
theorem spec (a:Rule) (b:Rule) (h:(nle (List.length (Rule.rw a)) 90000)=true):CallSpec Tryz.prog E 26 [(.agg [(.str a.rn),(.lst .cnd a.rw),(.str a.rl),(.int .i64 a.rs)]),(.agg [(.str b.rn),(.lst .cnd b.rw),(.str b.rl),(.int .i64 b.rs)])] (.bool (sameR a b)) [] :=
  runFn_sound ok okM Tryz.call26 Tryz.func26 (by kernel_rfl) (by kernel_rfl) (by kernel_rfl) (by show 2≤52; decide) (by decide) (by rfl) ((run a b).trans (f0_eq a b h))
noncomputable def sp:Sp U El:=fun args k=>match args with
  | [.agg [.str a_rn,.lst .cnd a_rw,.str a_rl,.int .i64 a_rs],.agg [.str b_rn,.lst .cnd b_rw,.str b_rl,.int .i64 b_rs]]=>chk (nle (List.length (Rule.rw (⟨a_rn,a_rw,a_rl,a_rs⟩:Rule))) 90000) (k (.bool (sameR (⟨a_rn,a_rw,a_rl,a_rs⟩:Rule) (⟨b_rn,b_rw,b_rl,b_rs⟩:Rule))) [])
  | _=>none
theorem spOk:SpOk Tryz.prog E 26 sp where
  det:=fun vs=>by
    unfold sp
    split
    · exact det_c _ _ _
    · exact ⟨none,fun _=>rfl⟩
  ok:=fun vs k r h=>by
    unfold sp at h
    split at h
    · obtain ⟨h1, h2⟩ := chk_some h
      exact ⟨_,_,spec ⟨_,_,_,_⟩ ⟨_,_,_,_⟩ h1,h2⟩
    · cases h
end rsameR
namespace rsameN
theorem spec (a : Rule) (n l : List UInt8) (s : Int) (h : (nle (List.length (Rule.rw a)) 90000) = true) : CallSpec Tryz.prog E 26 [(.agg [(.str a.rn), (.lst .cnd a.rw), (.str a.rl), (.int .i64 a.rs)]), (.agg [(.str n), .nils, (.str l), (.int .i64 s)])] (.bool (sameR a ⟨n, [], l, s⟩)) [] := by
  obtain ⟨h1,h2,h3⟩:=rsameR.spec a ⟨n,[],l,s⟩ h
  refine ⟨h1,h2,fun S w vs h4 h5 h6=>h3 S w vs h4 h5 ⟨h6.1,fun i c v hc hv => ?_⟩⟩
  match i,hc,hv with
  | 0,hc,hv=>exact h6.2 0 c v hc hv
  | 1, hc, hv =>
    cases hc
    have hr:=h6.2 1 _ v rfl hv
    cases hr with
    | agg cs vs' hl hh =>
      refine .agg _ _ hl fun j c v hc hv => ?_
      match j,hc,hv with
      | 0,hc,hv=>exact hh 0 c v hc hv
      | 1, hc, hv =>
        cases hc
        have:=hh 1 _ v rfl hv
        cases this
        exact .lstE _ _ _
      | 2,hc,hv=>exact hh 2 c v hc hv
      | 3,hc,hv=>exact hh 3 c v hc hv
      | j+4,hc,hv=>cases hc
  | i+2,hc,hv=>cases hc
noncomputable def sp:Sp U El:=fun args k=>match args with
  | [.agg [.str a_rn,.lst .cnd a_rw,.str a_rl,.int .i64 a_rs],.agg [.str b_rn,.nils,.str b_rl,.int .i64 b_rs]]=>chk (nle (List.length (Rule.rw (⟨a_rn,a_rw,a_rl,a_rs⟩:Rule))) 90000) (k (.bool (sameR (⟨a_rn,a_rw,a_rl,a_rs⟩:Rule) (⟨b_rn,[],b_rl,b_rs⟩:Rule))) [])
  | _=>rsameR.sp args k
theorem spOk:SpOk Tryz.prog E 26 sp where
  det:=fun vs=>by
    unfold sp
    split
    · exact det_c _ _ _
    · exact rsameR.spOk.det _
  ok:=fun vs k r h=>by
    unfold sp at h
    split at h
    · obtain ⟨h1, h2⟩ := chk_some h
      exact ⟨_,_,spec ⟨_,_,_,_⟩ _ _ _ h1,h2⟩
    · exact rsameR.spOk.ok _ _ _ h
end rsameN
namespace rsame
noncomputable def bd:Code:=(Tryz.f14.body).getD .skip
noncomputable def X:Ctx U El:=⟨E,tds,zeros,eqs,specOf [(26,rsameN.sp)],100000,27,dspecOf [],fun _=>none⟩
noncomputable def nmR:Norm U:=⟨[],[4],[],[],[],[],[]⟩
noncomputable def RR:Kont U El:=fun st=>normK nmR st (retFin [4] [])
noncomputable def nm1:Norm U:=⟨[],[],[],[],[],[],[]⟩
noncomputable def nm2:Norm U:=⟨[],[0,1,5],[],[],[],[],[]⟩
abbrev Y1:=R
abbrev Y2:=(List Rule)→(List Rule)→Int→R
noncomputable def fr0 (a:List Rule) (b:List Rule):St U El:=⟨[(0,(.lst .rule a)),(1,(.lst .rule b))],[]⟩
noncomputable def fr1:St U El:=⟨[],[]⟩
noncomputable def fr2 (a0:List Rule) (b1:List Rule) (i5:Int):St U El:=⟨[(0,(.lst .rule a0)),(1,(.lst .rule b1)),(5,(.int .i64 i5))],[]⟩
noncomputable def sh0 (a:List Rule) (b:List Rule) (k2:Y2):R :=
  condB ((Int.ofNat (List.length a)) != (Int.ofNat (List.length b))) (some ((.bool false),[])) (k2 a b (0:Int))
noncomputable def sh1:R :=
  some ((.bool true),[])
noncomputable def sh2 (a0:List Rule) (b1:List Rule) (i5:Int) (k1:Y1) (k2:Y2):R :=
  condB (ilt i5 (Int.ofNat (List.length a0))) (chk (inb i5 (List.length a0)) (chk (inb i5 (List.length b1)) (chk (nle (List.length (Rule.rw (List.getD a0 (Int.toNat i5) d_rule))) 90000) (condB (!(sameR (List.getD a0 (Int.toNat i5) d_rule) (List.getD b1 (Int.toNat i5) d_rule))) (some ((.bool false),[])) (k2 a0 b1 (IntKind.wrap .i64 (i5+(1:Int)))))))) (k1)
noncomputable def it2 (Kb1:Kont U El) (n:Nat):Kont U El:=iter nm2 (fun st' K'=>exec X (cdp [1,1,0,1,0,0] bd) .d st' K' (Eblk 0 (cutK nm1 Kb1) (fun _ _=>none)) RR) n
noncomputable def ct1:Kont U El:=fun st=>exec X (cdp [1,1,1] bd) .d st RR (fun _ _=>none) RR
theorem P0 (a b):exec X (cdp [] bd) (.seq none .d (.seq none .d (.seq (some nm1) (.seq none .d (.block (.loop nm2 .d))) .d))) (fr0 a b) RR (fun _ _=>none) RR=sh0 a b (fun y0 y1 y2=>(hid (it2 (hid ct1) 100000)) (fr2 y0 y1 y2)):=by kernel_rfl
theorem P1:ct1 (fr1)=sh1:=by kernel_rfl
theorem P2 (a0 b1 i5) (Kb1 Kb2:Kont U El):exec X (cdp [1,1,0,1,0,0] bd) .d (fr2 a0 b1 i5) (cutK nm2 Kb2) (Eblk 0 (cutK nm1 Kb1) (fun _ _=>none)) RR=sh2 a0 b1 i5 (Kb1 (fr1)) (fun y0 y1 y2=>Kb2 (fr2 y0 y1 y2)):=by kernel_rfl
noncomputable def f1:R:=sh1
noncomputable def f2:Nat→Y2
  | 0=>fun _ _ _=>none
  | n+1=>fun a0 b1 i5=>sh2 a0 b1 i5 f1 (f2 n)
noncomputable def f0 (a:List Rule) (b:List Rule):R:=sh0 a b (f2 100000)
theorem T1:(hid ct1) (fr1)=f1:=by
  refine (congrFun (hid_eq _) _).trans <| (P1).trans ?_
  show _=sh1
  rfl
theorem T2:∀ (n:Nat),∀ a0 b1 i5,it2 (hid ct1) n (fr2 a0 b1 i5)=f2 n a0 b1 i5:=by
  intro n
  induction n with
  | zero=>intros; rfl
  | succ n ih =>
    intro a0 b1 i5
    refine (P2 a0 b1 i5 (hid ct1) (it2 (hid ct1) n)).trans ?_
    show _=sh2 a0 b1 i5 f1 (f2 n)
    simp only [T1,ih]
theorem H2 (a0 b1 i5):hid (it2 (hid ct1) 100000) (fr2 a0 b1 i5)=f2 100000 a0 b1 i5:=(congrFun (hid_eq _) _).trans (T2 100000 a0 b1 i5)
theorem T0 (a b):exec X bd (.seq none .d (.seq none .d (.seq (some nm1) (.seq none .d (.block (.loop nm2 .d))) .d))) (fr0 a b) RR (fun _ _=>none) RR=f0 a b:=by
  refine (P0 a b).trans ?_
  show _=sh0 a b (f2 100000)
  simp only [H2]
theorem run (a b):runFn X bd (.seq none .d (.seq none .d (.seq (some nm1) (.seq none .d (.block (.loop nm2 .d))) .d))) nmR [4] [] [(.lst .rule a),(.lst .rule b)]=f0 a b:=T0 a b
theorem loop (a b:List Rule) (hw:∀ r∈a,r.rw.length≤90000):∀ (n i:Nat),a.length=b.length→a.length≤90000→a.length < n+i→i≤a.length→f2 n a b (i:Int)=outB (eqL sameR (a.drop i) (b.drop i)):=by
  intro n
  induction n with
  | zero=>intro i h1 h2 h3 h4; omega
  | succ n ih =>
    intro i h1 h2 h3 h4
    show sh2 a b (i:Int) f1 (f2 n)=_
    unfold sh2
    by_cases hi:i < a.length
    · have hj : i < b.length := by omega
      rw [iltT (by simp; omega),inbT hi,inbT hj,toNat_nat,getD_lt hi,getD_lt hj,drop_lt hi,drop_lt hj,wrapS i (by omega),ih (i+1) h1 h2 (by omega) hi,nleT (hw _ (List.getElem_mem hi))]
      simp only [condT,chkT,eqL]
      cases sameR a[i] b[i]<;>rfl
    · have e1 : i = a.length := by omega
      subst e1
      rw [iltF (by simp),List.drop_length,h1,List.drop_length]
      rfl
theorem f0_eq (a b:List Rule) (h:okR a=true):f0 a b=outB (sameL a b):=by
  simp only [okR,Bool.and_eq_true] at h
  have hl:=nleI h.1
  show sh0 a b (f2 100000)=_
  unfold sh0 sameL eqLen
  by_cases e:a.length=b.length
  · rw [bneF e]
    exact loop a b (fun r hr=>nleI (List.all_eq_true.1 h.2 r hr)) 100000 0 e hl (by omega) (by omega)
  · rw [bneT e]
    rfl
theorem ok:CtxOk Tryz.prog X:=ctxOk tab (spC rsameN.spOk spN) dpN
theorem okM:MOk Tryz.prog X:=fun g sp h=>by cases h
theorem spec (a:List Rule) (b:List Rule) (h:(okR a)=true):CallSpec Tryz.prog E 14 [(.lst .rule a),(.lst .rule b)] (.bool (sameL a b)) [] :=
  runFn_sound ok okM Tryz.call14 Tryz.func14 (by kernel_rfl) (by kernel_rfl) (by kernel_rfl) (by show 2≤27; decide) (by decide) (by rfl) ((run a b).trans (f0_eq a b h))
noncomputable def sp:Sp U El:=fun args k=>match args with
  | [.lst .rule a,.lst .rule b]=>chk (okR a) (k (.bool (sameL a b)) [])
  | _=>none
theorem spOk:SpOk Tryz.prog E 14 sp where
  det:=fun vs=>by
    unfold sp
    split
    · exact det_c _ _ _
    · exact ⟨none,fun _=>rfl⟩
  ok:=fun vs k r h=>by
    unfold sp at h
    split at h
    · obtain ⟨h1, h2⟩ := chk_some h
      exact ⟨_,_,spec _ _ h1,h2⟩
    · cases h
end rsame
end Go.Proofs.YtlkfbblapimhoaaGreatDoor
