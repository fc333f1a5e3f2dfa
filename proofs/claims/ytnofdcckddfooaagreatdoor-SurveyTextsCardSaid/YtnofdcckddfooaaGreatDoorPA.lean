/- Readers of surfaces: the code's and the document's. -/
import Derived.Test.YtnofdcckddfooaaGreatDoorSR
import Derived.Test.YtnofdcckddfooaaGreatDoorRB
namespace Go.Proofs.YtnofdcckddfooaaGreatDoor
set_option linter.unusedSectionVars false
set_option linter.unusedSimpArgs false
set_option linter.unusedVariables false
set_option maxRecDepth 100000
abbrev wSpot:List UInt8:=[115,112,111,116]
abbrev wFace:List UInt8:=[102,97,99,101]
noncomputable def spL (l:List Int):Spot:=⟨List.getD l 0 d_int,List.getD l 1 d_int,List.getD l 2 d_int⟩
noncomputable def fcL (l:List Int):Face:=⟨List.getD l 0 d_int,List.getD l 1 d_int,List.getD l 2 d_int,List.getD l 3 d_int⟩
noncomputable def isSp (b:List Face) (s:List UInt8):Bool:=numB wSpot s 3&&((Int.ofNat (List.length b)) == (0:Int))
noncomputable def addB (a:List Spot) (b:List Face) (s:List UInt8):Bool:=bif isSp b s then true else numB wFace s 4
noncomputable def addS (a:List Spot) (b:List Face) (s:List UInt8):List Spot:=bif isSp b s then a++[spL (rdL wSpot s)] else a
noncomputable def addF (a:List Spot) (b:List Face) (s:List UInt8):List Face:=bif isSp b s then b else bif numB wFace s 4 then b++[fcL (rdL wFace s)] else b
theorem num_rd {w s:List UInt8} {n:Int} (h:numB w s n=true):numL w s n=rdL w s∧Int.ofNat (rdL w s).length=n:=by
  refine ⟨by unfold numL; rw [h]; rfl,?_⟩
  unfold numB at h
  unfold rdL
  cases hl:lineO w s with
  | none=>rw [hl] at h; cases h
  | some r=>rw [hl] at h; exact beq_iff_eq.1 h
theorem word3:wordB wSpot 3=true:=by
  unfold wordB
  rw [ileT (by omega),ileT (by omega)]
  rfl
theorem word4:wordB wFace 4=true:=by
  unfold wordB
  rw [ileT (by omega),ileT (by omega)]
  rfl
noncomputable def outA (ok:Bool) (a:List Spot) (b:List Face):R:=some ((.bool ok),[(1000000000,(.box 1000000000 [(.ful 1000000001),(.ful 1000000002)])),(1000000001,(.rows .spot a)),(1000000002,(.rows .face b))])
namespace addM
noncomputable def bd:Code:=(Tryz.f33.body).getD .skip
noncomputable def X:Ctx U El:=⟨E,tds,zeros,eqs,specOf [(59,numbers.sp)],100000,71,dspecOf [],fun _=>none⟩
noncomputable def nmR:Norm U:=⟨[],[4],[1000000000,1000000001,1000000002],[],[(1000000000,0,.spot,1000000001),(1000000000,1,.face,1000000002)],[],[]⟩
noncomputable def RR:Kont U El:=fun st=>normK nmR st (retM [4])
noncomputable def nm1:Norm U:=⟨[],[0,1],[1000000000,1000000001,1000000002],[],[(1000000000,0,.spot,1000000001),(1000000000,1,.face,1000000002)],[],[]⟩
noncomputable def nm2:Norm U:=⟨[],[8],[1000000000,1000000001,1000000002],[],[(1000000000,0,.spot,1000000001),(1000000000,1,.face,1000000002)],[],[]⟩
abbrev Y1:=(List UInt8)→(List Spot)→(List Face)→R
abbrev Y2:=Bool→(List Spot)→(List Face)→R
noncomputable def fr0 (s:List UInt8) (a:List Spot) (b:List Face):St U El:=⟨[(0,(.ptr 1000000000 0)),(1,(.str s))],[(1000000000,(.box 1000000000 [(.ful 1000000001),(.ful 1000000002)])),(1000000001,(.rows .spot a)),(1000000002,(.rows .face b))]⟩
noncomputable def fr1 (s1:List UInt8) (iA:List Spot) (gA:List Face):St U El:=⟨[(0,(.ptr 1000000000 0)),(1,(.str s1))],[(1000000000,(.box 1000000000 [(.ful 1000000001),(.ful 1000000002)])),(1000000001,(.rows .spot iA)),(1000000002,(.rows .face gA))]⟩
noncomputable def fr2 (kA:Bool) (iA:List Spot) (gA:List Face):St U El:=⟨[(8,(.bool kA))],[(1000000000,(.box 1000000000 [(.ful 1000000001),(.ful 1000000002)])),(1000000001,(.rows .spot iA)),(1000000002,(.rows .face gA))]⟩
noncomputable def sh0 (s:List UInt8) (a:List Spot) (b:List Face) (k1:Y1):R :=
  chk ((nle (List.length s) 90000&&wordB ([115,112,111,116]:List UInt8) (3:Int))) (condB (numB ([115,112,111,116]:List UInt8) s (3:Int)) (condB ((Int.ofNat (List.length b)) == (0:Int)) (chk (inb (0:Int) (List.length (numL ([115,112,111,116]:List UInt8) s (3:Int)))) (chk (inb (1:Int) (List.length (numL ([115,112,111,116]:List UInt8) s (3:Int)))) (chk (inb (2:Int) (List.length (numL ([115,112,111,116]:List UInt8) s (3:Int)))) (chk (nle ((List.length a+List.length ([(⟨(List.getD (numL ([115,112,111,116]:List UInt8) s (3:Int)) 0 d_int),(List.getD (numL ([115,112,111,116]:List UInt8) s (3:Int)) 1 d_int),(List.getD (numL ([115,112,111,116]:List UInt8) s (3:Int)) 2 d_int)⟩:Spot)]:List Spot)) * 24) 140737488355328&&nle (List.length a+List.length ([(⟨(List.getD (numL ([115,112,111,116]:List UInt8) s (3:Int)) 0 d_int),(List.getD (numL ([115,112,111,116]:List UInt8) s (3:Int)) 1 d_int),(List.getD (numL ([115,112,111,116]:List UInt8) s (3:Int)) 2 d_int)⟩:Spot)]:List Spot)) 9223372036854775807) (some ((.bool true),[(1000000000,(.box 1000000000 [(.ful 1000000001),(.ful 1000000002)])),(1000000001,(.rows .spot (a++([(⟨(List.getD (numL ([115,112,111,116]:List UInt8) s (3:Int)) 0 d_int),(List.getD (numL ([115,112,111,116]:List UInt8) s (3:Int)) 1 d_int),(List.getD (numL ([115,112,111,116]:List UInt8) s (3:Int)) 2 d_int)⟩:Spot)]:List Spot)))),(1000000002,(.rows .face b))])))))) (k1 s a b)) (k1 s a b))
noncomputable def sh1 (s1:List UInt8) (iA:List Spot) (gA:List Face) (k2:Y2):R :=
  chk ((nle (List.length s1) 90000&&wordB ([102,97,99,101]:List UInt8) (4:Int))) (condB (numB ([102,97,99,101]:List UInt8) s1 (4:Int)) (chk (inb (0:Int) (List.length (numL ([102,97,99,101]:List UInt8) s1 (4:Int)))) (chk (inb (1:Int) (List.length (numL ([102,97,99,101]:List UInt8) s1 (4:Int)))) (chk (inb (2:Int) (List.length (numL ([102,97,99,101]:List UInt8) s1 (4:Int)))) (chk (inb (3:Int) (List.length (numL ([102,97,99,101]:List UInt8) s1 (4:Int)))) (chk (nle ((List.length gA+List.length ([(⟨(List.getD (numL ([102,97,99,101]:List UInt8) s1 (4:Int)) 0 d_int),(List.getD (numL ([102,97,99,101]:List UInt8) s1 (4:Int)) 1 d_int),(List.getD (numL ([102,97,99,101]:List UInt8) s1 (4:Int)) 2 d_int),(List.getD (numL ([102,97,99,101]:List UInt8) s1 (4:Int)) 3 d_int)⟩:Face)]:List Face)) * 32) 140737488355328&&nle (List.length gA+List.length ([(⟨(List.getD (numL ([102,97,99,101]:List UInt8) s1 (4:Int)) 0 d_int),(List.getD (numL ([102,97,99,101]:List UInt8) s1 (4:Int)) 1 d_int),(List.getD (numL ([102,97,99,101]:List UInt8) s1 (4:Int)) 2 d_int),(List.getD (numL ([102,97,99,101]:List UInt8) s1 (4:Int)) 3 d_int)⟩:Face)]:List Face)) 9223372036854775807) (k2 (numB ([102,97,99,101]:List UInt8) s1 (4:Int)) iA (gA++([(⟨(List.getD (numL ([102,97,99,101]:List UInt8) s1 (4:Int)) 0 d_int),(List.getD (numL ([102,97,99,101]:List UInt8) s1 (4:Int)) 1 d_int),(List.getD (numL ([102,97,99,101]:List UInt8) s1 (4:Int)) 2 d_int),(List.getD (numL ([102,97,99,101]:List UInt8) s1 (4:Int)) 3 d_int)⟩:Face)]:List Face)))))))) (k2 (numB ([102,97,99,101]:List UInt8) s1 (4:Int)) iA gA))
noncomputable def sh2 (kA:Bool) (iA:List Spot) (gA:List Face):R :=
  some ((.bool kA),[(1000000000,(.box 1000000000 [(.ful 1000000001),(.ful 1000000002)])),(1000000001,(.rows .spot iA)),(1000000002,(.rows .face gA))])
noncomputable def ct1:Kont U El:=fun st=>exec X (cdp [1,1] bd) (.seq none .d (.seq (some nm2) (.seq none .d (.cond (.region [(19,1000000002),(22,1000000000)]) .d)) .d)) st RR (fun _ _=>none) RR
noncomputable def ct2:Kont U El:=fun st=>exec X (cdp [1,1,1,1] bd) .d st RR (fun _ _=>none) RR
theorem P0 (s a b):exec X (cdp [] bd) (.seq none .d (.seq (some nm1) (.seq none .d (.seq none .d (.cond (.seq none (.region [(16,1000000001),(19,1000000000)]) .d) .d))) (.seq none .d (.seq (some nm2) (.seq none .d (.cond (.region [(19,1000000002),(22,1000000000)]) .d)) .d)))) (fr0 s a b) RR (fun _ _=>none) RR=sh0 s a b (fun y0 y1 y2=>(hid ct1) (fr1 y0 y1 y2)):=by kernel_rfl
theorem P1 (s1 iA gA):ct1 (fr1 s1 iA gA)=sh1 s1 iA gA (fun y0 y1 y2=>(hid ct2) (fr2 y0 y1 y2)):=by kernel_rfl
theorem P2 (kA iA gA):ct2 (fr2 kA iA gA)=sh2 kA iA gA:=by kernel_rfl
noncomputable def f2 (kA:Bool) (iA:List Spot) (gA:List Face):R:=sh2 kA iA gA
noncomputable def f1 (s1:List UInt8) (iA:List Spot) (gA:List Face):R:=sh1 s1 iA gA f2
noncomputable def f0 (s:List UInt8) (a:List Spot) (b:List Face):R:=sh0 s a b f1
theorem T2 (kA iA gA):(hid ct2) (fr2 kA iA gA)=f2 kA iA gA:=by
  refine (congrFun (hid_eq _) _).trans <| (P2 kA iA gA).trans ?_
  show _=sh2 kA iA gA
  rfl
theorem T1 (s1 iA gA):(hid ct1) (fr1 s1 iA gA)=f1 s1 iA gA:=by
  refine (congrFun (hid_eq _) _).trans <| (P1 s1 iA gA).trans ?_
  show _=sh1 s1 iA gA f2
  simp only [T2]
theorem T0 (s a b):exec X bd (.seq none .d (.seq (some nm1) (.seq none .d (.seq none .d (.cond (.seq none (.region [(16,1000000001),(19,1000000000)]) .d) .d))) (.seq none .d (.seq (some nm2) (.seq none .d (.cond (.region [(19,1000000002),(22,1000000000)]) .d)) .d)))) (fr0 s a b) RR (fun _ _=>none) RR=f0 s a b:=by
  refine (P0 s a b).trans ?_
  show _=sh0 s a b f1
  simp only [T1]
theorem run (s a b):runM X bd (.seq none .d (.seq (some nm1) (.seq none .d (.seq none .d (.cond (.seq none (.region [(16,1000000001),(19,1000000000)]) .d) .d))) (.seq none .d (.seq (some nm2) (.seq none .d (.cond (.region [(19,1000000002),(22,1000000000)]) .d)) .d)))) nmR [4] [(1000000000,(.box 1000000000 [(.ful 1000000001),(.ful 1000000002)])),(1000000001,(.rows .spot a)),(1000000002,(.rows .face b))] [(.ptr 1000000000 0),(.str s)]=f0 s a b:=T0 s a b
theorem tail (s:List UInt8) (a:List Spot) (b:List Face) (hs:s.length≤90000) (hb:b.length≤90000):f1 s a b=outA (numB wFace s 4) a (bif numB wFace s 4 then b++[fcL (rdL wFace s)] else b):=by
  show sh1 s a b f2=_
  unfold sh1
  rw [nleT hs,show wordB ([102,97,99,101]:List UInt8) (4:Int)=true from word4,Bool.and_self,chkT]
  cases hn:numB wFace s 4 with
  | false=>rfl
  | true =>
    obtain ⟨e1,e2⟩:=num_rd hn
    have hl:(rdL wFace s).length=4:=by simp at e2; omega
    rw [show numL ([102,97,99,101]:List UInt8) s (4:Int)=rdL wFace s from e1]
    rw [inb0 (by omega),show inb (1:Int) (rdL wFace s).length=true from inbT (i:=1) (by omega),show inb (2:Int) (rdL wFace s).length=true from inbT (i:=2) (by omega),show inb (3:Int) (rdL wFace s).length=true from inbT (i:=3) (by omega),nleT (by simp only [List.length_cons,List.length_nil]; omega),nleT (by simp only [List.length_cons,List.length_nil]; omega)]
    rfl
theorem f0_eq (s:List UInt8) (a:List Spot) (b:List Face) (h:(nle (List.length a) 90000&&(nle (List.length b) 90000&&nle (List.length s) 90000))=true):f0 s a b=some ((.bool (addB a b s)),[(1000000000,(.box 1000000000 [(.ful 1000000001),(.ful 1000000002)])),(1000000001,(.rows .spot (addS a b s))),(1000000002,(.rows .face (addF a b s)))]):=by
  simp only [Bool.and_eq_true] at h
  have ha:=nleI h.1; have hb:=nleI h.2.1; have hs:=nleI h.2.2
  show sh0 s a b f1=outA (addB a b s) (addS a b s) (addF a b s)
  unfold sh0 addB addS addF isSp
  rw [nleT hs,show wordB ([115,112,111,116]:List UInt8) (3:Int)=true from word3,Bool.and_self,chkT]
  cases hn:numB wSpot s 3 with
  | false=>exact tail s a b hs hb
  | true =>
    cases hb0:(Int.ofNat (List.length b)) == (0:Int) with
    | false=>exact tail s a b hs hb
    | true =>
      obtain ⟨e1,e2⟩:=num_rd hn
      have hl:(rdL wSpot s).length=3:=by simp at e2; omega
      rw [show numL ([115,112,111,116]:List UInt8) s (3:Int)=rdL wSpot s from e1]
      rw [inb0 (by omega),show inb (1:Int) (rdL wSpot s).length=true from inbT (i:=1) (by omega),show inb (2:Int) (rdL wSpot s).length=true from inbT (i:=2) (by omega),nleT (by simp only [List.length_cons,List.length_nil]; omega),nleT (by simp only [List.length_cons,List.length_nil]; omega)]
      rfl
theorem ok:CtxOk Tryz.prog X:=ctxOk tab (spC numbers.spOk spN) dpN
theorem okM:MOk Tryz.prog X:=fun g sp h=>by cases h
theorem spec (s:List UInt8) (a:List Spot) (b:List Face) (h:((nle (List.length a) 90000&&(nle (List.length b) 90000&&nle (List.length s) 90000)))=true):MCall Tryz.prog E 33 [(.ptr 1000000000 0),(.str s)] [(1000000000,(.box 1000000000 [(.ful 1000000001),(.ful 1000000002)])),(1000000001,(.rows .spot a)),(1000000002,(.rows .face b))] (.bool (addB a b s)) [(1000000000,(.box 1000000000 [(.ful 1000000001),(.ful 1000000002)])),(1000000001,(.rows .spot (addS a b s))),(1000000002,(.rows .face (addF a b s)))] :=
  runM_sound ok okM Tryz.func33 (by kernel_rfl) (by kernel_rfl) (by kernel_rfl) (by show 2≤71; decide) ((run s a b).trans (f0_eq s a b h))
noncomputable def sp:MSp U El:=fun args hs k=>match args,hs with
  | [.ptr q0 0,.str s],[(q1,.box q2 [.ful q3,.ful q4]),(q5,.rows .spot a),(q6,.rows .face b)]=>chk (Nat.beq q0 1000000000&&(Nat.beq q1 1000000000&&(Nat.beq q2 1000000000&&(Nat.beq q3 1000000001&&(Nat.beq q4 1000000002&&(Nat.beq q5 1000000001&&(Nat.beq q6 1000000002&&true))))))) (chk ((nle (List.length a) 90000&&(nle (List.length b) 90000&&nle (List.length s) 90000))) (k (.bool (addB a b s)) [(1000000000,(.box 1000000000 [(.ful 1000000001),(.ful 1000000002)])),(1000000001,(.rows .spot (addS a b s))),(1000000002,(.rows .face (addF a b s)))]))
  | _,_=>none
theorem spOk:MSpOk Tryz.prog E 33 sp:=⟨Tryz.call33,fun args hs k r h=>by
  unfold sp at h
  split at h
  · obtain ⟨hq, hA⟩ := chk_some h
    clear h
    simp only [Bool.and_eq_true] at hq
    obtain ⟨e0,e1,e2,e3,e4,e5,e6,_⟩:=hq
    cases Nat.eq_of_beq_eq_true e0
    cases Nat.eq_of_beq_eq_true e1
    cases Nat.eq_of_beq_eq_true e2
    cases Nat.eq_of_beq_eq_true e3
    cases Nat.eq_of_beq_eq_true e4
    cases Nat.eq_of_beq_eq_true e5
    cases Nat.eq_of_beq_eq_true e6
    obtain ⟨h1,hB⟩:=chk_some hA
    exact ⟨_,_,spec _ _ _ h1,hB⟩
  · cases h⟩
theorem spDet:∀ args hs,∃ oo:Option (AV U El×Heap U El),∀ k,sp args hs k=oo.bind fun p=>k p.1 p.2:=fun args hs=>by
  unfold sp
  split
  · exact det_chkM (det_chkM ⟨some (_,_),fun _=>rfl⟩)
  · exact ⟨none,fun _=>rfl⟩
end addM
noncomputable def finP (a:List Spot) (b:List Face):Mesh×Pos×Int:=bif validM (⟨a,b⟩:Mesh) then (⟨a,b⟩,⟨0,0⟩,0) else (⟨[],[]⟩,⟨0,0⟩,1)
noncomputable def badP (i:Int):Mesh×Pos×Int:=(⟨[],[]⟩,⟨i,1⟩,7)
noncomputable def parG:Nat→List UInt8→Int→List Spot→List Face→Mesh×Pos×Int
  | 0,_,i,_,_=>badP i
  | k + 1, s, i, a, b => bif s == ([] : List UInt8) then finP a b else
    bif (Lib.cut s ([10]:List UInt8)).2.2 then
      (bif addB a b (Lib.cut s ([10]:List UInt8)).1 then parG k (Lib.cut s ([10]:List UInt8)).2.1 (i+1) (addS a b (Lib.cut s ([10]:List UInt8)).1) (addF a b (Lib.cut s ([10]:List UInt8)).1) else badP i)
    else badP i
noncomputable def parT (s:List UInt8):Mesh×Pos×Int:=bif ilt (262144:Int) (Int.ofNat s.length) then (⟨[],[]⟩,⟨0,0⟩,4) else parG 100000 s 1 [] []
noncomputable def parM (s:List UInt8):Mesh:=(parT s).1
noncomputable def parP (s:List UInt8):Pos:=(parT s).2.1
noncomputable def parE (s:List UInt8):Int:=(parT s).2.2
noncomputable def outP (p:Mesh×Pos×Int):R:=some ((.tup [(.agg [(.lst .spot p.1.ms),(.lst .face p.1.mf)]),(.agg [(.int .i64 p.2.1.pl),(.int .i64 p.2.1.pc)]),(.int .i64 p.2.2)]),[])
theorem add_len (a:List Spot) (b:List Face) (s:List UInt8):(addS a b s).length≤a.length+1∧(addF a b s).length≤b.length+1:=by
  unfold addS addF
  cases isSp b s with
  | true=>simp
  | false=>cases numB wFace s 4<;>simp
theorem cut_line (s:List UInt8) (h:(Lib.cut s ([10]:List UInt8)).2.2=true):∃ x r,(10:UInt8) ∉ x∧s=x++10 :: r∧Lib.cut s ([10]:List UInt8)=(x,r,true):=by
  rcases parts 10 s with hp | ⟨x,r,hx,rfl⟩
  · rw [cut_none 10 [] s hp] at h
    cases h
  · refine ⟨x, r, hx, rfl, ?_⟩
    have hi:Lib.index (x++(10 :: r)) [10]=(x.length:Int):=index_mid 10 [] r x hx
    unfold Lib.cut
    rw [hi,if_pos (by omega),toNat_nat]
    refine Prod.ext ?_ (Prod.ext ?_ rfl)
    · simp
    · show List.drop (x.length + ([10] : List UInt8).length) (x ++ 10 :: r) = r
      rw [show x++10 :: r=(x++[10])++r by simp,List.drop_append_of_le_length (by simp)]
      simp
theorem fin_size (a:List Spot) (b:List Face) (ha:a.length≤90000) (hb:b.length≤90000):sizeOk (⟨a,b⟩:Mesh)=true:=by
  unfold sizeOk
  rw [nleT ha,nleT hb]
  rfl
theorem roomF2 (l:List Face) (x:Face) (h:l.length≤90000):(nle ((List.length l+List.length ([x]:List Face)) * 32) 140737488355328&&nle (List.length l+List.length ([x]:List Face)) 9223372036854775807)=true:=by
  rw [nleT (by simp; omega),nleT (by simp; omega)]
  rfl
theorem roomS2 (l:List Spot) (x:Spot) (h:l.length≤90000):(nle ((List.length l+List.length ([x]:List Spot)) * 24) 140737488355328&&nle (List.length l+List.length ([x]:List Spot)) 9223372036854775807)=true:=by
  rw [nleT (by simp; omega),nleT (by simp; omega)]
  rfl
namespace parse
noncomputable def bd:Code:=(Tryz.f10.body).getD .skip
noncomputable def X:Ctx U El:=⟨E,tds,zeros,eqs,specOf [(32,cutS.sp),(34,valid.sp)],100000,43,dspecOf [],mspecOf [(33,(mcSp addM.sp))]⟩
noncomputable def nmR:Norm U:=⟨[],[43,44,4],[],[],[],[(43,0,.spot),(43,1,.face)],[]⟩
noncomputable def RR:Kont U El:=fun st=>loadRes X 43 [(2,25),(3,29)] 43 st fun st=>normK nmR st (retFin [43,44,4] [])
noncomputable def nm1:Norm U:=⟨[],[2,3,5],[2,3,5,500000500,500000501],[],[(5,0,.spot,500000500),(5,1,.face,500000501)],[],[]⟩
noncomputable def nm2:Norm U:=⟨[],[0,2,3,5,6],[2,3,5,500000500,500000501],[],[(5,0,.spot,500000500),(5,1,.face,500000501)],[],[]⟩
noncomputable def nm3:Norm U:=⟨[],[0,2,3,5,6],[2,3,5,500000500,500000501],[],[(5,0,.spot,500000500),(5,1,.face,500000501)],[],[]⟩
noncomputable def nm4:Norm U:=⟨[],[2,3,5,6,8],[2,3,5,500000500,500000501],[],[(5,0,.spot,500000500),(5,1,.face,500000501)],[],[]⟩
abbrev Y1:=Int→Int→(List Spot)→(List Face)→R
abbrev Y2:=(List UInt8)→Int→Int→Int→(List Spot)→(List Face)→R
abbrev Y3:=(List UInt8)→Int→Int→Int→(List Spot)→(List Face)→R
abbrev Y4:=Int→(List UInt8)→Int→Int→(List Spot)→(List Face)→R
noncomputable def fr0 (s:List UInt8):St U El:=⟨[(0,(.str s))],[]⟩
noncomputable def fr1 (dA:Int) (eA:Int) (cA:List Spot) (bA:List Face):St U El:=⟨[(2,(.ptr 2 0)),(3,(.ptr 3 0)),(5,(.ptr 5 0))],[(2,(.box 0 [.nils,.nils])),(3,(.box 0 [(.int .i64 dA),(.int .i64 eA)])),(5,(.box 0 [(.ful 500000500),(.ful 500000501)])),(500000500,(.rows .spot cA)),(500000501,(.rows .face bA))]⟩
noncomputable def fr2 (s0:List UInt8) (i6:Int) (dA:Int) (eA:Int) (cA:List Spot) (bA:List Face):St U El:=⟨[(0,(.str s0)),(2,(.ptr 2 0)),(3,(.ptr 3 0)),(5,(.ptr 5 0)),(6,(.int .i64 i6))],[(2,(.box 0 [.nils,.nils])),(3,(.box 0 [(.int .i64 dA),(.int .i64 eA)])),(5,(.box 0 [(.ful 500000500),(.ful 500000501)])),(500000500,(.rows .spot cA)),(500000501,(.rows .face bA))]⟩
noncomputable def fr3 (s0:List UInt8) (i6:Int) (dA:Int) (eA:Int) (cA:List Spot) (bA:List Face):St U El:=⟨[(0,(.str s0)),(2,(.ptr 2 0)),(3,(.ptr 3 0)),(5,(.ptr 5 0)),(6,(.int .i64 i6))],[(2,(.box 0 [.nils,.nils])),(3,(.box 0 [(.int .i64 dA),(.int .i64 eA)])),(5,(.box 0 [(.ful 500000500),(.ful 500000501)])),(500000500,(.rows .spot cA)),(500000501,(.rows .face bA))]⟩
noncomputable def fr4 (i6:Int) (jA:List UInt8) (dA:Int) (eA:Int) (cA:List Spot) (bA:List Face):St U El:=⟨[(2,(.ptr 2 0)),(3,(.ptr 3 0)),(5,(.ptr 5 0)),(6,(.int .i64 i6)),(8,(.str jA))],[(2,(.box 0 [.nils,.nils])),(3,(.box 0 [(.int .i64 dA),(.int .i64 eA)])),(5,(.box 0 [(.ful 500000500),(.ful 500000501)])),(500000500,(.rows .spot cA)),(500000501,(.rows .face bA))]⟩
noncomputable def sh0 (s:List UInt8) (k2:Y2):R :=
  condB (ilt (262144:Int) (Int.ofNat (List.length s))) (some ((.tup [(.agg [(.lst .spot ([]:List Spot)),(.lst .face ([]:List Face))]),(.agg [(.int .i64 (0:Int)),(.int .i64 (0:Int))]),(.int .i64 (4:Int))]),[])) (k2 s (1:Int) (0:Int) (0:Int) ([]:List Spot) ([]:List Face))
noncomputable def sh1 (dA:Int) (eA:Int) (cA:List Spot) (bA:List Face):R :=
  chk (sizeOk (⟨cA,bA⟩:Mesh)) (condB (!(validM (⟨cA,bA⟩:Mesh))) (some ((.tup [(.agg [(.lst .spot ([]:List Spot)),(.lst .face ([]:List Face))]),(.agg [(.int .i64 (0:Int)),(.int .i64 (0:Int))]),(.int .i64 (1:Int))]),[])) (some ((.tup [(.agg [(.lst .spot cA),(.lst .face bA)]),(.agg [(.int .i64 (0:Int)),(.int .i64 (0:Int))]),(.int .i64 (0:Int))]),[])))
noncomputable def sh2 (s0:List UInt8) (i6:Int) (dA:Int) (eA:Int) (cA:List Spot) (bA:List Face) (k1:Y1) (k4:Y4):R :=
  condB (!(s0 == ([]:List UInt8))) (chk (nle (List.length s0) 300000) (condB (!((Lib.cut s0 ([10]:List UInt8)).2.2)) (some ((.tup [(.agg [(.lst .spot ([]:List Spot)),(.lst .face ([]:List Face))]),(.agg [(.int .i64 i6),(.int .i64 (1:Int))]),(.int .i64 (7:Int))]),[])) (chk ((nle (List.length cA) 90000&&(nle (List.length bA) 90000&&nle (List.length ((Lib.cut s0 ([10]:List UInt8)).1)) 90000))) (condB (!(addB cA bA ((Lib.cut s0 ([10]:List UInt8)).1))) (some ((.tup [(.agg [(.lst .spot ([]:List Spot)),(.lst .face ([]:List Face))]),(.agg [(.int .i64 i6),(.int .i64 (1:Int))]),(.int .i64 (7:Int))]),[])) (k4 i6 ((Lib.cut s0 ([10]:List UInt8)).2.1) dA eA (addS cA bA ((Lib.cut s0 ([10]:List UInt8)).1)) (addF cA bA ((Lib.cut s0 ([10]:List UInt8)).1))))))) (k1 dA eA cA bA)
noncomputable def sh3 (s0:List UInt8) (i6:Int) (dA:Int) (eA:Int) (cA:List Spot) (bA:List Face) (k2:Y2):R :=
  k2 s0 (IntKind.wrap .i64 (i6+(1:Int))) dA eA cA bA
noncomputable def sh4 (i6:Int) (jA:List UInt8) (dA:Int) (eA:Int) (cA:List Spot) (bA:List Face) (k3:Y3):R :=
  k3 jA i6 dA eA cA bA
noncomputable def it2 (Kb1:Kont U El) (n:Nat):Kont U El:=iter nm2 (fun st' K'=>exec X (cdp [1,1,1,0,1,0,0] bd) (.seq none .d (.seq (some nm3) (.block (.seq none .d (.seq (some nm4) .d .d))) .d)) st' K' (Eblk 0 (cutK nm1 Kb1) (fun _ _=>none)) RR) n
noncomputable def ct1:Kont U El:=fun st=>exec X (cdp [1,1,1,1] bd) .d st RR (fun _ _=>none) RR
noncomputable def ct3 (Kb1 Kb2:Kont U El):Kont U El:=fun st=>exec X (cdp [1,1,1,0,1,0,0,1,1] bd) .d st (cutK nm2 Kb2) (Eblk 0 (cutK nm1 Kb1) (fun _ _=>none)) RR
noncomputable def ct4 (Kb1 Kb3:Kont U El):Kont U El:=fun st=>exec X (cdp [1,1,1,0,1,0,0,1,0,0,1,1] bd) .d st (cutK nm3 Kb3) (Eblk 1 (cutK nm3 Kb3) (Eblk 0 (cutK nm1 Kb1) (fun _ _=>none))) RR
theorem P0 (s):exec X (cdp [] bd) (.seq none .d (.seq none .d (.seq none .d (.seq (some nm1) (.seq none .d (.block (.loop nm2 (.seq none .d (.seq (some nm3) (.block (.seq none .d (.seq (some nm4) .d .d))) .d))))) .d)))) (fr0 s) RR (fun _ _=>none) RR=sh0 s (fun y0 y1 y2 y3 y4 y5=>(hid (it2 (hid ct1) 100000)) (fr2 y0 y1 y2 y3 y4 y5)):=by kernel_rfl
theorem P1 (dA eA cA bA):ct1 (fr1 dA eA cA bA)=sh1 dA eA cA bA:=by kernel_rfl
theorem P2 (s0 i6 dA eA cA bA) (Kb1 Kb2:Kont U El):exec X (cdp [1,1,1,0,1,0,0] bd) (.seq none .d (.seq (some nm3) (.block (.seq none .d (.seq (some nm4) .d .d))) .d)) (fr2 s0 i6 dA eA cA bA) (cutK nm2 Kb2) (Eblk 0 (cutK nm1 Kb1) (fun _ _=>none)) RR=sh2 s0 i6 dA eA cA bA (fun y0 y1 y2 y3=>Kb1 (fr1 y0 y1 y2 y3)) (fun y0 y1 y2 y3 y4 y5=>(hid (ct4 Kb1 (hid (ct3 Kb1 Kb2)))) (fr4 y0 y1 y2 y3 y4 y5)):=by kernel_rfl
theorem P3 (s0 i6 dA eA cA bA) (Kb1 Kb2:Kont U El):ct3 Kb1 Kb2 (fr3 s0 i6 dA eA cA bA)=sh3 s0 i6 dA eA cA bA (fun y0 y1 y2 y3 y4 y5=>Kb2 (fr2 y0 y1 y2 y3 y4 y5)):=by kernel_rfl
theorem P4 (i6 jA dA eA cA bA) (Kb1 Kb3:Kont U El):ct4 Kb1 Kb3 (fr4 i6 jA dA eA cA bA)=sh4 i6 jA dA eA cA bA (fun y0 y1 y2 y3 y4 y5=>Kb3 (fr3 y0 y1 y2 y3 y4 y5)):=by kernel_rfl
noncomputable def f1 (dA:Int) (eA:Int) (cA:List Spot) (bA:List Face):R:=sh1 dA eA cA bA
noncomputable def f3 (k2:Y2) (s0:List UInt8) (i6:Int) (dA:Int) (eA:Int) (cA:List Spot) (bA:List Face):R:=sh3 s0 i6 dA eA cA bA k2
noncomputable def f4 (k2:Y2) (i6:Int) (jA:List UInt8) (dA:Int) (eA:Int) (cA:List Spot) (bA:List Face):R:=sh4 i6 jA dA eA cA bA (f3 k2)
noncomputable def f2:Nat→Y2
  | 0=>fun _ _ _ _ _ _=>none
  | n+1=>fun s0 i6 dA eA cA bA=>sh2 s0 i6 dA eA cA bA f1 (f4 (f2 n))
noncomputable def f0 (s:List UInt8):R:=sh0 s (f2 100000)
theorem T1 (dA eA cA bA):(hid ct1) (fr1 dA eA cA bA)=f1 dA eA cA bA:=by
  refine (congrFun (hid_eq _) _).trans <| (P1 dA eA cA bA).trans ?_
  show _=sh1 dA eA cA bA
  rfl
theorem T3 (KL2:Kont U El) (k2:Y2) (h2:∀ s0 i6 dA eA cA bA,KL2 (fr2 s0 i6 dA eA cA bA)=k2 s0 i6 dA eA cA bA) (s0 i6 dA eA cA bA):(hid (ct3 (hid ct1) KL2)) (fr3 s0 i6 dA eA cA bA)=f3 k2 s0 i6 dA eA cA bA:=by
  refine (congrFun (hid_eq _) _).trans <| (P3 s0 i6 dA eA cA bA (hid ct1) KL2).trans ?_
  show _=sh3 s0 i6 dA eA cA bA k2
  simp only [h2]
theorem T4 (KL2:Kont U El) (k2:Y2) (h2:∀ s0 i6 dA eA cA bA,KL2 (fr2 s0 i6 dA eA cA bA)=k2 s0 i6 dA eA cA bA) (i6 jA dA eA cA bA):(hid (ct4 (hid ct1) (hid (ct3 (hid ct1) KL2)))) (fr4 i6 jA dA eA cA bA)=f4 k2 i6 jA dA eA cA bA:=by
  refine (congrFun (hid_eq _) _).trans <| (P4 i6 jA dA eA cA bA (hid ct1) (hid (ct3 (hid ct1) KL2))).trans ?_
  show _=sh4 i6 jA dA eA cA bA (f3 k2)
  simp only [T3 KL2 k2 h2]
theorem T2:∀ (n:Nat),∀ s0 i6 dA eA cA bA,it2 (hid ct1) n (fr2 s0 i6 dA eA cA bA)=f2 n s0 i6 dA eA cA bA:=by
  intro n
  induction n with
  | zero=>intros; rfl
  | succ n ih =>
    intro s0 i6 dA eA cA bA
    refine (P2 s0 i6 dA eA cA bA (hid ct1) (it2 (hid ct1) n)).trans ?_
    show _=sh2 s0 i6 dA eA cA bA f1 (f4 (f2 n))
    simp only [T1,T4 (it2 (hid ct1) n) (f2 n) ih]
theorem H2 (s0 i6 dA eA cA bA):hid (it2 (hid ct1) 100000) (fr2 s0 i6 dA eA cA bA)=f2 100000 s0 i6 dA eA cA bA:=(congrFun (hid_eq _) _).trans (T2 100000 s0 i6 dA eA cA bA)
theorem T0 (s):exec X bd (.seq none .d (.seq none .d (.seq none .d (.seq (some nm1) (.seq none .d (.block (.loop nm2 (.seq none .d (.seq (some nm3) (.block (.seq none .d (.seq (some nm4) .d .d))) .d))))) .d)))) (fr0 s) RR (fun _ _=>none) RR=f0 s:=by
  refine (P0 s).trans ?_
  show _=sh0 s (f2 100000)
  simp only [H2]
theorem run (s):runFnC X bd (.seq none .d (.seq none .d (.seq none .d (.seq (some nm1) (.seq none .d (.block (.loop nm2 (.seq none .d (.seq (some nm3) (.block (.seq none .d (.seq (some nm4) .d .d))) .d))))) .d)))) nmR [(2,25),(3,29)] [43,44,4] [] [(.str s)]=f0 s:=T0 s
theorem fin (a:List Spot) (b:List Face) (x y:Int) (ha:a.length≤90000) (hb:b.length≤90000):f1 x y a b=outP (finP a b):=by
  show sh1 x y a b=_
  unfold sh1 finP
  rw [fin_size a b ha hb,chkT]
  cases validM (⟨a,b⟩:Mesh)<;>rfl
theorem loop : ∀ (k : Nat) (s : List UInt8) (i : Nat) (a : List Spot) (b : List Face), s.length < k → i + s.length ≤ 90001 → a.length + s.length ≤ 90000 → b.length + s.length ≤ 90000 → f2 k s (i : Int) 0 0 a b = outP (parG k s (i : Int) a b) := by
  intro k
  induction k with
  | zero=>intro s i a b h; omega
  | succ k ih =>
    intro s i a b h1 h2 h3 h4
    show sh2 s (i:Int) 0 0 a b f1 (f4 (f2 k))=_
    unfold sh2
    simp only [parG]
    cases hs:s == ([]:List UInt8) with
    | true=>exact fin a b 0 0 (by omega) (by omega)
    | false =>
      rw [show (!false)=true from rfl,condT,nleT (show s.length≤300000 by omega),chkT,cond_false]
      cases hc:(Lib.cut s ([10]:List UInt8)).2.2 with
      | false=>rfl
      | true =>
        obtain ⟨x,r,_,e1,e2⟩:=cut_line s hc
        have hl:s.length=x.length+1+r.length:=by rw [e1]; simp; omega
        rw [e2,show (!true)=false from rfl,condF,cond_true,nleT (show a.length≤90000 by omega),nleT (show b.length≤90000 by omega),nleT (show x.length≤90000 by omega),Bool.and_self,Bool.and_self,chkT]
        obtain ⟨g1,g2⟩:=add_len a b x
        cases addB a b x with
        | false=>rfl
        | true =>
          show f2 k r (IntKind.wrap .i64 ((i:Int)+1)) 0 0 (addS a b x) (addF a b x)=_
          rw [wrapS i (by omega),ih r (i+1) _ _ (by omega) (by omega) (by omega) (by omega)]
          rfl
theorem f0_eq (s:List UInt8) (h:(nle (List.length s) 300000&&(nle (List.length s) 90000||nlt 262144 (List.length s)))=true):f0 s=some ((.tup [(.agg [(.lst .spot ((parM s).ms)),(.lst .face ((parM s).mf))]),(.agg [(.int .i64 ((parP s).pl)),(.int .i64 ((parP s).pc))]),(.int .i64 (parE s))]),[]):=by
  show sh0 s (f2 100000)=outP (parT s)
  unfold sh0 parT
  by_cases hb:262144 < s.length
  · rw [iltT (by simp; omega)]; rfl
  · simp only [Bool.and_eq_true, Bool.or_eq_true] at h
    have hl:s.length≤90000:=by
      rcases h.2 with k | k
      · exact nleI k
      · exact absurd (of_decide_eq_true k) hb
    rw [iltF (by simp; omega),condF,cond_false]
    exact loop 100000 s 1 [] [] (by omega) (by omega) (by simp; omega) (by simp; omega)
theorem ok:CtxOk Tryz.prog X:=ctxOk tab (spC cutS.spOk (spC valid.spOk spN)) dpN
theorem okM:MOk Tryz.prog X:=mspecOf_ok _ (mpC (mcSp_ok ok addM.spOk) mpN)
theorem spec (s:List UInt8) (h:((nle (List.length s) 300000&&(nle (List.length s) 90000||nlt 262144 (List.length s))))=true):CallSpec Tryz.prog E 10 [(.str s)] (.tup [(.agg [(.lst .spot ((parM s).ms)),(.lst .face ((parM s).mf))]),(.agg [(.int .i64 ((parP s).pl)),(.int .i64 ((parP s).pc))]),(.int .i64 (parE s))]) [] :=
  runFnC_sound ok okM Tryz.call10 Tryz.func10 (by kernel_rfl) (by kernel_rfl) (by kernel_rfl) (by show 1≤43; decide) (by decide) (by rfl) ((run s).trans (f0_eq s h))
noncomputable def sp:Sp U El:=fun args k=>match args with
  | [.str s]=>chk ((nle (List.length s) 300000&&(nle (List.length s) 90000||nlt 262144 (List.length s)))) (k (.tup [(.agg [(.lst .spot ((parM s).ms)),(.lst .face ((parM s).mf))]),(.agg [(.int .i64 ((parP s).pl)),(.int .i64 ((parP s).pc))]),(.int .i64 (parE s))]) [])
  | _=>none
theorem spOk:SpOk Tryz.prog E 10 sp where
  det:=fun vs=>by
    unfold sp
    split
    · exact det_c _ _ _
    · exact ⟨none,fun _=>rfl⟩
  ok:=fun vs k r h=>by
    unfold sp at h
    split at h
    · obtain ⟨h1, h2⟩ := chk_some h
      exact ⟨_,_,spec _ h1,h2⟩
    · cases h
end parse
namespace rparse
noncomputable def bd:Code:=(Tryz.f11.body).getD .skip
noncomputable def X:Ctx U El:=⟨E,tds,zeros,eqs,specOf [(14,rvalid.sp),(35,rread.sp)],100000,106,dspecOf [],fun _=>none⟩
noncomputable def nmR:Norm U:=⟨[],[106,107,4],[],[],[],[(106,0,.spot),(106,1,.face)],[]⟩
noncomputable def RR:Kont U El:=fun st=>loadRes X 106 [(2,25),(3,29)] 106 st fun st=>normK nmR st (retFin [106,107,4] [])
noncomputable def nm1:Norm U:=⟨[],[0,2,3,5,6,7],[2,3,5,500000500,500000501],[],[(5,0,.spot,500000500),(5,1,.face,500000501)],[],[]⟩
noncomputable def nm2:Norm U:=⟨[],[0,2,3,5,6,7,8],[2,3,5,500000500,500000501],[],[(5,0,.spot,500000500),(5,1,.face,500000501)],[],[]⟩
noncomputable def nm3:Norm U:=⟨[],[0,2,3,5,6,7,8],[2,3,5,500000500,500000501],[],[(5,0,.spot,500000500),(5,1,.face,500000501)],[],[]⟩
noncomputable def nm4:Norm U:=⟨[],[0,2,3,5,6,8],[2,3,5,500000500,500000501],[],[(5,0,.spot,500000500),(5,1,.face,500000501)],[],[]⟩
abbrev Y1:=(List UInt8)→Int→Int→Int→Int→(List Spot)→(List Face)→R
abbrev Y2:=(List UInt8)→Int→Int→Int→Int→Int→(List Spot)→(List Face)→R
abbrev Y3:=(List UInt8)→Int→Int→Int→Int→Int→(List Spot)→(List Face)→R
abbrev Y4:=(List UInt8)→Int→Int→Int→Int→(List Spot)→(List Face)→R
noncomputable def fr0 (s:List UInt8):St U El:=⟨[(0,(.str s))],[]⟩
noncomputable def fr1 (s0:List UInt8) (fA:Int) (aA:Int) (dA:Int) (eA:Int) (cA:List Spot) (bA:List Face):St U El:=⟨[(0,(.str s0)),(2,(.ptr 2 0)),(3,(.ptr 3 0)),(5,(.ptr 5 0)),(6,(.int .i64 fA)),(7,(.int .i64 aA))],[(2,(.box 0 [.nils,.nils])),(3,(.box 0 [(.int .i64 dA),(.int .i64 eA)])),(5,(.box 0 [(.ful 500000500),(.ful 500000501)])),(500000500,(.rows .spot cA)),(500000501,(.rows .face bA))]⟩
noncomputable def fr2 (s0:List UInt8) (fA:Int) (aA:Int) (i8:Int) (dA:Int) (eA:Int) (cA:List Spot) (bA:List Face):St U El:=⟨[(0,(.str s0)),(2,(.ptr 2 0)),(3,(.ptr 3 0)),(5,(.ptr 5 0)),(6,(.int .i64 fA)),(7,(.int .i64 aA)),(8,(.int .i64 i8))],[(2,(.box 0 [.nils,.nils])),(3,(.box 0 [(.int .i64 dA),(.int .i64 eA)])),(5,(.box 0 [(.ful 500000500),(.ful 500000501)])),(500000500,(.rows .spot cA)),(500000501,(.rows .face bA))]⟩
noncomputable def fr3 (s0:List UInt8) (fA:Int) (aA:Int) (i8:Int) (dA:Int) (eA:Int) (cA:List Spot) (bA:List Face):St U El:=⟨[(0,(.str s0)),(2,(.ptr 2 0)),(3,(.ptr 3 0)),(5,(.ptr 5 0)),(6,(.int .i64 fA)),(7,(.int .i64 aA)),(8,(.int .i64 i8))],[(2,(.box 0 [.nils,.nils])),(3,(.box 0 [(.int .i64 dA),(.int .i64 eA)])),(5,(.box 0 [(.ful 500000500),(.ful 500000501)])),(500000500,(.rows .spot cA)),(500000501,(.rows .face bA))]⟩
noncomputable def fr4 (s0:List UInt8) (fA:Int) (i8:Int) (dA:Int) (eA:Int) (cA:List Spot) (bA:List Face):St U El:=⟨[(0,(.str s0)),(2,(.ptr 2 0)),(3,(.ptr 3 0)),(5,(.ptr 5 0)),(6,(.int .i64 fA)),(8,(.int .i64 i8))],[(2,(.box 0 [.nils,.nils])),(3,(.box 0 [(.int .i64 dA),(.int .i64 eA)])),(5,(.box 0 [(.ful 500000500),(.ful 500000501)])),(500000500,(.rows .spot cA)),(500000501,(.rows .face bA))]⟩
noncomputable def sh0 (s:List UInt8) (k2:Y2):R :=
  condB (ilt (262144:Int) (Int.ofNat (List.length s))) (some ((.tup [(.agg [(.lst .spot ([]:List Spot)),(.lst .face ([]:List Face))]),(.agg [(.int .i64 (0:Int)),(.int .i64 (0:Int))]),(.int .i64 (4:Int))]),[])) (k2 s (1:Int) (0:Int) (0:Int) (0:Int) (0:Int) ([]:List Spot) ([]:List Face))
noncomputable def sh1 (s0:List UInt8) (fA:Int) (aA:Int) (dA:Int) (eA:Int) (cA:List Spot) (bA:List Face):R :=
  condB (ilt aA (Int.ofNat (List.length s0))) (some ((.tup [(.agg [(.lst .spot ([]:List Spot)),(.lst .face ([]:List Face))]),(.agg [(.int .i64 fA),(.int .i64 (1:Int))]),(.int .i64 (7:Int))]),[])) (chk (sizeOk (⟨cA,bA⟩:Mesh)) (condB (!(validM (⟨cA,bA⟩:Mesh))) (some ((.tup [(.agg [(.lst .spot ([]:List Spot)),(.lst .face ([]:List Face))]),(.agg [(.int .i64 (0:Int)),(.int .i64 (0:Int))]),(.int .i64 (1:Int))]),[])) (some ((.tup [(.agg [(.lst .spot cA),(.lst .face bA)]),(.agg [(.int .i64 (0:Int)),(.int .i64 (0:Int))]),(.int .i64 (0:Int))]),[]))))
noncomputable def sh2 (s0:List UInt8) (fA:Int) (aA:Int) (i8:Int) (dA:Int) (eA:Int) (cA:List Spot) (bA:List Face) (k1:Y1) (k3:Y3) (k4:Y4):R :=
  condB (ilt i8 (Int.ofNat (List.length s0))) (chk (inb i8 (List.length s0)) (condB ((Int.ofNat (UInt8.toNat (List.getD s0 (Int.toNat i8) 0))) != (10:Int)) (k3 s0 fA aA i8 dA eA cA bA) (chk (ile 0 aA&&ile aA i8&&ile i8 (Int.ofNat (List.length s0))) (chk ((nle (List.length (sub s0 aA i8)) 90000&&wordB ([115,112,111,116]:List UInt8) (3:Int))) (chk (ile 0 aA&&ile aA i8&&ile i8 (Int.ofNat (List.length s0))) (chk ((nle (List.length (sub s0 aA i8)) 90000&&wordB ([102,97,99,101]:List UInt8) (4:Int))) (condB (numB ([115,112,111,116]:List UInt8) (sub s0 aA i8) (3:Int)) (condB ((Int.ofNat (List.length bA)) == (0:Int)) (chk (inb (0:Int) (List.length (rdL ([115,112,111,116]:List UInt8) (sub s0 aA i8)))) (chk (inb (1:Int) (List.length (rdL ([115,112,111,116]:List UInt8) (sub s0 aA i8)))) (chk (inb (2:Int) (List.length (rdL ([115,112,111,116]:List UInt8) (sub s0 aA i8)))) (chk (nle ((List.length cA+List.length ([(⟨(List.getD (rdL ([115,112,111,116]:List UInt8) (sub s0 aA i8)) 0 d_int),(List.getD (rdL ([115,112,111,116]:List UInt8) (sub s0 aA i8)) 1 d_int),(List.getD (rdL ([115,112,111,116]:List UInt8) (sub s0 aA i8)) 2 d_int)⟩:Spot)]:List Spot)) * 24) 140737488355328&&nle (List.length cA+List.length ([(⟨(List.getD (rdL ([115,112,111,116]:List UInt8) (sub s0 aA i8)) 0 d_int),(List.getD (rdL ([115,112,111,116]:List UInt8) (sub s0 aA i8)) 1 d_int),(List.getD (rdL ([115,112,111,116]:List UInt8) (sub s0 aA i8)) 2 d_int)⟩:Spot)]:List Spot)) 9223372036854775807) (k4 s0 fA i8 dA eA (cA++([(⟨(List.getD (rdL ([115,112,111,116]:List UInt8) (sub s0 aA i8)) 0 d_int),(List.getD (rdL ([115,112,111,116]:List UInt8) (sub s0 aA i8)) 1 d_int),(List.getD (rdL ([115,112,111,116]:List UInt8) (sub s0 aA i8)) 2 d_int)⟩:Spot)]:List Spot)) bA))))) (condB (numB ([102,97,99,101]:List UInt8) (sub s0 aA i8) (4:Int)) (chk (inb (0:Int) (List.length (rdL ([102,97,99,101]:List UInt8) (sub s0 aA i8)))) (chk (inb (1:Int) (List.length (rdL ([102,97,99,101]:List UInt8) (sub s0 aA i8)))) (chk (inb (2:Int) (List.length (rdL ([102,97,99,101]:List UInt8) (sub s0 aA i8)))) (chk (inb (3:Int) (List.length (rdL ([102,97,99,101]:List UInt8) (sub s0 aA i8)))) (chk (nle ((List.length bA+List.length ([(⟨(List.getD (rdL ([102,97,99,101]:List UInt8) (sub s0 aA i8)) 0 d_int),(List.getD (rdL ([102,97,99,101]:List UInt8) (sub s0 aA i8)) 1 d_int),(List.getD (rdL ([102,97,99,101]:List UInt8) (sub s0 aA i8)) 2 d_int),(List.getD (rdL ([102,97,99,101]:List UInt8) (sub s0 aA i8)) 3 d_int)⟩:Face)]:List Face)) * 32) 140737488355328&&nle (List.length bA+List.length ([(⟨(List.getD (rdL ([102,97,99,101]:List UInt8) (sub s0 aA i8)) 0 d_int),(List.getD (rdL ([102,97,99,101]:List UInt8) (sub s0 aA i8)) 1 d_int),(List.getD (rdL ([102,97,99,101]:List UInt8) (sub s0 aA i8)) 2 d_int),(List.getD (rdL ([102,97,99,101]:List UInt8) (sub s0 aA i8)) 3 d_int)⟩:Face)]:List Face)) 9223372036854775807) (k4 s0 fA i8 dA eA cA (bA++([(⟨(List.getD (rdL ([102,97,99,101]:List UInt8) (sub s0 aA i8)) 0 d_int),(List.getD (rdL ([102,97,99,101]:List UInt8) (sub s0 aA i8)) 1 d_int),(List.getD (rdL ([102,97,99,101]:List UInt8) (sub s0 aA i8)) 2 d_int),(List.getD (rdL ([102,97,99,101]:List UInt8) (sub s0 aA i8)) 3 d_int)⟩:Face)]:List Face)))))))) (some ((.tup [(.agg [(.lst .spot ([]:List Spot)),(.lst .face ([]:List Face))]),(.agg [(.int .i64 fA),(.int .i64 (1:Int))]),(.int .i64 (7:Int))]),[])))) (condB (numB ([102,97,99,101]:List UInt8) (sub s0 aA i8) (4:Int)) (chk (inb (0:Int) (List.length (rdL ([102,97,99,101]:List UInt8) (sub s0 aA i8)))) (chk (inb (1:Int) (List.length (rdL ([102,97,99,101]:List UInt8) (sub s0 aA i8)))) (chk (inb (2:Int) (List.length (rdL ([102,97,99,101]:List UInt8) (sub s0 aA i8)))) (chk (inb (3:Int) (List.length (rdL ([102,97,99,101]:List UInt8) (sub s0 aA i8)))) (chk (nle ((List.length bA+List.length ([(⟨(List.getD (rdL ([102,97,99,101]:List UInt8) (sub s0 aA i8)) 0 d_int),(List.getD (rdL ([102,97,99,101]:List UInt8) (sub s0 aA i8)) 1 d_int),(List.getD (rdL ([102,97,99,101]:List UInt8) (sub s0 aA i8)) 2 d_int),(List.getD (rdL ([102,97,99,101]:List UInt8) (sub s0 aA i8)) 3 d_int)⟩:Face)]:List Face)) * 32) 140737488355328&&nle (List.length bA+List.length ([(⟨(List.getD (rdL ([102,97,99,101]:List UInt8) (sub s0 aA i8)) 0 d_int),(List.getD (rdL ([102,97,99,101]:List UInt8) (sub s0 aA i8)) 1 d_int),(List.getD (rdL ([102,97,99,101]:List UInt8) (sub s0 aA i8)) 2 d_int),(List.getD (rdL ([102,97,99,101]:List UInt8) (sub s0 aA i8)) 3 d_int)⟩:Face)]:List Face)) 9223372036854775807) (k4 s0 fA i8 dA eA cA (bA++([(⟨(List.getD (rdL ([102,97,99,101]:List UInt8) (sub s0 aA i8)) 0 d_int),(List.getD (rdL ([102,97,99,101]:List UInt8) (sub s0 aA i8)) 1 d_int),(List.getD (rdL ([102,97,99,101]:List UInt8) (sub s0 aA i8)) 2 d_int),(List.getD (rdL ([102,97,99,101]:List UInt8) (sub s0 aA i8)) 3 d_int)⟩:Face)]:List Face)))))))) (some ((.tup [(.agg [(.lst .spot ([]:List Spot)),(.lst .face ([]:List Face))]),(.agg [(.int .i64 fA),(.int .i64 (1:Int))]),(.int .i64 (7:Int))]),[])))))))))) (k1 s0 fA aA dA eA cA bA)
noncomputable def sh3 (s0:List UInt8) (fA:Int) (aA:Int) (i8:Int) (dA:Int) (eA:Int) (cA:List Spot) (bA:List Face) (k2:Y2):R :=
  k2 s0 fA aA (IntKind.wrap .i64 (i8+(1:Int))) dA eA cA bA
noncomputable def sh4 (s0:List UInt8) (fA:Int) (i8:Int) (dA:Int) (eA:Int) (cA:List Spot) (bA:List Face) (k3:Y3):R :=
  k3 s0 (IntKind.wrap .i64 (fA+(1:Int))) (IntKind.wrap .i64 (i8+(1:Int))) i8 dA eA cA bA
noncomputable def it2 (Kb1:Kont U El) (n:Nat):Kont U El:=iter nm2 (fun st' K'=>exec X (cdp [1,1,1,1,0,1,0,0] bd) (.seq none .d (.seq (some nm3) (.block (.seq none .d (.seq none .d (.seq none .d (.seq (some nm4) (.seq none .d (.cond (.region [(13,500000500),(15,5)]) (.seq none .d (.cond (.region [(16,500000501),(18,5)]) .d)))) .d))))) .d)) st' K' (Eblk 0 (cutK nm1 Kb1) (fun _ _=>none)) RR) n
noncomputable def ct1:Kont U El:=fun st=>exec X (cdp [1,1,1,1,1] bd) .d st RR (fun _ _=>none) RR
noncomputable def ct3 (Kb1 Kb2:Kont U El):Kont U El:=fun st=>exec X (cdp [1,1,1,1,0,1,0,0,1,1] bd) .d st (cutK nm2 Kb2) (Eblk 0 (cutK nm1 Kb1) (fun _ _=>none)) RR
noncomputable def ct4 (Kb1 Kb3:Kont U El):Kont U El:=fun st=>exec X (cdp [1,1,1,1,0,1,0,0,1,0,0,1,1,1,1] bd) .d st (cutK nm3 Kb3) (Eblk 1 (cutK nm3 Kb3) (Eblk 0 (cutK nm1 Kb1) (fun _ _=>none))) RR
theorem P0 (s):exec X (cdp [] bd) (.seq none .d (.seq none .d (.seq none .d (.seq none .d (.seq (some nm1) (.seq none .d (.block (.loop nm2 (.seq none .d (.seq (some nm3) (.block (.seq none .d (.seq none .d (.seq none .d (.seq (some nm4) (.seq none .d (.cond (.region [(13,500000500),(15,5)]) (.seq none .d (.cond (.region [(16,500000501),(18,5)]) .d)))) .d))))) .d))))) .d))))) (fr0 s) RR (fun _ _=>none) RR=sh0 s (fun y0 y1 y2 y3 y4 y5 y6 y7=>(hid (it2 (hid ct1) 100000)) (fr2 y0 y1 y2 y3 y4 y5 y6 y7)):=by kernel_rfl
theorem P1 (s0 fA aA dA eA cA bA):ct1 (fr1 s0 fA aA dA eA cA bA)=sh1 s0 fA aA dA eA cA bA:=by kernel_rfl
theorem P2 (s0 fA aA i8 dA eA cA bA) (Kb1 Kb2:Kont U El):exec X (cdp [1,1,1,1,0,1,0,0] bd) (.seq none .d (.seq (some nm3) (.block (.seq none .d (.seq none .d (.seq none .d (.seq (some nm4) (.seq none .d (.cond (.region [(13,500000500),(15,5)]) (.seq none .d (.cond (.region [(16,500000501),(18,5)]) .d)))) .d))))) .d)) (fr2 s0 fA aA i8 dA eA cA bA) (cutK nm2 Kb2) (Eblk 0 (cutK nm1 Kb1) (fun _ _=>none)) RR=sh2 s0 fA aA i8 dA eA cA bA (fun y0 y1 y2 y3 y4 y5 y6=>Kb1 (fr1 y0 y1 y2 y3 y4 y5 y6)) (fun y0 y1 y2 y3 y4 y5 y6 y7=>(hid (ct3 Kb1 Kb2)) (fr3 y0 y1 y2 y3 y4 y5 y6 y7)) (fun y0 y1 y2 y3 y4 y5 y6=>(hid (ct4 Kb1 (hid (ct3 Kb1 Kb2)))) (fr4 y0 y1 y2 y3 y4 y5 y6)):=by kernel_rfl
theorem P3 (s0 fA aA i8 dA eA cA bA) (Kb1 Kb2:Kont U El):ct3 Kb1 Kb2 (fr3 s0 fA aA i8 dA eA cA bA)=sh3 s0 fA aA i8 dA eA cA bA (fun y0 y1 y2 y3 y4 y5 y6 y7=>Kb2 (fr2 y0 y1 y2 y3 y4 y5 y6 y7)):=by kernel_rfl
theorem P4 (s0 fA i8 dA eA cA bA) (Kb1 Kb3:Kont U El):ct4 Kb1 Kb3 (fr4 s0 fA i8 dA eA cA bA)=sh4 s0 fA i8 dA eA cA bA (fun y0 y1 y2 y3 y4 y5 y6 y7=>Kb3 (fr3 y0 y1 y2 y3 y4 y5 y6 y7)):=by kernel_rfl
noncomputable def f1 (s0:List UInt8) (fA:Int) (aA:Int) (dA:Int) (eA:Int) (cA:List Spot) (bA:List Face):R:=sh1 s0 fA aA dA eA cA bA
noncomputable def f3 (k2:Y2) (s0:List UInt8) (fA:Int) (aA:Int) (i8:Int) (dA:Int) (eA:Int) (cA:List Spot) (bA:List Face):R:=sh3 s0 fA aA i8 dA eA cA bA k2
noncomputable def f4 (k2:Y2) (s0:List UInt8) (fA:Int) (i8:Int) (dA:Int) (eA:Int) (cA:List Spot) (bA:List Face):R:=sh4 s0 fA i8 dA eA cA bA (f3 k2)
noncomputable def f2:Nat→Y2
  | 0=>fun _ _ _ _ _ _ _ _=>none
  | n+1=>fun s0 fA aA i8 dA eA cA bA=>sh2 s0 fA aA i8 dA eA cA bA f1 (f3 (f2 n)) (f4 (f2 n))
noncomputable def f0 (s:List UInt8):R:=sh0 s (f2 100000)
theorem T1 (s0 fA aA dA eA cA bA):(hid ct1) (fr1 s0 fA aA dA eA cA bA)=f1 s0 fA aA dA eA cA bA:=by
  refine (congrFun (hid_eq _) _).trans <| (P1 s0 fA aA dA eA cA bA).trans ?_
  show _=sh1 s0 fA aA dA eA cA bA
  rfl
theorem T3 (KL2:Kont U El) (k2:Y2) (h2:∀ s0 fA aA i8 dA eA cA bA,KL2 (fr2 s0 fA aA i8 dA eA cA bA)=k2 s0 fA aA i8 dA eA cA bA) (s0 fA aA i8 dA eA cA bA):(hid (ct3 (hid ct1) KL2)) (fr3 s0 fA aA i8 dA eA cA bA)=f3 k2 s0 fA aA i8 dA eA cA bA:=by
  refine (congrFun (hid_eq _) _).trans <| (P3 s0 fA aA i8 dA eA cA bA (hid ct1) KL2).trans ?_
  show _=sh3 s0 fA aA i8 dA eA cA bA k2
  simp only [h2]
theorem T4 (KL2:Kont U El) (k2:Y2) (h2:∀ s0 fA aA i8 dA eA cA bA,KL2 (fr2 s0 fA aA i8 dA eA cA bA)=k2 s0 fA aA i8 dA eA cA bA) (s0 fA i8 dA eA cA bA):(hid (ct4 (hid ct1) (hid (ct3 (hid ct1) KL2)))) (fr4 s0 fA i8 dA eA cA bA)=f4 k2 s0 fA i8 dA eA cA bA:=by
  refine (congrFun (hid_eq _) _).trans <| (P4 s0 fA i8 dA eA cA bA (hid ct1) (hid (ct3 (hid ct1) KL2))).trans ?_
  show _=sh4 s0 fA i8 dA eA cA bA (f3 k2)
  simp only [T3 KL2 k2 h2]
theorem T2:∀ (n:Nat),∀ s0 fA aA i8 dA eA cA bA,it2 (hid ct1) n (fr2 s0 fA aA i8 dA eA cA bA)=f2 n s0 fA aA i8 dA eA cA bA:=by
  intro n
  induction n with
  | zero=>intros; rfl
  | succ n ih =>
    intro s0 fA aA i8 dA eA cA bA
    refine (P2 s0 fA aA i8 dA eA cA bA (hid ct1) (it2 (hid ct1) n)).trans ?_
    show _=sh2 s0 fA aA i8 dA eA cA bA f1 (f3 (f2 n)) (f4 (f2 n))
    simp only [T1,T3 (it2 (hid ct1) n) (f2 n) ih,T4 (it2 (hid ct1) n) (f2 n) ih]
theorem H2 (s0 fA aA i8 dA eA cA bA):hid (it2 (hid ct1) 100000) (fr2 s0 fA aA i8 dA eA cA bA)=f2 100000 s0 fA aA i8 dA eA cA bA:=(congrFun (hid_eq _) _).trans (T2 100000 s0 fA aA i8 dA eA cA bA)
theorem T0 (s):exec X bd (.seq none .d (.seq none .d (.seq none .d (.seq none .d (.seq (some nm1) (.seq none .d (.block (.loop nm2 (.seq none .d (.seq (some nm3) (.block (.seq none .d (.seq none .d (.seq none .d (.seq (some nm4) (.seq none .d (.cond (.region [(13,500000500),(15,5)]) (.seq none .d (.cond (.region [(16,500000501),(18,5)]) .d)))) .d))))) .d))))) .d))))) (fr0 s) RR (fun _ _=>none) RR=f0 s:=by
  refine (P0 s).trans ?_
  show _=sh0 s (f2 100000)
  simp only [H2]
theorem run (s):runFnC X bd (.seq none .d (.seq none .d (.seq none .d (.seq none .d (.seq (some nm1) (.seq none .d (.block (.loop nm2 (.seq none .d (.seq (some nm3) (.block (.seq none .d (.seq none .d (.seq none .d (.seq (some nm4) (.seq none .d (.cond (.region [(13,500000500),(15,5)]) (.seq none .d (.cond (.region [(16,500000501),(18,5)]) .d)))) .d))))) .d))))) .d))))) nmR [(2,25),(3,29)] [106,107,4] [] [(.str s)]=f0 s:=T0 s
theorem fin (s:List UInt8) (i:Int) (fr:Nat) (a:List Spot) (b:List Face) (x y:Int) (ha:a.length≤90000) (hb:b.length≤90000) (h:¬ fr < s.length):f1 s i (fr:Int) x y a b=outP (finP a b):=by
  show sh1 s i (fr:Int) x y a b=_
  unfold sh1 finP
  rw [iltF (by simp; omega),condF,fin_size a b ha hb,chkT]
  cases validM (⟨a,b⟩:Mesh)<;>rfl
theorem loop (s : List UInt8) (hs : s.length ≤ 90000) : ∀ (k K fr i ln : Nat) (a : List Spot) (b : List Face), s.length < k + i → s.length < K + fr → fr ≤ i → i ≤ s.length → (10 : UInt8) ∉ (s.drop fr).take (i - fr) → ln ≤ fr + 1 → a.length ≤ fr → b.length ≤ fr →
    f2 k s (ln:Int) (fr:Int) (i:Int) 0 0 a b=outP (parG K (s.drop fr) (ln:Int) a b):=by
  intro k
  induction k with
  | zero=>intro K fr i ln a b h1 h2 h3 h4; omega
  | succ k ih =>
    intro K fr i ln a b h1 h2 h3 h4 h5 h6 h7 h8
    obtain ⟨K,rfl⟩:∃ j,K=j+1:=⟨K - 1,by omega⟩
    show sh2 s (ln:Int) (fr:Int) (i:Int) 0 0 a b f1 (f3 (f2 k)) (f4 (f2 k))=_
    unfold sh2
    by_cases hi:i < s.length
    · rw [iltT (by simp; omega), condT, inbT hi, chkT, toNat_nat, getD_lt hi]
      have hd:s.drop fr=(s.drop fr).take (i - fr)++s[i] :: s.drop (i+1):=by
        have e1:=List.take_append_drop (i - fr) (s.drop fr)
        rw [List.drop_drop,show fr+(i - fr)=i by omega,drop_lt hi] at e1
        exact e1.symm
      by_cases hc:s[i]=10
      · rw [show ((Int.ofNat (UInt8.toNat s[i])) != (10 : Int)) = false by rw [hc]; rfl, condF]
        rw [hc] at hd
        have hx:sub s (fr:Int) (i:Int)=(s.drop fr).take (i - fr):=rfl
        have hxl:((s.drop fr).take (i - fr)).length≤90000:=by simp only [List.length_take,List.length_drop]; omega
        rw [hx,ileT (show (0:Int)≤(fr:Int) by omega),ileT (show (fr:Int)≤(i:Int) by omega),ileT (show (i:Int)≤Int.ofNat s.length by simp; omega),nleT hxl,show wordB ([115,112,111,116]:List UInt8) (3:Int)=true from word3,show wordB ([102,97,99,101]:List UInt8) (4:Int)=true from word4]
        have hcut:Lib.cut (s.drop fr) ([10]:List UInt8)=((s.drop fr).take (i - fr),s.drop (i+1),true):=by
          have hin:Lib.index (s.drop fr) [10]=(((s.drop fr).take (i - fr)).length:Int):=by
            conv=>lhs; rw [hd]
            exact index_mid 10 [] _ _ h5
          have hxe:((s.drop fr).take (i - fr)).length=i - fr:=by rw [List.length_take,List.length_drop]; omega
          unfold Lib.cut
          rw [hin,if_pos (by omega),toNat_nat,hxe,List.drop_drop]
          refine Prod.ext rfl (Prod.ext ?_ rfl)
          show s.drop (fr+(i - fr+1))=_
          rw [show fr+(i - fr+1)=i+1 by omega]
        have hne:(s.drop fr == ([]:List UInt8))=false:=by
          rw [hd]
          exact beq_eq_false_iff_ne.2 (by simp)
        simp only [parG]
        rw [hne,cond_false,hcut,cond_true]
        generalize (s.drop fr).take (i - fr)=x at hxl
        have next:∀ (a':List Spot) (b':List Face),a'.length≤a.length+1→b'.length≤b.length+1→f4 (f2 k) s (ln:Int) (i:Int) 0 0 a' b'=outP (parG K (s.drop (i+1)) ((ln:Int)+1) a' b'):=fun a' b' l1 l2=>by
          show f2 k s (IntKind.wrap .i64 ((ln:Int)+1)) (IntKind.wrap .i64 ((i:Int)+1)) (IntKind.wrap .i64 ((i:Int)+1)) 0 0 a' b'=_
          rw [wrapS ln (by omega),wrapS i (by omega)]
          exact ih K (i+1) (i+1) (ln+1) a' b' (by omega) (by omega) (Nat.le_refl _) hi (by simp) (by omega) (by omega) (by omega)
        obtain ⟨g1,g2⟩:=add_len a b x
        unfold addB addS addF isSp at *
        simp only [Bool.and_self,chkT]
        cases hn:numB wSpot x 3 with
        | false =>
          simp only [hn,Bool.false_and,cond_false] at g1 g2 ⊢
          rw [condF]
          cases hm:numB wFace x 4 with
          | false=>rfl
          | true =>
            obtain ⟨e1,e2⟩:=num_rd hm
            have hl:(rdL wFace x).length=4:=Int.ofNat.inj e2
            rw [condT,show inb (0:Int) (rdL wFace x).length=true from inb0 (by omega),show inb (1:Int) (rdL wFace x).length=true from inbT (i:=1) (by omega),show inb (2:Int) (rdL wFace x).length=true from inbT (i:=2) (by omega),show inb (3:Int) (rdL wFace x).length=true from inbT (i:=3) (by omega),chkT,chkT,chkT,chkT,roomF2 _ _ (show b.length≤90000 by omega),chkT]
            exact next a (b++[fcL (rdL wFace x)]) (by omega) (by simp)
        | true =>
          cases hb0:(Int.ofNat (List.length b)) == (0:Int) with
          | false =>
            simp only [hn,hb0,Bool.and_false,cond_false] at g1 g2 ⊢
            rw [condT,condF]
            cases hm:numB wFace x 4 with
            | false=>rfl
            | true =>
              obtain ⟨e1,e2⟩:=num_rd hm
              have hl:(rdL wFace x).length=4:=Int.ofNat.inj e2
              rw [condT,show inb (0:Int) (rdL wFace x).length=true from inb0 (by omega),show inb (1:Int) (rdL wFace x).length=true from inbT (i:=1) (by omega),show inb (2:Int) (rdL wFace x).length=true from inbT (i:=2) (by omega),show inb (3:Int) (rdL wFace x).length=true from inbT (i:=3) (by omega),chkT,chkT,chkT,chkT,roomF2 _ _ (show b.length≤90000 by omega),chkT]
              exact next a (b++[fcL (rdL wFace x)]) (by omega) (by simp)
          | true =>
            simp only [hn,hb0,Bool.and_self,cond_true] at g1 g2 ⊢
            obtain ⟨e1,e2⟩:=num_rd hn
            have hl:(rdL wSpot x).length=3:=Int.ofNat.inj e2
            rw [condT,condT,show inb (0:Int) (rdL wSpot x).length=true from inb0 (by omega),show inb (1:Int) (rdL wSpot x).length=true from inbT (i:=1) (by omega),show inb (2:Int) (rdL wSpot x).length=true from inbT (i:=2) (by omega),chkT,chkT,chkT,roomS2 _ _ (show a.length≤90000 by omega),chkT]
            exact next (a++[spL (rdL wSpot x)]) b (by simp) (by omega)
      · have hcb : ((Int.ofNat (UInt8.toNat s[i])) != (10 : Int)) = true := by
          rw [bne_iff_ne]
          intro e
          refine hc (UInt8.toNat_inj.1 ?_)
          have:(10:UInt8).toNat=10:=rfl
          simp at e
          omega
        rw [hcb,condT]
        show f2 k s (ln:Int) (fr:Int) (IntKind.wrap .i64 ((i:Int)+1)) 0 0 a b=_
        rw [wrapS i (by omega)]
        refine ih (K+1) fr (i+1) ln a b (by omega) h2 (by omega) hi ?_ h6 h7 h8
        intro hm
        have e:(s.drop fr).take (i+1 - fr)=(s.drop fr).take (i - fr)++[s[i]]:=by
          have hl:i - fr < (s.drop fr).length:=by rw [List.length_drop]; omega
          rw [show i+1 - fr=(i - fr)+1 by omega,take_lt hl]
          congr 2
          rw [List.getElem_drop]
          congr 1
          omega
        rw [e,List.mem_append,List.mem_singleton] at hm
        rcases hm with hm | hm
        · exact h5 hm
        · exact hc hm.symm
    · have hi' : i = s.length := by omega
      subst hi'
      rw [iltF (by simp),condF]
      have ht:(s.drop fr).take (s.length - fr)=s.drop fr:=List.take_of_length_le (by rw [List.length_drop]; exact Nat.le_refl _)
      rw [ht] at h5
      simp only [parG]
      by_cases hf:fr < s.length
      · have hne : (s.drop fr == ([] : List UInt8)) = false := by
          rw [drop_lt hf]
          exact beq_eq_false_iff_ne.2 (fun e=>by cases e)
        rw [hne,cut_none 10 [] _ h5]
        show sh1 s (ln:Int) (fr:Int) 0 0 a b=_
        unfold sh1
        rw [iltT (by simp; omega)]
        rfl
      · rw [List.drop_eq_nil_of_le (by omega)]
        exact fin s (ln:Int) fr a b 0 0 (by omega) (by omega) hf
theorem f0_eq (s:List UInt8) (h:(nle (List.length s) 300000&&(nle (List.length s) 90000||nlt 262144 (List.length s)))=true):f0 s=some ((.tup [(.agg [(.lst .spot ((parM s).ms)),(.lst .face ((parM s).mf))]),(.agg [(.int .i64 ((parP s).pl)),(.int .i64 ((parP s).pc))]),(.int .i64 (parE s))]),[]):=by
  show sh0 s (f2 100000)=outP (parT s)
  unfold sh0 parT
  by_cases hb:262144 < s.length
  · rw [iltT (by simp; omega)]; rfl
  · simp only [Bool.and_eq_true, Bool.or_eq_true] at h
    have hl:s.length≤90000:=by
      rcases h.2 with k | k
      · exact nleI k
      · exact absurd (of_decide_eq_true k) hb
    rw [iltF (by simp; omega),condF,cond_false]
    exact loop s hl 100000 100000 0 0 1 [] [] (by omega) (by omega) (Nat.le_refl _) (by omega) (by simp) (by omega) (by simp) (by simp)
theorem ok:CtxOk Tryz.prog X:=ctxOk tab (spC rvalid.spOk (spC rread.spOk spN)) dpN
theorem okM:MOk Tryz.prog X:=fun g sp h=>by cases h
theorem spec (s:List UInt8) (h:((nle (List.length s) 300000&&(nle (List.length s) 90000||nlt 262144 (List.length s))))=true):CallSpec Tryz.prog E 11 [(.str s)] (.tup [(.agg [(.lst .spot ((parM s).ms)),(.lst .face ((parM s).mf))]),(.agg [(.int .i64 ((parP s).pl)),(.int .i64 ((parP s).pc))]),(.int .i64 (parE s))]) [] :=
  runFnC_sound ok okM Tryz.call11 Tryz.func11 (by kernel_rfl) (by kernel_rfl) (by kernel_rfl) (by show 1≤106; decide) (by decide) (by rfl) ((run s).trans (f0_eq s h))
noncomputable def sp:Sp U El:=fun args k=>match args with
  | [.str s]=>chk ((nle (List.length s) 300000&&(nle (List.length s) 90000||nlt 262144 (List.length s)))) (k (.tup [(.agg [(.lst .spot ((parM s).ms)),(.lst .face ((parM s).mf))]),(.agg [(.int .i64 ((parP s).pl)),(.int .i64 ((parP s).pc))]),(.int .i64 (parE s))]) [])
  | _=>none
theorem spOk:SpOk Tryz.prog E 11 sp where
  det:=fun vs=>by
    unfold sp
    split
    · exact det_c _ _ _
    · exact ⟨none,fun _=>rfl⟩
  ok:=fun vs k r h=>by
    unfold sp at h
    split at h
    · obtain ⟨h1, h2⟩ := chk_some h
      exact ⟨_,_,spec _ h1,h2⟩
    · cases h
end rparse
end Go.Proofs.YtnofdcckddfooaaGreatDoor
