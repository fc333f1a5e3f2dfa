import Derived.Test.YtlkfbblapimhoaaGreatDoorRD
namespace Go.Proofs.YtlkfbblapimhoaaGreatDoor
set_option linter.all false
set_option maxRecDepth 100000
theorem At.wrap {ts:List Tok} {p:Int} (h:At ts p) (hl:ts.length≤90000):IntKind.wrap .i64 (p+1)=p+1:=by
 obtain ⟨h1,h2⟩:=h
 simp at h2
 exact wrapI (by omega) (by omega)
noncomputable def outS {α:Type} (enc:α→AV U El) (ts:List Tok) (r:Res α):R:=condB r.ok (some (enc r.v,rdB ts r.p)) (panO ts r.p)
theorem outS_bd {α β:Type} (enc:β→AV U El) (ts:List Tok) (r:Res α) (d:β) (f:α→Int→Res β):outS enc ts (r.bd d f)=condB r.ok (outS enc ts (f r.v r.p)) (panO ts r.p):=by
 unfold Res.bd
 cases hr:r.ok<;>rfl
theorem outS_T {α:Type} {enc:α→AV U El} {ts:List Tok} {r:Res α} (h:r.ok=true):outS enc ts r=some (enc r.v,rdB ts r.p):=by unfold outS; rw [h]; rfl
theorem outS_F {α:Type} {enc:α→AV U El} {ts:List Tok} {r:Res α} (h:r.ok=false):outS enc ts r=panO ts r.p:=by unfold outS; rw [h]; rfl
theorem inpI {ts:List Tok} {p:Int} (h:(inb p (List.length ts)&&nle (List.length ts) 90000)=true):At ts p∧ts.length≤90000:=by
 rw [Bool.and_eq_true] at h
 exact ⟨inb_At.1 h.1,nleI h.2⟩
theorem inpT {ts:List Tok} {p:Int} (h:At ts p) (ho:okT ts=true):(inb p (List.length ts)&&nle (List.length ts) 90000)=true:=by
 rw [inb_At.2 h,nleT (h.len ho).1]; rfl
theorem oktT {ts:List Tok} {p:Int} (h:At ts p) (ho:okT ts=true):(okT ts&&inb p (List.length ts))=true:=by rw [inb_At.2 h,ho]; rfl
namespace rdTake
noncomputable def bd:Code:=(Tryz.f86.body).getD .skip
noncomputable def X:Ctx U El:=⟨E,tds,zeros,eqs,specOf [],100000,35,dspecOf [],mspecOf [(44,(mcSp rdNow.sp)),(118,(mcpSp panR rdFail.sp))],fun _=>none⟩
noncomputable def nmR:Norm U:=⟨[],[6],[1000000000],[],[],[],[]⟩
noncomputable def RR:Kont U El:=fun st=>normK nmR st (retP [6])
noncomputable def nm1:Norm U:=⟨[],[0,7],[7,1000000000],[],[],[],[(1000000000,0,.tok)]⟩
abbrev Y1:=Tok→(List Tok)→Int→R
noncomputable def fr0 (kd:Int) (x:List UInt8) (ts:List Tok) (p:Int):St U El:=⟨[(0,(.ptr 1000000000 0)),(1,(.int .i64 kd)),(2,(.str x))],[(1000000000,(.box 1000000000 [(.lst .tok ts),(.int .i64 p)]))]⟩
noncomputable def fr1 (b7:Tok) (aA:List Tok) (bA:Int):St U El:=⟨[(0,(.ptr 1000000000 0)),(7,(.ptr 7 0))],[(7,(.box 0 [(.int .i64 b7.kk),(.str b7.kt),(.int .i64 b7.kl),(.int .i64 b7.kc)])),(1000000000,(.box 1000000000 [(.lst .tok aA),(.int .i64 bA)]))]⟩
noncomputable def sh0 (kd:Int) (x:List UInt8) (ts:List Tok) (p:Int) (k1:Y1):R :=
 chk ((inb p (List.length ts)&&nle (List.length ts) 90000)) (condB ((tokAt ts p).kk != kd) (chk ((inb p (List.length ts)&&nle (List.length ts) 90000)) (some ((.agg [(.int .i64 (Tok.kl (tokAt ts p))),(.int .i64 (Tok.kc (tokAt ts p)))]),panH 95))) (condB (!(x == ([]:List UInt8))) (condB (!(((tokAt ts p).kt) == x)) (chk ((inb p (List.length ts)&&nle (List.length ts) 90000)) (some ((.agg [(.int .i64 (Tok.kl (tokAt ts p))),(.int .i64 (Tok.kc (tokAt ts p)))]),panH 95))) (k1 (tokAt ts p) ts p)) (k1 (tokAt ts p) ts p)))
noncomputable def sh1 (b7:Tok) (aA:List Tok) (bA:Int):R :=
 some ((.str b7.kt),[(1000000000,(.box 1000000000 [(.lst .tok aA),(.int .i64 (IntKind.wrap .i64 (bA+(1:Int))))]))])
noncomputable def ct1:Kont U El:=fun st=>exec X (cdp [1,1,1] bd) .d st RR (fun _ _=>none) RR
theorem P0 (kd x ts p):exec X (cdp [] bd) (.seq none .d (.seq none .d (.seq (some nm1) .d .d))) (fr0 kd x ts p) RR (fun _ _=>none) RR=sh0 kd x ts p (fun y0 y1 y2=>(hid ct1) (fr1 y0 y1 y2)):=by kernel_rfl
theorem P1 (b7 aA bA):ct1 (fr1 b7 aA bA)=sh1 b7 aA bA:=by kernel_rfl
noncomputable def f1 (b7:Tok) (aA:List Tok) (bA:Int):R:=sh1 b7 aA bA
noncomputable def f0 (kd:Int) (x:List UInt8) (ts:List Tok) (p:Int):R:=sh0 kd x ts p f1
theorem T1 (b7 aA bA):(hid ct1) (fr1 b7 aA bA)=f1 b7 aA bA:=by
 refine (congrFun (hid_eq _) _).trans <| (P1 b7 aA bA).trans ?_
 show _=sh1 b7 aA bA
 rfl
theorem T0 (kd x ts p):exec X bd (.seq none .d (.seq none .d (.seq (some nm1) .d .d))) (fr0 kd x ts p) RR (fun _ _=>none) RR=f0 kd x ts p:=by
 refine (P0 kd x ts p).trans ?_
 show _=sh0 kd x ts p f1
 simp only [T1]
theorem run (kd x ts p):runP X bd (.seq none .d (.seq none .d (.seq (some nm1) .d .d))) nmR [6] [(1000000000,(.box 1000000000 [(.lst .tok ts),(.int .i64 p)]))] [(.ptr 1000000000 0),(.int .i64 kd),(.str x)]=f0 kd x ts p:=T0 kd x ts p
theorem all_eq (kd:Int) (x:List UInt8) (ts:List Tok) (p:Int) (h:(inb p (List.length ts) && nle (List.length ts) 90000)=true):f0 kd x ts p=outS .str ts (takeR ts p kd x):=by
 obtain ⟨ha,hl⟩:=inpI h
 show sh0 kd x ts p f1=_
 unfold sh0 takeR
 rw [h]
 simp only [chkT]
 have hb:((tokAt ts p).kk != kd) = !((tokAt ts p).kk == kd):=rfl
 rw [hb]
 have hk1:∀ (b:Tok),f1 b ts p=some (.str b.kt,rdB ts (IntKind.wrap .i64 (p+1))):=fun b=>rfl
 cases h1:(tokAt ts p).kk == kd
 ·rfl
 ·simp only [Bool.not_true,condF,Bool.true_and]
  cases h2:x == []
  ·simp only [Bool.not_false,condT,Bool.false_or]
   cases h3:(tokAt ts p).kt == x
   ·rfl
   ·simp only [Bool.not_true,condF,hk1,ha.wrap hl]
    rfl
  ·simp only [Bool.not_true,condF,Bool.true_or,hk1,ha.wrap hl]
   rfl
theorem f0_T (kd:Int) (x:List UInt8) (ts:List Tok) (p:Int) (h:(inb p (List.length ts)&&nle (List.length ts) 90000)=true) (hc:Res.ok (takeR ts p kd x)=true):f0 kd x ts p=some (.str (takeR ts p kd x).v,rdB ts (takeR ts p kd x).p):=(all_eq kd x ts p h).trans (outS_T hc)
theorem f0_F (kd:Int) (x:List UInt8) (ts:List Tok) (p:Int) (h:(inb p (List.length ts)&&nle (List.length ts) 90000)=true) (hc:Res.ok (takeR ts p kd x)=false):f0 kd x ts p=panO ts (takeR ts p kd x).p:=(all_eq kd x ts p h).trans (outS_F hc)
theorem ok:CtxOk Tryz.prog X:=ctxOk tab spN dpN
theorem okM:MOkG panR Tryz.prog X:=mspecOf_okG _ (mpCG ((mcSp_ok ok rdNow.spOk).g) (mpCG (mcpSp_ok ok rdFail.spOk) mpNG))
theorem spec1 (kd:Int) (x:List UInt8) (ts:List Tok) (p:Int) (h:((inb p (List.length ts)&&nle (List.length ts) 90000))=true) (hc:(Res.ok (takeR ts p kd x))=true):PMCall Tryz.prog E 86 [(.ptr 1000000000 0),(.int .i64 kd),(.str x)] [(1000000000,(.box 1000000000 [(.lst .tok ts),(.int .i64 p)]))] (.str (Res.v (takeR ts p kd x))) [(1000000000,(.box 1000000000 [(.lst .tok ts),(.int .i64 (Res.p (takeR ts p kd x)))]))] :=
 runP_sound ok okM Tryz.func86 (by kernel_rfl) (by kernel_rfl) (by kernel_rfl) (by show 3≤35; decide) ((run kd x ts p).trans (f0_T kd x ts p h hc))
theorem spec2 (kd:Int) (x:List UInt8) (ts:List Tok) (p:Int) (h:((inb p (List.length ts)&&nle (List.length ts) 90000))=true) (hc:(Res.ok (takeR ts p kd x))=false):PMCall Tryz.prog E 86 [(.ptr 1000000000 0),(.int .i64 kd),(.str x)] [(1000000000,(.box 1000000000 [(.lst .tok ts),(.int .i64 p)]))] (.agg [(.int .i64 (Tok.kl (tokAt ts (Res.p (takeR ts p kd x))))),(.int .i64 (Tok.kc (tokAt ts (Res.p (takeR ts p kd x)))))]) (panH 95) :=
 runP_sound ok okM Tryz.func86 (by kernel_rfl) (by kernel_rfl) (by kernel_rfl) (by show 3≤35; decide) ((run kd x ts p).trans (f0_F kd x ts p h hc))
noncomputable def sp:MSp U El:=fun args hs k=>match args,hs with
 | [.ptr q0 0,.int .i64 kd,.str x],[(q1,.box q2 [.lst .tok ts,.int .i64 p])]=>chk (Nat.beq q0 1000000000&&(Nat.beq q1 1000000000&&(Nat.beq q2 1000000000&&true))) (chk ((inb p (List.length ts)&&nle (List.length ts) 90000)) (condB (Res.ok (takeR ts p kd x)) (k (.str (Res.v (takeR ts p kd x))) [(1000000000,(.box 1000000000 [(.lst .tok ts),(.int .i64 (Res.p (takeR ts p kd x)))]))]) (k (.agg [(.int .i64 (Tok.kl (tokAt ts (Res.p (takeR ts p kd x))))),(.int .i64 (Tok.kc (tokAt ts (Res.p (takeR ts p kd x)))))]) (panH 95))))
 | _,_=>none
theorem spOk:PSpOk Tryz.prog E 86 sp:=⟨Tryz.call86,fun args hs k r h=>by
 unfold sp at h
 split at h
 ·obtain ⟨hq,hA⟩:=chk_some h
  clear h
  simp only [Bool.and_eq_true] at hq
  obtain ⟨e0,e1,e2,_⟩:=hq
  cases Nat.eq_of_beq_eq_true e0
  cases Nat.eq_of_beq_eq_true e1
  cases Nat.eq_of_beq_eq_true e2
  obtain ⟨h1,hB⟩:=chk_some hA
  rcases condB_some hB with ⟨h2,h⟩ | ⟨h2,h⟩
  ·exact ⟨_,_,spec1 _ _ _ _ h1 h2,h⟩
  ·exact ⟨_,_,spec2 _ _ _ _ h1 h2,h⟩
 ·cases h⟩
end rdTake
theorem atoiZ_rng (s:List UInt8):-9223372036854775808≤atoiZ s∧atoiZ s≤9223372036854775807:=by
 unfold atoiZ
 split
 ·rename_i v h; exact Lib.atoiAll_bounds h
 ·exact Lib.atoiSat_bounds s
 ·exact ⟨by decide,by decide⟩
theorem itoa_min:(Lib.itoa (-9223372036854775808)).length=20:=by decide +kernel
theorem ilt_ile15 (z:Int):ilt 15 z = !(ile z 15):=by rw [not_ile]
namespace rdNumber
noncomputable def bd:Code:=(Tryz.f89.body).getD .skip
noncomputable def X:Ctx U El:=⟨E,tds,zeros,eqs,specOf [(79,itoa.sp),(119,atoiA.sp)],100000,58,dspecOf [],mspecOf [(44,(mcSp rdNow.sp)),(87,(mcSp rdNext.sp)),(118,(mcpSp panR rdFail.sp))],fun _=>none⟩
noncomputable def nmR:Norm U:=⟨[],[2],[1000000000],[],[],[],[]⟩
noncomputable def RR:Kont U El:=fun st=>normK nmR st (retP [2])
noncomputable def nm1:Norm U:=⟨[],[0,3],[1000000000],[],[],[],[(1000000000,0,.tok)]⟩
noncomputable def nm2:Norm U:=⟨[],[0,3,5],[1000000000],[],[],[],[(1000000000,0,.tok)]⟩
abbrev Y1:=Bool→(List Tok)→Int→R
abbrev Y2:=Bool→Int→(List Tok)→Int→R
noncomputable def fr0 (ts:List Tok) (p:Int):St U El:=⟨[(0,(.ptr 1000000000 0))],[(1000000000,(.box 1000000000 [(.lst .tok ts),(.int .i64 p)]))]⟩
noncomputable def fr1 (cA:Bool) (aA:List Tok) (bA:Int):St U El:=⟨[(0,(.ptr 1000000000 0)),(3,(.bool cA))],[(1000000000,(.box 1000000000 [(.lst .tok aA),(.int .i64 bA)]))]⟩
noncomputable def fr2 (cA:Bool) (n5:Int) (aA:List Tok) (bA:Int):St U El:=⟨[(0,(.ptr 1000000000 0)),(3,(.bool cA)),(5,(.int .i64 n5))],[(1000000000,(.box 1000000000 [(.lst .tok aA),(.int .i64 bA)]))]⟩
noncomputable def sh0 (ts:List Tok) (p:Int) (k1:Y1):R :=
 chk ((inb p (List.length ts)&&nle (List.length ts) 90000)) (condB (nextB ts p (3:Int) ([45]:List UInt8)) (k1 (nextB ts p (3:Int) ([45]:List UInt8)) ts (IntKind.wrap .i64 (p+(1:Int)))) (k1 (nextB ts p (3:Int) ([45]:List UInt8)) ts p))
noncomputable def sh1 (cA:Bool) (aA:List Tok) (bA:Int) (k2:Y2):R :=
 chk ((inb bA (List.length aA)&&nle (List.length aA) 90000)) (chk (nle (List.length ((tokAt aA bA).kt)) 300000) (condB (atoiB ((tokAt aA bA).kt)) (condB ((tokAt aA bA).kk != (2:Int)) (chk ((inb bA (List.length aA)&&nle (List.length aA) 90000)) (some ((.agg [(.int .i64 (Tok.kl (tokAt aA bA))),(.int .i64 (Tok.kc (tokAt aA bA)))]),panH 95))) (condB (ilt (15:Int) (Int.ofNat (List.length ((tokAt aA bA).kt)))) (chk ((inb bA (List.length aA)&&nle (List.length aA) 90000)) (some ((.agg [(.int .i64 (Tok.kl (tokAt aA bA))),(.int .i64 (Tok.kc (tokAt aA bA)))]),panH 95))) (chk ((ile (-9223372036854775808) (atoiZ ((tokAt aA bA).kt))&&ile (atoiZ ((tokAt aA bA).kt)) 9223372036854775807)) (condB (!((Lib.itoa (atoiZ ((tokAt aA bA).kt))) == ((tokAt aA bA).kt))) (chk ((inb bA (List.length aA)&&nle (List.length aA) 90000)) (some ((.agg [(.int .i64 (Tok.kl (tokAt aA bA))),(.int .i64 (Tok.kc (tokAt aA bA)))]),panH 95))) (k2 cA (atoiZ ((tokAt aA bA).kt)) aA bA))))) (condB ((tokAt aA bA).kk != (2:Int)) (chk ((inb bA (List.length aA)&&nle (List.length aA) 90000)) (some ((.agg [(.int .i64 (Tok.kl (tokAt aA bA))),(.int .i64 (Tok.kc (tokAt aA bA)))]),panH 95))) (chk ((inb bA (List.length aA)&&nle (List.length aA) 90000)) (some ((.agg [(.int .i64 (Tok.kl (tokAt aA bA))),(.int .i64 (Tok.kc (tokAt aA bA)))]),panH 95))))))
noncomputable def sh2 (cA:Bool) (n5:Int) (aA:List Tok) (bA:Int):R :=
 condB cA (some ((.int .i64 (IntKind.wrap .i64 (0 - n5))),[(1000000000,(.box 1000000000 [(.lst .tok aA),(.int .i64 (IntKind.wrap .i64 (bA+(1:Int))))]))])) (some ((.int .i64 n5),[(1000000000,(.box 1000000000 [(.lst .tok aA),(.int .i64 (IntKind.wrap .i64 (bA+(1:Int))))]))]))
noncomputable def ct1:Kont U El:=fun st=>exec X (cdp [1,1,1] bd) (.seq none .d (.seq none .d (.seq (some nm2) .d .d))) st RR (fun _ _=>none) RR
noncomputable def ct2:Kont U El:=fun st=>exec X (cdp [1,1,1,1,1,1] bd) .d st RR (fun _ _=>none) RR
theorem P0 (ts p):exec X (cdp [] bd) (.seq none .d (.seq none .d (.seq (some nm1) .d (.seq none .d (.seq none .d (.seq (some nm2) .d .d)))))) (fr0 ts p) RR (fun _ _=>none) RR=sh0 ts p (fun y0 y1 y2=>(hid ct1) (fr1 y0 y1 y2)):=by kernel_rfl
theorem P1 (cA aA bA):ct1 (fr1 cA aA bA)=sh1 cA aA bA (fun y0 y1 y2 y3=>(hid ct2) (fr2 y0 y1 y2 y3)):=by kernel_rfl
theorem P2 (cA n5 aA bA):ct2 (fr2 cA n5 aA bA)=sh2 cA n5 aA bA:=by kernel_rfl
noncomputable def f2 (cA:Bool) (n5:Int) (aA:List Tok) (bA:Int):R:=sh2 cA n5 aA bA
noncomputable def f1 (cA:Bool) (aA:List Tok) (bA:Int):R:=sh1 cA aA bA f2
noncomputable def f0 (ts:List Tok) (p:Int):R:=sh0 ts p f1
theorem T2 (cA n5 aA bA):(hid ct2) (fr2 cA n5 aA bA)=f2 cA n5 aA bA:=by
 refine (congrFun (hid_eq _) _).trans <| (P2 cA n5 aA bA).trans ?_
 show _=sh2 cA n5 aA bA
 rfl
theorem T1 (cA aA bA):(hid ct1) (fr1 cA aA bA)=f1 cA aA bA:=by
 refine (congrFun (hid_eq _) _).trans <| (P1 cA aA bA).trans ?_
 show _=sh1 cA aA bA f2
 simp only [T2]
theorem T0 (ts p):exec X bd (.seq none .d (.seq none .d (.seq (some nm1) .d (.seq none .d (.seq none .d (.seq (some nm2) .d .d)))))) (fr0 ts p) RR (fun _ _=>none) RR=f0 ts p:=by
 refine (P0 ts p).trans ?_
 show _=sh0 ts p f1
 simp only [T1]
theorem run (ts p):runP X bd (.seq none .d (.seq none .d (.seq (some nm1) .d (.seq none .d (.seq none .d (.seq (some nm2) .d .d)))))) nmR [2] [(1000000000,(.box 1000000000 [(.lst .tok ts),(.int .i64 p)]))] [(.ptr 1000000000 0)]=f0 ts p:=T0 ts p
theorem all_eq (ts:List Tok) (p:Int) (h:(okT ts && inb p (List.length ts))=true):f0 ts p=outS (.int .i64) ts (numR ts p):=by
 rw [Bool.and_eq_true] at h
 obtain ⟨ho,ha⟩:=h
 have ha:=inb_At.1 ha
 have hl:=(ha.len ho).1
 obtain ⟨_,hq⟩:=numQ_fine ho ha
 have hq1:f0 ts p=f1 (nextB ts p 3 [45]) ts (numQ ts p):=by
  show sh0 ts p f1=_
  unfold sh0 numQ
  rw [inpT ha ho]
  cases nextB ts p 3 [45]
  ·rfl
  ·simp only [chkT,condT,ha.wrap hl,cond_true]
 rw [hq1]
 unfold numR
 generalize nextB ts p 3 [45]=n
 generalize numQ ts p=q at *
 show sh1 n ts q f2=_
 unfold sh1
 have ht:=okT_text ho q
 rw [inpT hq ho,nleT (show (tokAt ts q).kt.length≤300000 by omega)]
 simp only [chkT]
 have hb:((tokAt ts q).kk != (2:Int)) = !((tokAt ts q).kk == 2):=rfl
 rw [hb]
 have hz:-9223372036854775808≤atoiZ (tokAt ts q).kt∧atoiZ (tokAt ts q).kt≤9223372036854775807:=atoiZ_rng _
 have hk2:∀ z:Int,-9223372036854775808≤z→z≤9223372036854775807→f2 n z ts q=some (.int .i64 (bif n then IntKind.wrap .i64 (0 - z) else z),rdB ts (q+1)):=fun z _ _=>by
  show sh2 n z ts q=_
  unfold sh2
  rw [hq.wrap hl]
  cases n<;>rfl
 unfold numOkS
 cases h1:(tokAt ts q).kk == 2
 ·simp only [Bool.not_false,condT,Bool.false_and]
  cases atoiB (tokAt ts q).kt<;>rfl
 ·simp only [Bool.not_true,condF,Bool.true_and]
  have hk:∀ x:R,(condB (ilt (15:Int) (Int.ofNat (List.length (tokAt ts q).kt))) (panO ts q) (chk (ile (-9223372036854775808) (atoiZ (tokAt ts q).kt) && ile (atoiZ (tokAt ts q).kt) 9223372036854775807) (condB (!(Lib.itoa (atoiZ (tokAt ts q).kt) == (tokAt ts q).kt)) (panO ts q) (f2 n (atoiZ (tokAt ts q).kt) ts q))))=outS (.int .i64) ts (bif (ile (Int.ofNat (List.length (tokAt ts q).kt)) 15 && Lib.itoa (atoiZ (tokAt ts q).kt) == (tokAt ts q).kt) then ⟨true,bif n then 0 - atoiZ (tokAt ts q).kt else atoiZ (tokAt ts q).kt,q + 1⟩ else ⟨false,0,q⟩):=fun x=>by
   rw [ilt_ile15,ileT hz.1,ileT hz.2,hk2 _ hz.1 hz.2]
   simp only [Bool.true_and,chkT]
   cases h2:ile (Int.ofNat (List.length (tokAt ts q).kt)) 15
   ·rfl
   ·simp only [Bool.not_true,condF,Bool.true_and]
    cases h3:Lib.itoa (atoiZ (tokAt ts q).kt) == (tokAt ts q).kt
    ·rfl
    ·simp only [Bool.not_true,condF,cond_true]
     have hne:atoiZ (tokAt ts q).kt ≠ -9223372036854775808:=fun e=>by
      have h4:=eq_of_beq h3
      rw [e] at h4
      have:=ileI h2
      rw [← h4,itoa_min] at this
      exact absurd this (by decide)
     rw [wrapI (x:=0 - atoiZ (tokAt ts q).kt) (by omega) (by omega)]
     cases n<;>rfl
  cases h5:atoiB (tokAt ts q).kt
  ·rfl
  ·simp only [condT,Bool.true_and]
   exact hk none
theorem f0_T (ts:List Tok) (p:Int) (h:(okT ts&&inb p (List.length ts))=true) (hc:Res.ok (numR ts p)=true):f0 ts p=some (.int .i64 (numR ts p).v,rdB ts (numR ts p).p):=(all_eq ts p h).trans (outS_T hc)
theorem f0_F (ts:List Tok) (p:Int) (h:(okT ts&&inb p (List.length ts))=true) (hc:Res.ok (numR ts p)=false):f0 ts p=panO ts (numR ts p).p:=(all_eq ts p h).trans (outS_F hc)
theorem ok:CtxOk Tryz.prog X:=ctxOk tab (spC itoa.spOk (spC atoiA.spOk spN)) dpN
theorem okM:MOkG panR Tryz.prog X:=mspecOf_okG _ (mpCG ((mcSp_ok ok rdNow.spOk).g) (mpCG ((mcSp_ok ok rdNext.spOk).g) (mpCG (mcpSp_ok ok rdFail.spOk) mpNG)))
theorem spec1 (ts:List Tok) (p:Int) (h:((okT ts&&inb p (List.length ts)))=true) (hc:(Res.ok (numR ts p))=true):PMCall Tryz.prog E 89 [(.ptr 1000000000 0)] [(1000000000,(.box 1000000000 [(.lst .tok ts),(.int .i64 p)]))] (.int .i64 (Res.v (numR ts p))) [(1000000000,(.box 1000000000 [(.lst .tok ts),(.int .i64 (Res.p (numR ts p)))]))] :=
 runP_sound ok okM Tryz.func89 (by kernel_rfl) (by kernel_rfl) (by kernel_rfl) (by show 1≤58; decide) ((run ts p).trans (f0_T ts p h hc))
theorem spec2 (ts:List Tok) (p:Int) (h:((okT ts&&inb p (List.length ts)))=true) (hc:(Res.ok (numR ts p))=false):PMCall Tryz.prog E 89 [(.ptr 1000000000 0)] [(1000000000,(.box 1000000000 [(.lst .tok ts),(.int .i64 p)]))] (.agg [(.int .i64 (Tok.kl (tokAt ts (Res.p (numR ts p))))),(.int .i64 (Tok.kc (tokAt ts (Res.p (numR ts p)))))]) (panH 95) :=
 runP_sound ok okM Tryz.func89 (by kernel_rfl) (by kernel_rfl) (by kernel_rfl) (by show 1≤58; decide) ((run ts p).trans (f0_F ts p h hc))
noncomputable def sp:MSp U El:=fun args hs k=>match args,hs with
 | [.ptr q0 0],[(q1,.box q2 [.lst .tok ts,.int .i64 p])]=>chk (Nat.beq q0 1000000000&&(Nat.beq q1 1000000000&&(Nat.beq q2 1000000000&&true))) (chk ((okT ts&&inb p (List.length ts))) (condB (Res.ok (numR ts p)) (k (.int .i64 (Res.v (numR ts p))) [(1000000000,(.box 1000000000 [(.lst .tok ts),(.int .i64 (Res.p (numR ts p)))]))]) (k (.agg [(.int .i64 (Tok.kl (tokAt ts (Res.p (numR ts p))))),(.int .i64 (Tok.kc (tokAt ts (Res.p (numR ts p)))))]) (panH 95))))
 | _,_=>none
theorem spOk:PSpOk Tryz.prog E 89 sp:=⟨Tryz.call89,fun args hs k r h=>by
 unfold sp at h
 split at h
 ·obtain ⟨hq,hA⟩:=chk_some h
  clear h
  simp only [Bool.and_eq_true] at hq
  obtain ⟨e0,e1,e2,_⟩:=hq
  cases Nat.eq_of_beq_eq_true e0
  cases Nat.eq_of_beq_eq_true e1
  cases Nat.eq_of_beq_eq_true e2
  obtain ⟨h1,hB⟩:=chk_some hA
  rcases condB_some hB with ⟨h2,h⟩ | ⟨h2,h⟩
  ·exact ⟨_,_,spec1 _ _ h1 h2,h⟩
  ·exact ⟨_,_,spec2 _ _ h1 h2,h⟩
 ·cases h⟩
end rdNumber
namespace rdCond
noncomputable def bd:Code:=(Tryz.f88.body).getD .skip
noncomputable def X:Ctx U El:=⟨E,tds,zeros,eqs,specOf [],100000,25,dspecOf [],mspecOf [(86,(mcpSp panR rdTake.sp)),(87,(mcSp rdNext.sp)),(89,(mcpSp panR rdNumber.sp))],fun _=>none⟩
noncomputable def nmR:Norm U:=⟨[],[25],[1000000000],[],[],[],[]⟩
noncomputable def RR:Kont U El:=fun st=>loadRes X 25 [(2,78)] 25 st fun st=>normK nmR st (retP [25])
noncomputable def nm1:Norm U:=⟨[],[0,2,3],[2,3,1000000000],[],[],[],[(1000000000,0,.tok)]⟩
abbrev Y1:=(List UInt8)→Bool→Int→(List UInt8)→Bool→Int→(List Tok)→Int→R
noncomputable def fr0 (ts:List Tok) (p:Int):St U El:=⟨[(0,(.ptr 1000000000 0))],[(1000000000,(.box 1000000000 [(.lst .tok ts),(.int .i64 p)]))]⟩
noncomputable def fr1 (fA:List UInt8) (mA:Bool) (gA:Int) (eA:List UInt8) (dA:Bool) (iA:Int) (aA:List Tok) (bA:Int):St U El:=⟨[(0,(.ptr 1000000000 0)),(2,(.ptr 2 0)),(3,(.ptr 3 0))],[(2,(.box 0 [(.str fA),(.bool mA),(.int .i64 gA)])),(3,(.box 0 [(.str eA),(.bool dA),(.int .i64 iA)])),(1000000000,(.box 1000000000 [(.lst .tok aA),(.int .i64 bA)]))]⟩
noncomputable def sh0 (ts:List Tok) (p:Int) (k1:Y1):R :=
 chk ((inb p (List.length ts)&&nle (List.length ts) 90000)) (condB (Res.ok (takeR ts p (1:Int) ([]:List UInt8))) (chk ((inb (Res.p (takeR ts p (1:Int) ([]:List UInt8))) (List.length ts)&&nle (List.length ts) 90000)) (condB (nextB ts (Res.p (takeR ts p (1:Int) ([]:List UInt8))) (3:Int) ([60]:List UInt8)) (k1 ([]:List UInt8) false (0:Int) (Res.v (takeR ts p (1:Int) ([]:List UInt8))) (nextB ts (Res.p (takeR ts p (1:Int) ([]:List UInt8))) (3:Int) ([60]:List UInt8)) (0:Int) ts (IntKind.wrap .i64 ((Res.p (takeR ts p (1:Int) ([]:List UInt8)))+(1:Int)))) (chk ((inb (Res.p (takeR ts p (1:Int) ([]:List UInt8))) (List.length ts)&&nle (List.length ts) 90000)) (condB (Res.ok (takeR ts (Res.p (takeR ts p (1:Int) ([]:List UInt8))) (3:Int) ([62,61]:List UInt8))) (k1 ([]:List UInt8) false (0:Int) (Res.v (takeR ts p (1:Int) ([]:List UInt8))) (nextB ts (Res.p (takeR ts p (1:Int) ([]:List UInt8))) (3:Int) ([60]:List UInt8)) (0:Int) ts (Res.p (takeR ts (Res.p (takeR ts p (1:Int) ([]:List UInt8))) (3:Int) ([62,61]:List UInt8)))) (some ((.agg [(.int .i64 (Tok.kl (tokAt ts (Res.p (takeR ts (Res.p (takeR ts p (1:Int) ([]:List UInt8))) (3:Int) ([62,61]:List UInt8)))))),(.int .i64 (Tok.kc (tokAt ts (Res.p (takeR ts (Res.p (takeR ts p (1:Int) ([]:List UInt8))) (3:Int) ([62,61]:List UInt8))))))]),panH 95)))))) (some ((.agg [(.int .i64 (Tok.kl (tokAt ts (Res.p (takeR ts p (1:Int) ([]:List UInt8)))))),(.int .i64 (Tok.kc (tokAt ts (Res.p (takeR ts p (1:Int) ([]:List UInt8))))))]),panH 95)))
noncomputable def sh1 (fA:List UInt8) (mA:Bool) (gA:Int) (eA:List UInt8) (dA:Bool) (iA:Int) (aA:List Tok) (bA:Int):R :=
 chk ((okT aA&&inb bA (List.length aA))) (condB (Res.ok (numR aA bA)) (some ((.agg [(.str eA),(.bool dA),(.int .i64 (Res.v (numR aA bA)))]),[(1000000000,(.box 1000000000 [(.lst .tok aA),(.int .i64 (Res.p (numR aA bA)))]))])) (some ((.agg [(.int .i64 (Tok.kl (tokAt aA (Res.p (numR aA bA))))),(.int .i64 (Tok.kc (tokAt aA (Res.p (numR aA bA)))))]),panH 95)))
noncomputable def ct1:Kont U El:=fun st=>exec X (cdp [1,1,1] bd) .d st RR (fun _ _=>none) RR
theorem P0 (ts p):exec X (cdp [] bd) (.seq none .d (.seq none .d (.seq (some nm1) .d .d))) (fr0 ts p) RR (fun _ _=>none) RR=sh0 ts p (fun y0 y1 y2 y3 y4 y5 y6 y7=>(hid ct1) (fr1 y0 y1 y2 y3 y4 y5 y6 y7)):=by kernel_rfl
theorem P1 (fA mA gA eA dA iA aA bA):ct1 (fr1 fA mA gA eA dA iA aA bA)=sh1 fA mA gA eA dA iA aA bA:=by kernel_rfl
noncomputable def f1 (fA:List UInt8) (mA:Bool) (gA:Int) (eA:List UInt8) (dA:Bool) (iA:Int) (aA:List Tok) (bA:Int):R:=sh1 fA mA gA eA dA iA aA bA
noncomputable def f0 (ts:List Tok) (p:Int):R:=sh0 ts p f1
theorem T1 (fA mA gA eA dA iA aA bA):(hid ct1) (fr1 fA mA gA eA dA iA aA bA)=f1 fA mA gA eA dA iA aA bA:=by
 refine (congrFun (hid_eq _) _).trans <| (P1 fA mA gA eA dA iA aA bA).trans ?_
 show _=sh1 fA mA gA eA dA iA aA bA
 rfl
theorem T0 (ts p):exec X bd (.seq none .d (.seq none .d (.seq (some nm1) .d .d))) (fr0 ts p) RR (fun _ _=>none) RR=f0 ts p:=by
 refine (P0 ts p).trans ?_
 show _=sh0 ts p f1
 simp only [T1]
theorem run (ts p):runPC X bd (.seq none .d (.seq none .d (.seq (some nm1) .d .d))) nmR [(2,78)] [25] [(1000000000,(.box 1000000000 [(.lst .tok ts),(.int .i64 p)]))] [(.ptr 1000000000 0)]=f0 ts p:=T0 ts p
theorem all_eq (ts:List Tok) (p:Int) (h:(okT ts && inb p (List.length ts))=true):f0 ts p=outS (fun c:Cnd=>.agg [.str c.cn,.bool c.cb,.int .i64 c.cl]) ts (cndR ts p):=by
 rw [Bool.and_eq_true] at h
 obtain ⟨ho,ha⟩:=h
 have ha:=inb_At.1 ha
 unfold cndR
 rw [outS_bd]
 show sh0 ts p f1=_
 unfold sh0
 rw [inpT ha ho]
 simp only [chkT]
 have ht:=takeR_fine (kd:=1) (x:=[]) ho ha (by decide)
 generalize takeR ts p 1 []=r at *
 cases hr:r.ok
 ·rfl
 ·simp only [condT]
  rw [outS_bd]
  have ha2:=ht.at_
  have hl:=(ha2.len ho).1
  rw [inpT ha2 ho]
  have hk1:∀ (x y:List UInt8) (b b':Bool) (z z' q:Int),At ts q→f1 x b z y b' z' ts q=outS (fun c:Cnd=>.agg [.str c.cn,.bool c.cb,.int .i64 c.cl]) ts ((numR ts q).bd d_cnd fun n q=>⟨true,⟨y,b',n⟩,q⟩):=fun x y b b' z z' q hq=>by
   show sh1 x b z y b' z' ts q=_
   unfold sh1
   rw [oktT hq ho,outS_bd]
   rfl
  simp only [chkT]
  have hs:=sgnR_fine ho ha2
  unfold sgnR at hs ⊢
  cases hn:nextB ts r.p 3 [60]
  ·rw [hn] at hs
   simp only [cond_false] at hs ⊢
   unfold Res.bd at hs ⊢
   have ht2:=takeR_fine (kd:=3) (x:=[62,61]) ho ha2 (by decide)
   generalize takeR ts r.p 3 [62,61]=r2 at *
   cases hr2:r2.ok
   ·rfl
   ·simp only [cond_true,condT,condF]
    rw [hk1 _ _ _ _ _ _ _ ht2.at_]
    rfl
  ·simp only [cond_true,condT]
   rw [ha2.wrap hl,hk1 _ _ _ _ _ _ _ (nextB_more ho ha2 (by decide) hn)]
theorem f0_T (ts:List Tok) (p:Int) (h:(okT ts&&inb p (List.length ts))=true) (hc:Res.ok (cndR ts p)=true):f0 ts p=some (.agg [.str (cndR ts p).v.cn,.bool (cndR ts p).v.cb,.int .i64 (cndR ts p).v.cl],rdB ts (cndR ts p).p):=(all_eq ts p h).trans (outS_T hc)
theorem f0_F (ts:List Tok) (p:Int) (h:(okT ts&&inb p (List.length ts))=true) (hc:Res.ok (cndR ts p)=false):f0 ts p=panO ts (cndR ts p).p:=(all_eq ts p h).trans (outS_F hc)
theorem ok:CtxOk Tryz.prog X:=ctxOk tab spN dpN
theorem okM:MOkG panR Tryz.prog X:=mspecOf_okG _ (mpCG (mcpSp_ok ok rdTake.spOk) (mpCG ((mcSp_ok ok rdNext.spOk).g) (mpCG (mcpSp_ok ok rdNumber.spOk) mpNG)))
theorem spec1 (ts:List Tok) (p:Int) (h:((okT ts&&inb p (List.length ts)))=true) (hc:(Res.ok (cndR ts p))=true):PMCall Tryz.prog E 88 [(.ptr 1000000000 0)] [(1000000000,(.box 1000000000 [(.lst .tok ts),(.int .i64 p)]))] (.agg [(.str ((Res.v (cndR ts p)).cn)),(.bool ((Res.v (cndR ts p)).cb)),(.int .i64 ((Res.v (cndR ts p)).cl))]) [(1000000000,(.box 1000000000 [(.lst .tok ts),(.int .i64 (Res.p (cndR ts p)))]))] :=
 runPC_sound ok okM Tryz.func88 (by kernel_rfl) (by kernel_rfl) (by kernel_rfl) (by show 1≤25; decide) ((run ts p).trans (f0_T ts p h hc))
theorem spec2 (ts:List Tok) (p:Int) (h:((okT ts&&inb p (List.length ts)))=true) (hc:(Res.ok (cndR ts p))=false):PMCall Tryz.prog E 88 [(.ptr 1000000000 0)] [(1000000000,(.box 1000000000 [(.lst .tok ts),(.int .i64 p)]))] (.agg [(.int .i64 (Tok.kl (tokAt ts (Res.p (cndR ts p))))),(.int .i64 (Tok.kc (tokAt ts (Res.p (cndR ts p)))))]) (panH 95) :=
 runPC_sound ok okM Tryz.func88 (by kernel_rfl) (by kernel_rfl) (by kernel_rfl) (by show 1≤25; decide) ((run ts p).trans (f0_F ts p h hc))
noncomputable def sp:MSp U El:=fun args hs k=>match args,hs with
 | [.ptr q0 0],[(q1,.box q2 [.lst .tok ts,.int .i64 p])]=>chk (Nat.beq q0 1000000000&&(Nat.beq q1 1000000000&&(Nat.beq q2 1000000000&&true))) (chk ((okT ts&&inb p (List.length ts))) (condB (Res.ok (cndR ts p)) (k (.agg [(.str ((Res.v (cndR ts p)).cn)),(.bool ((Res.v (cndR ts p)).cb)),(.int .i64 ((Res.v (cndR ts p)).cl))]) [(1000000000,(.box 1000000000 [(.lst .tok ts),(.int .i64 (Res.p (cndR ts p)))]))]) (k (.agg [(.int .i64 (Tok.kl (tokAt ts (Res.p (cndR ts p))))),(.int .i64 (Tok.kc (tokAt ts (Res.p (cndR ts p)))))]) (panH 95))))
 | _,_=>none
theorem spOk:PSpOk Tryz.prog E 88 sp:=⟨Tryz.call88,fun args hs k r h=>by
 unfold sp at h
 split at h
 ·obtain ⟨hq,hA⟩:=chk_some h
  clear h
  simp only [Bool.and_eq_true] at hq
  obtain ⟨e0,e1,e2,_⟩:=hq
  cases Nat.eq_of_beq_eq_true e0
  cases Nat.eq_of_beq_eq_true e1
  cases Nat.eq_of_beq_eq_true e2
  obtain ⟨h1,hB⟩:=chk_some hA
  rcases condB_some hB with ⟨h2,h⟩ | ⟨h2,h⟩
  ·exact ⟨_,_,spec1 _ _ h1 h2,h⟩
  ·exact ⟨_,_,spec2 _ _ h1 h2,h⟩
 ·cases h⟩
end rdCond
noncomputable def encR (r:Rule):AV U El:=.agg [.str r.rn,.lst .cnd r.rw,.str r.rl,.int .i64 r.rs]
noncomputable def tailR (ts:List Tok) (nm:List UInt8) (w:List Cnd) (p:Int):Res Rule :=
 (takeR ts p 1 [115,101,116]).bd d_rule fun _ p=>(takeR ts p 1 []).bd d_rule fun lk p=>(takeR ts p 1 [116,111]).bd d_rule fun _ p=>(numR ts p).bd d_rule fun s p=>(takeR ts p 4 []).bd d_rule fun _ p=>⟨true,⟨nm,w,lk,s⟩,p⟩
theorem tailR_fine {ts:List Tok} {nm:List UInt8} {w:List Cnd} {p:Int} (ho:okT ts=true) (h:At ts p):Fine ts p (tailR ts nm w p) :=
 (takeR_fine ho h (by decide)).bd fun _ h=>(takeR_fine ho h (by decide)).bd fun _ h=>(takeR_fine ho h (by decide)).bd fun _ h=>(numR_fine ho h).bd fun _ h=>(takeR_fine (kd:=4) ho h (by decide)).bdE
theorem whenR_fine {ts:List Tok} {p:Int} (ho:okT ts=true) (h:At ts p):p≤(whenR ts p).p∧At ts (whenR ts p).p:=by
  unfold whenR
  cases hn:nextB ts p 1 [119,104,101,110] with
  | false=>exact ⟨Int.le_refl _,h⟩
  | true =>
    have:=cndsR_fine ho (ts.length+1) p [] (nextB_more ho h (by decide) hn) h.1 (by have:=h.1; simp only [Int.ofNat_eq_natCast]; omega)
    exact ⟨this.up,this.at_⟩
theorem rulR_fine {ts:List Tok} {p:Int} (ho:okT ts=true) (h:At ts p):Fine ts p (rulR ts p):=by
  refine (takeR_fine ho h (by decide)).bd fun _ h=>(takeR_fine ho h (by decide)).bd fun _ h=>?_
  have hw:=whenR_fine ho h
  unfold Res.bd
  cases hr:(whenR ts (takeR ts (takeR ts p 1 [114,117,108,101]).p 1 []).p).ok with
  | false=>exact ⟨hw.1,hw.2,fun h=>by cases h⟩
  | true =>
    have:=tailR_fine (nm:=(takeR ts (takeR ts p 1 [114,117,108,101]).p 1 []).v) (w:=(whenR ts (takeR ts (takeR ts p 1 [114,117,108,101]).p 1 []).p).v) ho hw.2
    have h1:=this.up
    exact ⟨by have:=hw.1; exact Int.le_trans this h1,this.at_,fun hk=>by have h2:=this.step hk; exact Int.lt_of_le_of_lt hw.1 h2⟩
namespace rdRule
noncomputable def bd:Code:=(Tryz.f45.body).getD .skip
noncomputable def X:Ctx U El:=⟨E,tds,zeros,eqs,specOf [],100000,42,dspecOf [],mspecOf [(86,(mcpSp panR rdTake.sp)),(87,(mcSp rdNext.sp)),(88,(mcpSp panR rdCond.sp)),(89,(mcpSp panR rdNumber.sp))],fun _=>none⟩
noncomputable def nmR:Norm U:=⟨[],[42],[1000000000],[],[],[(42,1,.cnd)],[]⟩
noncomputable def RR:Kont U El:=fun st=>loadRes X 42 [(2,51)] 42 st fun st=>normK nmR st (retP [42])
noncomputable def nm1:Norm U:=⟨[],[0,2,3],[2,3,1000000000,500000301],[],[(3,1,.cnd,500000301)],[],[(1000000000,0,.tok)]⟩
noncomputable def nm2:Norm U:=⟨[],[0,2,3,4],[2,3,1000000000,500000301],[],[(3,1,.cnd,500000301)],[],[(1000000000,0,.tok)]⟩
abbrev Y1:=(List UInt8)→(List UInt8)→Int→(List UInt8)→(List Cnd)→(List UInt8)→Int→(List Tok)→Int→R
abbrev Y2:=Bool→(List UInt8)→(List UInt8)→Int→(List UInt8)→(List Cnd)→(List UInt8)→Int→(List Tok)→Int→R
noncomputable def fr0 (ts:List Tok) (p:Int):St U El:=⟨[(0,(.ptr 1000000000 0))],[(1000000000,(.box 1000000000 [(.lst .tok ts),(.int .i64 p)]))]⟩
noncomputable def fr1 (fA:List UInt8) (gA:List UInt8) (jA:Int) (eA:List UInt8) (dA:List Cnd) (iA:List UInt8) (kA:Int) (aA:List Tok) (bA:Int):St U El:=⟨[(0,(.ptr 1000000000 0)),(2,(.ptr 2 0)),(3,(.ptr 3 0))],[(2,(.box 0 [(.str fA),.nils,(.str gA),(.int .i64 jA)])),(3,(.box 0 [(.str eA),(.ful 500000301),(.str iA),(.int .i64 kA)])),(1000000000,(.box 1000000000 [(.lst .tok aA),(.int .i64 bA)])),(500000301,(.rows .cnd dA))]⟩
noncomputable def fr2 (lA:Bool) (fA:List UInt8) (gA:List UInt8) (jA:Int) (eA:List UInt8) (dA:List Cnd) (iA:List UInt8) (kA:Int) (aA:List Tok) (bA:Int):St U El:=⟨[(0,(.ptr 1000000000 0)),(2,(.ptr 2 0)),(3,(.ptr 3 0)),(4,(.bool lA))],[(2,(.box 0 [(.str fA),.nils,(.str gA),(.int .i64 jA)])),(3,(.box 0 [(.str eA),(.ful 500000301),(.str iA),(.int .i64 kA)])),(1000000000,(.box 1000000000 [(.lst .tok aA),(.int .i64 bA)])),(500000301,(.rows .cnd dA))]⟩
noncomputable def sh0 (ts:List Tok) (p:Int) (k1:Y1) (k2:Y2):R :=
 chk ((inb p (List.length ts)&&nle (List.length ts) 90000)) (condB (Res.ok (takeR ts p (1:Int) ([114,117,108,101]:List UInt8))) (chk ((inb (Res.p (takeR ts p (1:Int) ([114,117,108,101]:List UInt8))) (List.length ts)&&nle (List.length ts) 90000)) (condB (Res.ok (takeR ts (Res.p (takeR ts p (1:Int) ([114,117,108,101]:List UInt8))) (1:Int) ([]:List UInt8))) (chk ((inb (Res.p (takeR ts (Res.p (takeR ts p (1:Int) ([114,117,108,101]:List UInt8))) (1:Int) ([]:List UInt8))) (List.length ts)&&nle (List.length ts) 90000)) (condB (nextB ts (Res.p (takeR ts (Res.p (takeR ts p (1:Int) ([114,117,108,101]:List UInt8))) (1:Int) ([]:List UInt8))) (1:Int) ([119,104,101,110]:List UInt8)) (k2 true ([]:List UInt8) ([]:List UInt8) (0:Int) (Res.v (takeR ts (Res.p (takeR ts p (1:Int) ([114,117,108,101]:List UInt8))) (1:Int) ([]:List UInt8))) ([]:List Cnd) ([]:List UInt8) (0:Int) ts (Res.p (takeR ts (Res.p (takeR ts p (1:Int) ([114,117,108,101]:List UInt8))) (1:Int) ([]:List UInt8)))) (k1 ([]:List UInt8) ([]:List UInt8) (0:Int) (Res.v (takeR ts (Res.p (takeR ts p (1:Int) ([114,117,108,101]:List UInt8))) (1:Int) ([]:List UInt8))) ([]:List Cnd) ([]:List UInt8) (0:Int) ts (Res.p (takeR ts (Res.p (takeR ts p (1:Int) ([114,117,108,101]:List UInt8))) (1:Int) ([]:List UInt8)))))) (some ((.agg [(.int .i64 (Tok.kl (tokAt ts (Res.p (takeR ts (Res.p (takeR ts p (1:Int) ([114,117,108,101]:List UInt8))) (1:Int) ([]:List UInt8)))))),(.int .i64 (Tok.kc (tokAt ts (Res.p (takeR ts (Res.p (takeR ts p (1:Int) ([114,117,108,101]:List UInt8))) (1:Int) ([]:List UInt8))))))]),panH 95)))) (some ((.agg [(.int .i64 (Tok.kl (tokAt ts (Res.p (takeR ts p (1:Int) ([114,117,108,101]:List UInt8)))))),(.int .i64 (Tok.kc (tokAt ts (Res.p (takeR ts p (1:Int) ([114,117,108,101]:List UInt8))))))]),panH 95)))
noncomputable def sh1 (fA:List UInt8) (gA:List UInt8) (jA:Int) (eA:List UInt8) (dA:List Cnd) (iA:List UInt8) (kA:Int) (aA:List Tok) (bA:Int):R :=
 chk ((inb bA (List.length aA)&&nle (List.length aA) 90000)) (condB (Res.ok (takeR aA bA (1:Int) ([115,101,116]:List UInt8))) (chk ((inb (Res.p (takeR aA bA (1:Int) ([115,101,116]:List UInt8))) (List.length aA)&&nle (List.length aA) 90000)) (condB (Res.ok (takeR aA (Res.p (takeR aA bA (1:Int) ([115,101,116]:List UInt8))) (1:Int) ([]:List UInt8))) (chk ((inb (Res.p (takeR aA (Res.p (takeR aA bA (1:Int) ([115,101,116]:List UInt8))) (1:Int) ([]:List UInt8))) (List.length aA)&&nle (List.length aA) 90000)) (condB (Res.ok (takeR aA (Res.p (takeR aA (Res.p (takeR aA bA (1:Int) ([115,101,116]:List UInt8))) (1:Int) ([]:List UInt8))) (1:Int) ([116,111]:List UInt8))) (chk ((okT aA&&inb (Res.p (takeR aA (Res.p (takeR aA (Res.p (takeR aA bA (1:Int) ([115,101,116]:List UInt8))) (1:Int) ([]:List UInt8))) (1:Int) ([116,111]:List UInt8))) (List.length aA))) (condB (Res.ok (numR aA (Res.p (takeR aA (Res.p (takeR aA (Res.p (takeR aA bA (1:Int) ([115,101,116]:List UInt8))) (1:Int) ([]:List UInt8))) (1:Int) ([116,111]:List UInt8))))) (chk ((inb (Res.p (numR aA (Res.p (takeR aA (Res.p (takeR aA (Res.p (takeR aA bA (1:Int) ([115,101,116]:List UInt8))) (1:Int) ([]:List UInt8))) (1:Int) ([116,111]:List UInt8))))) (List.length aA)&&nle (List.length aA) 90000)) (condB (Res.ok (takeR aA (Res.p (numR aA (Res.p (takeR aA (Res.p (takeR aA (Res.p (takeR aA bA (1:Int) ([115,101,116]:List UInt8))) (1:Int) ([]:List UInt8))) (1:Int) ([116,111]:List UInt8))))) (4:Int) ([]:List UInt8))) (some ((.agg [(.str eA),(.lst .cnd dA),(.str (Res.v (takeR aA (Res.p (takeR aA bA (1:Int) ([115,101,116]:List UInt8))) (1:Int) ([]:List UInt8)))),(.int .i64 (Res.v (numR aA (Res.p (takeR aA (Res.p (takeR aA (Res.p (takeR aA bA (1:Int) ([115,101,116]:List UInt8))) (1:Int) ([]:List UInt8))) (1:Int) ([116,111]:List UInt8))))))]),[(1000000000,(.box 1000000000 [(.lst .tok aA),(.int .i64 (Res.p (takeR aA (Res.p (numR aA (Res.p (takeR aA (Res.p (takeR aA (Res.p (takeR aA bA (1:Int) ([115,101,116]:List UInt8))) (1:Int) ([]:List UInt8))) (1:Int) ([116,111]:List UInt8))))) (4:Int) ([]:List UInt8))))]))])) (some ((.agg [(.int .i64 (Tok.kl (tokAt aA (Res.p (takeR aA (Res.p (numR aA (Res.p (takeR aA (Res.p (takeR aA (Res.p (takeR aA bA (1:Int) ([115,101,116]:List UInt8))) (1:Int) ([]:List UInt8))) (1:Int) ([116,111]:List UInt8))))) (4:Int) ([]:List UInt8)))))),(.int .i64 (Tok.kc (tokAt aA (Res.p (takeR aA (Res.p (numR aA (Res.p (takeR aA (Res.p (takeR aA (Res.p (takeR aA bA (1:Int) ([115,101,116]:List UInt8))) (1:Int) ([]:List UInt8))) (1:Int) ([116,111]:List UInt8))))) (4:Int) ([]:List UInt8))))))]),panH 95)))) (some ((.agg [(.int .i64 (Tok.kl (tokAt aA (Res.p (numR aA (Res.p (takeR aA (Res.p (takeR aA (Res.p (takeR aA bA (1:Int) ([115,101,116]:List UInt8))) (1:Int) ([]:List UInt8))) (1:Int) ([116,111]:List UInt8)))))))),(.int .i64 (Tok.kc (tokAt aA (Res.p (numR aA (Res.p (takeR aA (Res.p (takeR aA (Res.p (takeR aA bA (1:Int) ([115,101,116]:List UInt8))) (1:Int) ([]:List UInt8))) (1:Int) ([116,111]:List UInt8))))))))]),panH 95)))) (some ((.agg [(.int .i64 (Tok.kl (tokAt aA (Res.p (takeR aA (Res.p (takeR aA (Res.p (takeR aA bA (1:Int) ([115,101,116]:List UInt8))) (1:Int) ([]:List UInt8))) (1:Int) ([116,111]:List UInt8)))))),(.int .i64 (Tok.kc (tokAt aA (Res.p (takeR aA (Res.p (takeR aA (Res.p (takeR aA bA (1:Int) ([115,101,116]:List UInt8))) (1:Int) ([]:List UInt8))) (1:Int) ([116,111]:List UInt8))))))]),panH 95)))) (some ((.agg [(.int .i64 (Tok.kl (tokAt aA (Res.p (takeR aA (Res.p (takeR aA bA (1:Int) ([115,101,116]:List UInt8))) (1:Int) ([]:List UInt8)))))),(.int .i64 (Tok.kc (tokAt aA (Res.p (takeR aA (Res.p (takeR aA bA (1:Int) ([115,101,116]:List UInt8))) (1:Int) ([]:List UInt8))))))]),panH 95)))) (some ((.agg [(.int .i64 (Tok.kl (tokAt aA (Res.p (takeR aA bA (1:Int) ([115,101,116]:List UInt8)))))),(.int .i64 (Tok.kc (tokAt aA (Res.p (takeR aA bA (1:Int) ([115,101,116]:List UInt8))))))]),panH 95)))
noncomputable def sh2A (lA:Bool) (fA:List UInt8) (gA:List UInt8) (jA:Int) (eA:List UInt8) (dA:List Cnd) (iA:List UInt8) (kA:Int) (aA:List Tok) (bA:Int) (k1:Y1) (k2:Y2):R :=
 condB lA (amb (amb (chk ((okT aA&&inb (IntKind.wrap .i64 (bA+(1:Int))) (List.length aA))) (condB (Res.ok (cndR aA (IntKind.wrap .i64 (bA+(1:Int))))) (chk (nle ((List.length dA+List.length ([(Res.v (cndR aA (IntKind.wrap .i64 (bA+(1:Int)))))]:List Cnd)) * 32) 140737488355328&&nle (List.length dA+List.length ([(Res.v (cndR aA (IntKind.wrap .i64 (bA+(1:Int)))))]:List Cnd)) 9223372036854775807) (chk ((inb (Res.p (cndR aA (IntKind.wrap .i64 (bA+(1:Int))))) (List.length aA)&&nle (List.length aA) 90000)) (k2 (nextB aA (Res.p (cndR aA (IntKind.wrap .i64 (bA+(1:Int))))) (1:Int) ([97,110,100]:List UInt8)) fA gA jA eA (dA++([(Res.v (cndR aA (IntKind.wrap .i64 (bA+(1:Int)))))]:List Cnd)) iA kA aA (Res.p (cndR aA (IntKind.wrap .i64 (bA+(1:Int)))))))) (some ((.agg [(.int .i64 (Tok.kl (tokAt aA (Res.p (cndR aA (IntKind.wrap .i64 (bA+(1:Int)))))))),(.int .i64 (Tok.kc (tokAt aA (Res.p (cndR aA (IntKind.wrap .i64 (bA+(1:Int))))))))]),panH 95)))) (amb (chk ((okT aA&&inb (IntKind.wrap .i64 (bA+(1:Int))) (List.length aA))) (condB (Res.ok (cndR aA (IntKind.wrap .i64 (bA+(1:Int))))) (chk (nle ((List.length dA+List.length ([(Res.v (cndR aA (IntKind.wrap .i64 (bA+(1:Int)))))]:List Cnd)) * 32) 140737488355328&&nle (List.length dA+List.length ([(Res.v (cndR aA (IntKind.wrap .i64 (bA+(1:Int)))))]:List Cnd)) 9223372036854775807) (chk ((inb (Res.p (cndR aA (IntKind.wrap .i64 (bA+(1:Int))))) (List.length aA)&&nle (List.length aA) 90000)) (k2 (nextB aA (Res.p (cndR aA (IntKind.wrap .i64 (bA+(1:Int))))) (1:Int) ([97,110,100]:List UInt8)) fA gA jA eA (dA++([(Res.v (cndR aA (IntKind.wrap .i64 (bA+(1:Int)))))]:List Cnd)) iA kA aA (Res.p (cndR aA (IntKind.wrap .i64 (bA+(1:Int)))))))) (some ((.agg [(.int .i64 (Tok.kl (tokAt aA (Res.p (cndR aA (IntKind.wrap .i64 (bA+(1:Int)))))))),(.int .i64 (Tok.kc (tokAt aA (Res.p (cndR aA (IntKind.wrap .i64 (bA+(1:Int))))))))]),panH 95)))) (chk ((okT aA&&inb (IntKind.wrap .i64 (bA+(1:Int))) (List.length aA))) (condB (Res.ok (cndR aA (IntKind.wrap .i64 (bA+(1:Int))))) (amb (chk (nle ((List.length dA+List.length ([(Res.v (cndR aA (IntKind.wrap .i64 (bA+(1:Int)))))]:List Cnd)) * 32) 140737488355328&&nle (List.length dA+List.length ([(Res.v (cndR aA (IntKind.wrap .i64 (bA+(1:Int)))))]:List Cnd)) 9223372036854775807) (chk ((inb (Res.p (cndR aA (IntKind.wrap .i64 (bA+(1:Int))))) (List.length aA)&&nle (List.length aA) 90000)) (k2 (nextB aA (Res.p (cndR aA (IntKind.wrap .i64 (bA+(1:Int))))) (1:Int) ([97,110,100]:List UInt8)) fA gA jA eA (dA++([(Res.v (cndR aA (IntKind.wrap .i64 (bA+(1:Int)))))]:List Cnd)) iA kA aA (Res.p (cndR aA (IntKind.wrap .i64 (bA+(1:Int)))))))) (chk (nle ((List.length dA+List.length ([(Res.v (cndR aA (IntKind.wrap .i64 (bA+(1:Int)))))]:List Cnd)) * 32) 140737488355328&&nle (List.length dA+List.length ([(Res.v (cndR aA (IntKind.wrap .i64 (bA+(1:Int)))))]:List Cnd)) 9223372036854775807) (chk ((inb (Res.p (cndR aA (IntKind.wrap .i64 (bA+(1:Int))))) (List.length aA)&&nle (List.length aA) 90000)) (k2 (nextB aA (Res.p (cndR aA (IntKind.wrap .i64 (bA+(1:Int))))) (1:Int) ([97,110,100]:List UInt8)) fA gA jA eA (dA++([(Res.v (cndR aA (IntKind.wrap .i64 (bA+(1:Int)))))]:List Cnd)) iA kA aA (Res.p (cndR aA (IntKind.wrap .i64 (bA+(1:Int))))))))) (some ((.agg [(.int .i64 (Tok.kl (tokAt aA (Res.p (cndR aA (IntKind.wrap .i64 (bA+(1:Int)))))))),(.int .i64 (Tok.kc (tokAt aA (Res.p (cndR aA (IntKind.wrap .i64 (bA+(1:Int))))))))]),panH 95)))))) (amb (amb (chk ((okT aA&&inb (IntKind.wrap .i64 (bA+(1:Int))) (List.length aA))) (condB (Res.ok (cndR aA (IntKind.wrap .i64 (bA+(1:Int))))) (chk (nle ((List.length dA+List.length ([(Res.v (cndR aA (IntKind.wrap .i64 (bA+(1:Int)))))]:List Cnd)) * 32) 140737488355328&&nle (List.length dA+List.length ([(Res.v (cndR aA (IntKind.wrap .i64 (bA+(1:Int)))))]:List Cnd)) 9223372036854775807) (chk ((inb (Res.p (cndR aA (IntKind.wrap .i64 (bA+(1:Int))))) (List.length aA)&&nle (List.length aA) 90000)) (k2 (nextB aA (Res.p (cndR aA (IntKind.wrap .i64 (bA+(1:Int))))) (1:Int) ([97,110,100]:List UInt8)) fA gA jA eA (dA++([(Res.v (cndR aA (IntKind.wrap .i64 (bA+(1:Int)))))]:List Cnd)) iA kA aA (Res.p (cndR aA (IntKind.wrap .i64 (bA+(1:Int)))))))) (some ((.agg [(.int .i64 (Tok.kl (tokAt aA (Res.p (cndR aA (IntKind.wrap .i64 (bA+(1:Int)))))))),(.int .i64 (Tok.kc (tokAt aA (Res.p (cndR aA (IntKind.wrap .i64 (bA+(1:Int))))))))]),panH 95)))) (chk ((okT aA&&inb (IntKind.wrap .i64 (bA+(1:Int))) (List.length aA))) (condB (Res.ok (cndR aA (IntKind.wrap .i64 (bA+(1:Int))))) (amb (chk (nle ((List.length dA+List.length ([(Res.v (cndR aA (IntKind.wrap .i64 (bA+(1:Int)))))]:List Cnd)) * 32) 140737488355328&&nle (List.length dA+List.length ([(Res.v (cndR aA (IntKind.wrap .i64 (bA+(1:Int)))))]:List Cnd)) 9223372036854775807) (chk ((inb (Res.p (cndR aA (IntKind.wrap .i64 (bA+(1:Int))))) (List.length aA)&&nle (List.length aA) 90000)) (k2 (nextB aA (Res.p (cndR aA (IntKind.wrap .i64 (bA+(1:Int))))) (1:Int) ([97,110,100]:List UInt8)) fA gA jA eA (dA++([(Res.v (cndR aA (IntKind.wrap .i64 (bA+(1:Int)))))]:List Cnd)) iA kA aA (Res.p (cndR aA (IntKind.wrap .i64 (bA+(1:Int)))))))) (chk (nle ((List.length dA+List.length ([(Res.v (cndR aA (IntKind.wrap .i64 (bA+(1:Int)))))]:List Cnd)) * 32) 140737488355328&&nle (List.length dA+List.length ([(Res.v (cndR aA (IntKind.wrap .i64 (bA+(1:Int)))))]:List Cnd)) 9223372036854775807) (chk ((inb (Res.p (cndR aA (IntKind.wrap .i64 (bA+(1:Int))))) (List.length aA)&&nle (List.length aA) 90000)) (k2 (nextB aA (Res.p (cndR aA (IntKind.wrap .i64 (bA+(1:Int))))) (1:Int) ([97,110,100]:List UInt8)) fA gA jA eA (dA++([(Res.v (cndR aA (IntKind.wrap .i64 (bA+(1:Int)))))]:List Cnd)) iA kA aA (Res.p (cndR aA (IntKind.wrap .i64 (bA+(1:Int))))))))) (some ((.agg [(.int .i64 (Tok.kl (tokAt aA (Res.p (cndR aA (IntKind.wrap .i64 (bA+(1:Int)))))))),(.int .i64 (Tok.kc (tokAt aA (Res.p (cndR aA (IntKind.wrap .i64 (bA+(1:Int))))))))]),panH 95))))) (chk ((okT aA&&inb (IntKind.wrap .i64 (bA+(1:Int))) (List.length aA))) (condB (Res.ok (cndR aA (IntKind.wrap .i64 (bA+(1:Int))))) (amb (amb (chk (nle ((List.length dA+List.length ([(Res.v (cndR aA (IntKind.wrap .i64 (bA+(1:Int)))))]:List Cnd)) * 32) 140737488355328&&nle (List.length dA+List.length ([(Res.v (cndR aA (IntKind.wrap .i64 (bA+(1:Int)))))]:List Cnd)) 9223372036854775807) (chk ((inb (Res.p (cndR aA (IntKind.wrap .i64 (bA+(1:Int))))) (List.length aA)&&nle (List.length aA) 90000)) (k2 (nextB aA (Res.p (cndR aA (IntKind.wrap .i64 (bA+(1:Int))))) (1:Int) ([97,110,100]:List UInt8)) fA gA jA eA (dA++([(Res.v (cndR aA (IntKind.wrap .i64 (bA+(1:Int)))))]:List Cnd)) iA kA aA (Res.p (cndR aA (IntKind.wrap .i64 (bA+(1:Int)))))))) (chk (nle ((List.length dA+List.length ([(Res.v (cndR aA (IntKind.wrap .i64 (bA+(1:Int)))))]:List Cnd)) * 32) 140737488355328&&nle (List.length dA+List.length ([(Res.v (cndR aA (IntKind.wrap .i64 (bA+(1:Int)))))]:List Cnd)) 9223372036854775807) (chk ((inb (Res.p (cndR aA (IntKind.wrap .i64 (bA+(1:Int))))) (List.length aA)&&nle (List.length aA) 90000)) (k2 (nextB aA (Res.p (cndR aA (IntKind.wrap .i64 (bA+(1:Int))))) (1:Int) ([97,110,100]:List UInt8)) fA gA jA eA (dA++([(Res.v (cndR aA (IntKind.wrap .i64 (bA+(1:Int)))))]:List Cnd)) iA kA aA (Res.p (cndR aA (IntKind.wrap .i64 (bA+(1:Int))))))))) (chk (nle ((List.length dA+List.length ([(Res.v (cndR aA (IntKind.wrap .i64 (bA+(1:Int)))))]:List Cnd)) * 32) 140737488355328&&nle (List.length dA+List.length ([(Res.v (cndR aA (IntKind.wrap .i64 (bA+(1:Int)))))]:List Cnd)) 9223372036854775807) (chk ((inb (Res.p (cndR aA (IntKind.wrap .i64 (bA+(1:Int))))) (List.length aA)&&nle (List.length aA) 90000)) (k2 (nextB aA (Res.p (cndR aA (IntKind.wrap .i64 (bA+(1:Int))))) (1:Int) ([97,110,100]:List UInt8)) fA gA jA eA (dA++([(Res.v (cndR aA (IntKind.wrap .i64 (bA+(1:Int)))))]:List Cnd)) iA kA aA (Res.p (cndR aA (IntKind.wrap .i64 (bA+(1:Int))))))))) (some ((.agg [(.int .i64 (Tok.kl (tokAt aA (Res.p (cndR aA (IntKind.wrap .i64 (bA+(1:Int)))))))),(.int .i64 (Tok.kc (tokAt aA (Res.p (cndR aA (IntKind.wrap .i64 (bA+(1:Int))))))))]),panH 95)))))) (k1 fA gA jA eA dA iA kA aA bA)
noncomputable def sh2 (lA:Bool) (fA:List UInt8) (gA:List UInt8) (jA:Int) (eA:List UInt8) (dA:List Cnd) (iA:List UInt8) (kA:Int) (aA:List Tok) (bA:Int) (k1:Y1) (k2:Y2):R :=
 condB lA (chk ((okT aA&&inb (IntKind.wrap .i64 (bA+(1:Int))) (List.length aA))) (condB (Res.ok (cndR aA (IntKind.wrap .i64 (bA+(1:Int))))) (chk (nle ((List.length dA+List.length ([(Res.v (cndR aA (IntKind.wrap .i64 (bA+(1:Int)))))]:List Cnd)) * 32) 140737488355328&&nle (List.length dA+List.length ([(Res.v (cndR aA (IntKind.wrap .i64 (bA+(1:Int)))))]:List Cnd)) 9223372036854775807) (chk ((inb (Res.p (cndR aA (IntKind.wrap .i64 (bA+(1:Int))))) (List.length aA)&&nle (List.length aA) 90000)) (k2 (nextB aA (Res.p (cndR aA (IntKind.wrap .i64 (bA+(1:Int))))) (1:Int) ([97,110,100]:List UInt8)) fA gA jA eA (dA++([(Res.v (cndR aA (IntKind.wrap .i64 (bA+(1:Int)))))]:List Cnd)) iA kA aA (Res.p (cndR aA (IntKind.wrap .i64 (bA+(1:Int)))))))) (some ((.agg [(.int .i64 (Tok.kl (tokAt aA (Res.p (cndR aA (IntKind.wrap .i64 (bA+(1:Int)))))))),(.int .i64 (Tok.kc (tokAt aA (Res.p (cndR aA (IntKind.wrap .i64 (bA+(1:Int))))))))]),panH 95)))) (k1 fA gA jA eA dA iA kA aA bA)
theorem sh2E (lA:Bool) (fA:List UInt8) (gA:List UInt8) (jA:Int) (eA:List UInt8) (dA:List Cnd) (iA:List UInt8) (kA:Int) (aA:List Tok) (bA:Int) (k1:Y1) (k2:Y2):sh2A lA fA gA jA eA dA iA kA aA bA k1 k2=sh2 lA fA gA jA eA dA iA kA aA bA k1 k2:=by
 unfold sh2A sh2
 simp only [amb_same]
noncomputable def it2 (Kb1:Kont U El) (n:Nat):Kont U El:=iter nm2 (fun st' K'=>exec X (cdp [1,1,1,0,1,0,1,0,0] bd) (.seq none .d (.seq none (.block (.seq none .d .regionA)) .d)) st' K' (Eblk 0 (cutK nm1 Kb1) (fun _ _=>none)) RR) n
noncomputable def ct1:Kont U El:=fun st=>exec X (cdp [1,1,1,1] bd) .d st RR (fun _ _=>none) RR
theorem P0 (ts p):exec X (cdp [] bd) (.seq none .d (.seq none .d (.seq none .d (.seq (some nm1) (.seq none .d (.cond (.seq none .d (.block (.loop nm2 (.seq none .d (.seq none (.block (.seq none .d .regionA)) .d))))) .d)) .d)))) (fr0 ts p) RR (fun _ _=>none) RR=sh0 ts p (fun y0 y1 y2 y3 y4 y5 y6 y7 y8=>(hid ct1) (fr1 y0 y1 y2 y3 y4 y5 y6 y7 y8)) (fun y0 y1 y2 y3 y4 y5 y6 y7 y8 y9=>(hid (it2 (hid ct1) 100000)) (fr2 y0 y1 y2 y3 y4 y5 y6 y7 y8 y9)):=by kernel_rfl
theorem P1 (fA gA jA eA dA iA kA aA bA):ct1 (fr1 fA gA jA eA dA iA kA aA bA)=sh1 fA gA jA eA dA iA kA aA bA:=by kernel_rfl
theorem P2 (lA fA gA jA eA dA iA kA aA bA) (Kb1 Kb2:Kont U El):exec X (cdp [1,1,1,0,1,0,1,0,0] bd) (.seq none .d (.seq none (.block (.seq none .d .regionA)) .d)) (fr2 lA fA gA jA eA dA iA kA aA bA) (cutK nm2 Kb2) (Eblk 0 (cutK nm1 Kb1) (fun _ _=>none)) RR=sh2 lA fA gA jA eA dA iA kA aA bA (fun y0 y1 y2 y3 y4 y5 y6 y7 y8=>Kb1 (fr1 y0 y1 y2 y3 y4 y5 y6 y7 y8)) (fun y0 y1 y2 y3 y4 y5 y6 y7 y8 y9=>Kb2 (fr2 y0 y1 y2 y3 y4 y5 y6 y7 y8 y9)):=(by kernel_rfl:_=sh2A lA fA gA jA eA dA iA kA aA bA (fun y0 y1 y2 y3 y4 y5 y6 y7 y8=>Kb1 (fr1 y0 y1 y2 y3 y4 y5 y6 y7 y8)) (fun y0 y1 y2 y3 y4 y5 y6 y7 y8 y9=>Kb2 (fr2 y0 y1 y2 y3 y4 y5 y6 y7 y8 y9))).trans (sh2E lA fA gA jA eA dA iA kA aA bA (fun y0 y1 y2 y3 y4 y5 y6 y7 y8=>Kb1 (fr1 y0 y1 y2 y3 y4 y5 y6 y7 y8)) (fun y0 y1 y2 y3 y4 y5 y6 y7 y8 y9=>Kb2 (fr2 y0 y1 y2 y3 y4 y5 y6 y7 y8 y9)))
noncomputable def f1 (fA:List UInt8) (gA:List UInt8) (jA:Int) (eA:List UInt8) (dA:List Cnd) (iA:List UInt8) (kA:Int) (aA:List Tok) (bA:Int):R:=sh1 fA gA jA eA dA iA kA aA bA
noncomputable def f2:Nat→Y2
 | 0=>fun _ _ _ _ _ _ _ _ _ _=>none
 | n+1=>fun lA fA gA jA eA dA iA kA aA bA=>sh2 lA fA gA jA eA dA iA kA aA bA f1 (f2 n)
noncomputable def f0 (ts:List Tok) (p:Int):R:=sh0 ts p f1 (f2 100000)
theorem T1 (fA gA jA eA dA iA kA aA bA):(hid ct1) (fr1 fA gA jA eA dA iA kA aA bA)=f1 fA gA jA eA dA iA kA aA bA:=by
 refine (congrFun (hid_eq _) _).trans <| (P1 fA gA jA eA dA iA kA aA bA).trans ?_
 show _=sh1 fA gA jA eA dA iA kA aA bA
 rfl
theorem T2:∀ (n:Nat),∀ lA fA gA jA eA dA iA kA aA bA,it2 (hid ct1) n (fr2 lA fA gA jA eA dA iA kA aA bA)=f2 n lA fA gA jA eA dA iA kA aA bA:=by
  intro n
  induction n with
  | zero=>intros; rfl
  | succ n ih =>
    intro lA fA gA jA eA dA iA kA aA bA
    refine (P2 lA fA gA jA eA dA iA kA aA bA (hid ct1) (it2 (hid ct1) n)).trans ?_
    show _=sh2 lA fA gA jA eA dA iA kA aA bA f1 (f2 n)
    simp only [T1,ih]
theorem H2 (lA fA gA jA eA dA iA kA aA bA):hid (it2 (hid ct1) 100000) (fr2 lA fA gA jA eA dA iA kA aA bA)=f2 100000 lA fA gA jA eA dA iA kA aA bA:=(congrFun (hid_eq _) _).trans (T2 100000 lA fA gA jA eA dA iA kA aA bA)
theorem T0 (ts p):exec X bd (.seq none .d (.seq none .d (.seq none .d (.seq (some nm1) (.seq none .d (.cond (.seq none .d (.block (.loop nm2 (.seq none .d (.seq none (.block (.seq none .d .regionA)) .d))))) .d)) .d)))) (fr0 ts p) RR (fun _ _=>none) RR=f0 ts p:=by
 refine (P0 ts p).trans ?_
 show _=sh0 ts p f1 (f2 100000)
 simp only [T1,H2]
theorem run (ts p):runPC X bd (.seq none .d (.seq none .d (.seq none .d (.seq (some nm1) (.seq none .d (.cond (.seq none .d (.block (.loop nm2 (.seq none .d (.seq none (.block (.seq none .d .regionA)) .d))))) .d)) .d)))) nmR [(2,51)] [42] [(1000000000,(.box 1000000000 [(.lst .tok ts),(.int .i64 p)]))] [(.ptr 1000000000 0)]=f0 ts p:=T0 ts p
theorem f1_eq (a b:List UInt8) (c:Int) (nm:List UInt8) (w:List Cnd) (d:List UInt8) (e:Int) (ts:List Tok) (q:Int) (ho:okT ts=true) (hq:At ts q):f1 a b c nm w d e ts q=outS encR ts (tailR ts nm w q):=by
 show sh1 a b c nm w d e ts q=_
 unfold sh1 tailR
 rw [inpT hq ho,outS_bd]
 simp only [chkT]
 have h1:=takeR_fine (kd:=1) (x:=[115,101,116]) ho hq (by decide)
 generalize takeR ts q 1 [115,101,116]=r1 at *
 cases e1:r1.ok
 ·rfl
 simp only [condT]
 rw [inpT h1.at_ ho,outS_bd]
 simp only [chkT]
 have h2:=takeR_fine (kd:=1) (x:=[]) ho h1.at_ (by decide)
 generalize takeR ts r1.p 1 []=r2 at *
 cases e2:r2.ok
 ·rfl
 simp only [condT]
 rw [inpT h2.at_ ho,outS_bd]
 simp only [chkT]
 have h3:=takeR_fine (kd:=1) (x:=[116,111]) ho h2.at_ (by decide)
 generalize takeR ts r2.p 1 [116,111]=r3 at *
 cases e3:r3.ok
 ·rfl
 simp only [condT]
 rw [oktT h3.at_ ho,outS_bd]
 simp only [chkT]
 have h4:=numR_fine ho h3.at_
 generalize numR ts r3.p=r4 at *
 cases e4:r4.ok
 ·rfl
 simp only [condT]
 rw [inpT h4.at_ ho,outS_bd]
 simp only [chkT]
 rfl
theorem loop (ts:List Tok) (ho:okT ts=true) (a b:List UInt8) (c:Int) (nm d:List UInt8) (e:Int):∀ (m n:Nat) (p:Int) (acc:List Cnd),At ts (p+1)→0≤p→acc.length≤p.toNat→Int.ofNat ts.length < Int.ofNat m+p+1→m+1≤n →
    f2 n true a b c nm acc d e ts p=condB (cndsR ts m p acc).ok (f1 a b c nm (cndsR ts m p acc).v d e ts (cndsR ts m p acc).p) (panO ts (cndsR ts m p acc).p):=by
  intro m
  induction m with
  | zero=>intro n p acc h h0 _ hm _; obtain ⟨h1,h2⟩:=h; simp at hm h2; omega
  | succ m ih =>
    intro n p acc h h0 hacc hm hn
    obtain ⟨n,rfl⟩:∃ n',n=n'+1:=⟨n - 1,by omega⟩
    have hl:=h.len ho
    have hw:IntKind.wrap .i64 (p+1)=p+1:=wrapI (by omega) (by omega)
    show sh2 true a b c nm acc d e ts p f1 (f2 n)=_
    unfold sh2 cndsR
    rw [hw,oktT h ho]
    simp only [chkT,condT]
    have hc:=cndR_fine ho h
    unfold Res.bd
    generalize cndR ts (p+1)=r at *
    cases e1:r.ok
    · rfl
    simp only [condT,cond_true]
    have hs:=hc.step e1
    rw [inpT hc.at_ ho,nleT (by simp; omega),nleT (by simp; omega)]
    simp only [chkT,Bool.true_and]
    cases hx:nextB ts r.p 1 [97,110,100]
    · simp only [cond_false]
      obtain ⟨n,rfl⟩:∃ n',n=n'+1:=⟨n - 1,by omega⟩
      rfl
    · simp only [cond_true]
      have hr:=hc.at_.1
      exact ih n r.p (acc++[r.v]) (nextB_more ho hc.at_ (by decide) hx) hr (by simp; omega) (by simp only [Int.ofNat_eq_natCast] at hm ⊢; omega) (by omega)
theorem all_eq (ts:List Tok) (p:Int) (h:(okT ts&&inb p (List.length ts))=true):f0 ts p=outS encR ts (rulR ts p):=by
 rw [Bool.and_eq_true] at h
 obtain ⟨ho,ha⟩:=h
 have ha:=inb_At.1 ha
 show sh0 ts p f1 (f2 100000)=_
 unfold sh0 rulR
 rw [inpT ha ho,outS_bd]
 simp only [chkT]
 have h1:=takeR_fine (kd:=1) (x:=[114,117,108,101]) ho ha (by decide)
 generalize takeR ts p 1 [114,117,108,101]=r1 at *
 cases e1:r1.ok
 ·rfl
 simp only [condT]
 rw [inpT h1.at_ ho,outS_bd]
 simp only [chkT]
 have h2:=takeR_fine (kd:=1) (x:=[]) ho h1.at_ (by decide)
 generalize takeR ts r1.p 1 []=r2 at *
 cases e2:r2.ok
 ·rfl
 simp only [condT]
 rw [inpT h2.at_ ho,outS_bd]
 simp only [chkT]
 have hw:=whenR_fine ho h2.at_
 unfold whenR at hw ⊢
 cases hn:nextB ts r2.p 1 [119,104,101,110]
 ·simp only [condF,cond_false]
  rw [f1_eq _ _ _ _ _ _ _ _ _ ho h2.at_]
  rfl
 ·rw [hn] at hw
  simp only [condT,cond_true] at hw ⊢
  have hl:=h2.at_.len ho
  rw [loop ts ho _ _ _ _ _ _ (ts.length+1) 100000 r2.p [] (nextB_more ho h2.at_ (by decide) hn) h2.at_.1 (by simp) (by have:=h2.at_.1; simp only [Int.ofNat_eq_natCast]; omega) (by omega),f1_eq _ _ _ _ _ _ _ _ _ ho hw.2]
  rfl
theorem f0_T (ts:List Tok) (p:Int) (h:(okT ts&&inb p (List.length ts))=true) (hc:Res.ok (rulR ts p)=true):f0 ts p=some (.agg [.str (rulR ts p).v.rn,.lst .cnd (rulR ts p).v.rw,.str (rulR ts p).v.rl,.int .i64 (rulR ts p).v.rs],rdB ts (rulR ts p).p):=(all_eq ts p h).trans (outS_T hc)
theorem f0_F (ts:List Tok) (p:Int) (h:(okT ts&&inb p (List.length ts))=true) (hc:Res.ok (rulR ts p)=false):f0 ts p=panO ts (rulR ts p).p:=(all_eq ts p h).trans (outS_F hc)
theorem ok:CtxOk Tryz.prog X:=ctxOk tab spN dpN
theorem okM:MOkG panR Tryz.prog X:=mspecOf_okG _ (mpCG (mcpSp_ok ok rdTake.spOk) (mpCG ((mcSp_ok ok rdNext.spOk).g) (mpCG (mcpSp_ok ok rdCond.spOk) (mpCG (mcpSp_ok ok rdNumber.spOk) mpNG))))
theorem spec1 (ts:List Tok) (p:Int) (h:((okT ts&&inb p (List.length ts)))=true) (hc:(Res.ok (rulR ts p))=true):PMCall Tryz.prog E 45 [(.ptr 1000000000 0)] [(1000000000,(.box 1000000000 [(.lst .tok ts),(.int .i64 p)]))] (.agg [(.str ((Res.v (rulR ts p)).rn)),(.lst .cnd ((Res.v (rulR ts p)).rw)),(.str ((Res.v (rulR ts p)).rl)),(.int .i64 ((Res.v (rulR ts p)).rs))]) [(1000000000,(.box 1000000000 [(.lst .tok ts),(.int .i64 (Res.p (rulR ts p)))]))] :=
 runPC_sound ok okM Tryz.func45 (by kernel_rfl) (by kernel_rfl) (by kernel_rfl) (by show 1≤42; decide) ((run ts p).trans (f0_T ts p h hc))
theorem spec2 (ts:List Tok) (p:Int) (h:((okT ts&&inb p (List.length ts)))=true) (hc:(Res.ok (rulR ts p))=false):PMCall Tryz.prog E 45 [(.ptr 1000000000 0)] [(1000000000,(.box 1000000000 [(.lst .tok ts),(.int .i64 p)]))] (.agg [(.int .i64 (Tok.kl (tokAt ts (Res.p (rulR ts p))))),(.int .i64 (Tok.kc (tokAt ts (Res.p (rulR ts p)))))]) (panH 95) :=
 runPC_sound ok okM Tryz.func45 (by kernel_rfl) (by kernel_rfl) (by kernel_rfl) (by show 1≤42; decide) ((run ts p).trans (f0_F ts p h hc))
noncomputable def sp:MSp U El:=fun args hs k=>match args,hs with
 | [.ptr q0 0],[(q1,.box q2 [.lst .tok ts,.int .i64 p])]=>chk (Nat.beq q0 1000000000&&(Nat.beq q1 1000000000&&(Nat.beq q2 1000000000&&true))) (chk ((okT ts&&inb p (List.length ts))) (condB (Res.ok (rulR ts p)) (k (.agg [(.str ((Res.v (rulR ts p)).rn)),(.lst .cnd ((Res.v (rulR ts p)).rw)),(.str ((Res.v (rulR ts p)).rl)),(.int .i64 ((Res.v (rulR ts p)).rs))]) [(1000000000,(.box 1000000000 [(.lst .tok ts),(.int .i64 (Res.p (rulR ts p)))]))]) (k (.agg [(.int .i64 (Tok.kl (tokAt ts (Res.p (rulR ts p))))),(.int .i64 (Tok.kc (tokAt ts (Res.p (rulR ts p)))))]) (panH 95))))
 | _,_=>none
theorem spOk:PSpOk Tryz.prog E 45 sp:=⟨Tryz.call45,fun args hs k r h=>by
 unfold sp at h
 split at h
 ·obtain ⟨hq,hA⟩:=chk_some h
  clear h
  simp only [Bool.and_eq_true] at hq
  obtain ⟨e0,e1,e2,_⟩:=hq
  cases Nat.eq_of_beq_eq_true e0
  cases Nat.eq_of_beq_eq_true e1
  cases Nat.eq_of_beq_eq_true e2
  obtain ⟨h1,hB⟩:=chk_some hA
  rcases condB_some hB with ⟨h2,h⟩ | ⟨h2,h⟩
  ·exact ⟨_,_,spec1 _ _ h1 h2,h⟩
  ·exact ⟨_,_,spec2 _ _ h1 h2,h⟩
 ·cases h⟩
end rdRule
end Go.Proofs.YtlkfbblapimhoaaGreatDoor
