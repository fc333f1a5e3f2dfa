import Derived.Test.YtlkfbblapimhoaaGreatDoorNU
import Derived.Test.YtlkfbblapimhoaaGreatDoorVB
import Derived.Test.YtlkfbblapimhoaaGreatDoorLPC
import Derived.Test.YtlkfbblapimhoaaGreatDoorLZ
namespace Go.Proofs.YtlkfbblapimhoaaGreatDoor
set_option linter.all false
set_option maxRecDepth 100000
structure Res (α:Type) where
 ok:Bool
 v:α
 p:Int
noncomputable def Res.bd {α β:Type} (r:Res α) (d:β) (f:α→Int→Res β):Res β:=bif r.ok then f r.v r.p else ⟨false,d,r.p⟩
noncomputable def tokAt (ts:List Tok) (p:Int):Tok:=List.getD ts (Int.toNat p) d_tok
noncomputable def okT (ts:List Tok):Bool:=nle ts.length 90000&&((tokAt ts (Int.ofNat ts.length - 1)).kk == 5&&List.all ts fun t=>nle t.kt.length 90000)
noncomputable def nextB (ts:List Tok) (p:Int) (kd:Int) (x:List UInt8):Bool:=(tokAt ts p).kk == kd&&(tokAt ts p).kt == x
noncomputable def takeR (ts:List Tok) (p:Int) (kd:Int) (x:List UInt8):Res (List UInt8):=bif (tokAt ts p).kk == kd&&(x == []||(tokAt ts p).kt == x) then ⟨true,(tokAt ts p).kt,p+1⟩ else ⟨false,[],p⟩
noncomputable def numOkS (s:List UInt8):Bool:=atoiB s&&(ile (Int.ofNat s.length) 15&&Lib.itoa (atoiZ s) == s)
noncomputable def numQ (ts:List Tok) (p:Int):Int:=bif nextB ts p 3 [45] then p+1 else p
noncomputable def numR (ts:List Tok) (p:Int):Res Int :=
 bif (tokAt ts (numQ ts p)).kk == 2&&numOkS (tokAt ts (numQ ts p)).kt then ⟨true,bif nextB ts p 3 [45] then 0 - atoiZ (tokAt ts (numQ ts p)).kt else atoiZ (tokAt ts (numQ ts p)).kt,numQ ts p+1⟩ else ⟨false,0,numQ ts p⟩
noncomputable def sgnR (ts:List Tok) (p:Int):Res Bool:=bif nextB ts p 3 [60] then ⟨true,true,p+1⟩ else (takeR ts p 3 [62,61]).bd false fun _ p=>⟨true,false,p⟩
noncomputable def cndR (ts:List Tok) (p:Int):Res Cnd :=
 (takeR ts p 1 []).bd d_cnd fun nd p=>(sgnR ts p).bd d_cnd fun b p=>(numR ts p).bd d_cnd fun n p=>⟨true,⟨nd,b,n⟩,p⟩
noncomputable def cndsR (ts:List Tok):Nat→Int→List Cnd→Res (List Cnd)
 | 0,p,_=>⟨false,[],p⟩
 | n+1,p,acc=>(cndR ts (p+1)).bd [] fun c p=>bif nextB ts p 1 [97,110,100] then cndsR ts n p (acc++[c]) else ⟨true,acc++[c],p⟩
noncomputable def whenR (ts:List Tok) (p:Int):Res (List Cnd):=bif nextB ts p 1 [119,104,101,110] then cndsR ts (ts.length+1) p [] else ⟨true,[],p⟩
noncomputable def rulR (ts:List Tok) (p:Int):Res Rule :=
 (takeR ts p 1 [114,117,108,101]).bd d_rule fun _ p=>(takeR ts p 1 []).bd d_rule fun nm p=>(whenR ts p).bd d_rule fun w p=>(takeR ts p 1 [115,101,116]).bd d_rule fun _ p =>
 (takeR ts p 1 []).bd d_rule fun lk p=>(takeR ts p 1 [116,111]).bd d_rule fun _ p=>(numR ts p).bd d_rule fun s p=>(takeR ts p 4 []).bd d_rule fun _ p=>⟨true,⟨nm,w,lk,s⟩,p⟩
def At (ts:List Tok) (p:Int):Prop:=0≤p∧p < Int.ofNat ts.length
structure Fine {α:Type} (ts:List Tok) (p:Int) (r:Res α):Prop where
 up:p≤r.p
 at_:At ts r.p
 step:r.ok=true→p < r.p
theorem inb_At {ts:List Tok} {p:Int}:inb p ts.length=true↔At ts p:=by
 simp [inb,At,ile,ilt]
theorem At.more {ts:List Tok} {p:Int} (h:At ts p) (ho:okT ts=true) (hk:(tokAt ts p).kk≠5):At ts (p+1):=by
 simp only [okT,Bool.and_eq_true,beq_iff_eq] at ho
 obtain ⟨h1,h2⟩:=h
 refine ⟨by omega,?_⟩
 by_cases e:p=Int.ofNat ts.length - 1
 ·subst e; exact absurd ho.2.1 hk
 ·omega
theorem At.len {ts:List Tok} {p:Int} (h:At ts p) (ho:okT ts=true):ts.length≤90000∧0≤p∧p < 90000:=by
 simp only [okT,Bool.and_eq_true] at ho
 have:=nleI ho.1
 obtain ⟨h1,h2⟩:=h
 simp at h2
 omega
theorem okT_text {ts:List Tok} (ho:okT ts=true) (p:Int):(tokAt ts p).kt.length≤90000:=by
 simp only [okT,Bool.and_eq_true] at ho
 unfold tokAt
 rw [List.getD_eq_getElem?_getD]
 cases h:ts[p.toNat]? with
 | none=>show (d_tok.kt).length≤_; simp [d_tok]
 | some t=>exact nleI (List.all_eq_true.1 ho.2.2 t (List.mem_of_getElem? h))
theorem takeR_fine {ts:List Tok} {p kd:Int} {x:List UInt8} (ho:okT ts=true) (h:At ts p) (hk:kd≠5):Fine ts p (takeR ts p kd x):=by
  unfold takeR
  cases hc:((tokAt ts p).kk == kd&&(x == []||(tokAt ts p).kt == x)) with
  | false=>exact ⟨Int.le_refl _,h,fun h=>by cases h⟩
  | true =>
    simp only [Bool.and_eq_true,beq_iff_eq] at hc
    exact ⟨by simp only [cond_true]; omega,h.more ho (by rw [hc.1]; exact hk),fun _=>by simp only [cond_true]; omega⟩
theorem nextB_more {ts:List Tok} {p kd:Int} {x:List UInt8} (ho:okT ts=true) (h:At ts p) (hk:kd≠5) (hn:nextB ts p kd x=true):At ts (p+1):=by
 simp only [nextB,Bool.and_eq_true,beq_iff_eq] at hn
 exact h.more ho (by rw [hn.1]; exact hk)
theorem numQ_fine {ts:List Tok} {p:Int} (ho:okT ts=true) (h:At ts p):p≤numQ ts p∧At ts (numQ ts p):=by
 unfold numQ
 cases hn:nextB ts p 3 [45] with
 | false=>exact ⟨Int.le_refl _,h⟩
 | true=>exact ⟨by simp only [cond_true]; omega,nextB_more ho h (by decide) hn⟩
theorem numR_fine {ts:List Tok} {p:Int} (ho:okT ts=true) (h:At ts p):Fine ts p (numR ts p):=by
  obtain ⟨h1,h2⟩:=numQ_fine ho h
  unfold numR
  cases hc:((tokAt ts (numQ ts p)).kk == 2&&numOkS (tokAt ts (numQ ts p)).kt) with
  | false=>exact ⟨h1,h2,fun h=>by cases h⟩
  | true =>
    simp only [Bool.and_eq_true,beq_iff_eq] at hc
    exact ⟨by simp only [cond_true]; omega,h2.more ho (by rw [hc.1]; decide),fun _=>by simp only [cond_true]; omega⟩
theorem Fine.bd {α β:Type} {ts:List Tok} {p:Int} {r:Res α} {d:β} {f:α→Int→Res β} (h:Fine ts p r) (hf:r.ok=true→At ts r.p→Fine ts r.p (f r.v r.p)):Fine ts p (r.bd d f):=by
  unfold Res.bd
  cases hr:r.ok with
  | false=>exact ⟨h.up,h.at_,fun h=>by cases h⟩
  | true =>
    have:=hf hr h.at_
    have h2:=h.up
    have h3:=this.up
    exact ⟨by simp only [cond_true]; omega,this.at_,fun hk=>by have h4:=this.step hk; simp only [cond_true]; omega⟩
theorem Fine.bdE {α β:Type} {ts:List Tok} {p:Int} {r:Res α} {d:β} {f:α→β} (h:Fine ts p r):Fine ts p (r.bd d fun a q=>⟨true,f a,q⟩):=by
 unfold Res.bd
 cases hr:r.ok with
 | false=>exact ⟨h.up,h.at_,fun h=>by cases h⟩
 | true=>exact ⟨h.up,h.at_,fun _=>h.step hr⟩
theorem sgnR_fine {ts:List Tok} {p:Int} (ho:okT ts=true) (h:At ts p):Fine ts p (sgnR ts p):=by
 unfold sgnR
 cases hn:nextB ts p 3 [60] with
 | false=>exact (takeR_fine (kd:=3) (x:=[62,61]) ho h (by decide)).bdE (d:=false) (f:=fun _=>false)
 | true=>exact ⟨by simp only [cond_true]; omega,nextB_more ho h (by decide) hn,fun _=>by simp only [cond_true]; omega⟩
theorem cndR_fine {ts:List Tok} {p:Int} (ho:okT ts=true) (h:At ts p):Fine ts p (cndR ts p) :=
 (takeR_fine ho h (by decide)).bd fun _ h=>(sgnR_fine ho h).bd fun _ h=>(numR_fine ho h).bdE
theorem cndsR_fine {ts : List Tok} (ho : okT ts = true) : ∀ (n : Nat) (p : Int) (acc : List Cnd), At ts (p + 1) → 0 ≤ p → Int.ofNat ts.length < Int.ofNat n + p + 1 → Fine ts p (cndsR ts n p acc) := by
  intro n
  induction n with
  | zero=>intro p acc h h0 hn; obtain ⟨h1,h2⟩:=h; simp at hn h2; omega
  | succ n ih =>
    intro p acc h h0 hn
    unfold cndsR
    have hc:=cndR_fine ho h
    unfold Res.bd
    cases hr:(cndR ts (p+1)).ok with
    | false=>have:=hc.up; exact ⟨by simp only [cond_false]; omega,hc.at_,fun h=>by cases h⟩
    | true =>
      simp only [cond_true]
      have hs:=hc.step hr
      cases hx:nextB ts (cndR ts (p+1)).p 1 [97,110,100] with
      | false=>exact ⟨by simp only [cond_false]; omega,hc.at_,fun _=>by simp only [cond_false]; omega⟩
      | true =>
        have:=ih (cndR ts (p+1)).p (acc++[(cndR ts (p+1)).v]) (nextB_more ho hc.at_ (by decide) hx) hc.at_.1 (by simp only [Int.ofNat_eq_natCast] at hn ⊢; omega)
        have h2:=this.up
        exact ⟨by simp only [cond_true]; omega,this.at_,fun _=>by simp only [cond_true]; omega⟩
noncomputable abbrev rdB (ts:List Tok) (p:Int):Heap U El:=[(1000000000,.box 1000000000 [.lst .tok ts,.int .i64 p])]
noncomputable def panO (ts:List Tok) (p:Int):R:=some (.agg [.int .i64 (Tok.kl (tokAt ts p)),.int .i64 (Tok.kc (tokAt ts p))],panH 95)
namespace rdNow
noncomputable def bd:Code:=(Tryz.f44.body).getD .skip
noncomputable def X:Ctx U El:=⟨E,tds,zeros,eqs,specOf [],100000,13,dspecOf [],fun _=>none,fun _=>none⟩
noncomputable def nmR:Norm U:=⟨[],[13],[1000000000],[],[],[],[]⟩
noncomputable def RR:Kont U El:=fun st=>loadRes X 13 [(2,101)] 13 st fun st=>normK nmR st (retM [13])
noncomputable def fr0 (ts:List Tok) (p:Int):St U El:=⟨[(0,(.ptr 1000000000 0))],[(1000000000,(.box 1000000000 [(.lst .tok ts),(.int .i64 p)]))]⟩
noncomputable def sh0 (ts:List Tok) (p:Int):R :=
 chk (inb p (List.length ts)) (some ((.agg [(.int .i64 ((List.getD ts (Int.toNat p) d_tok).kk)),(.str ((List.getD ts (Int.toNat p) d_tok).kt)),(.int .i64 ((List.getD ts (Int.toNat p) d_tok).kl)),(.int .i64 ((List.getD ts (Int.toNat p) d_tok).kc))]),[(1000000000,(.box 1000000000 [(.lst .tok ts),(.int .i64 p)]))]))
theorem P0 (ts p):exec X (cdp [] bd) (.seq none .d (.seq none (.region [(10,2)]) .d)) (fr0 ts p) RR (fun _ _=>none) RR=sh0 ts p:=by kernel_rfl
noncomputable def f0 (ts:List Tok) (p:Int):R:=sh0 ts p
theorem T0 (ts p):exec X bd (.seq none .d (.seq none (.region [(10,2)]) .d)) (fr0 ts p) RR (fun _ _=>none) RR=f0 ts p:=by
 refine (P0 ts p).trans ?_
 show _=sh0 ts p
 rfl
theorem run (ts p):runMC X bd (.seq none .d (.seq none (.region [(10,2)]) .d)) nmR [(2,101)] [13] [(1000000000,(.box 1000000000 [(.lst .tok ts),(.int .i64 p)]))] [(.ptr 1000000000 0)]=f0 ts p:=T0 ts p
theorem f0_eq (ts:List Tok) (p:Int) (h:(inb p (List.length ts)&&nle (List.length ts) 90000)=true):f0 ts p=some (.agg [.int .i64 (tokAt ts p).kk,.str (tokAt ts p).kt,.int .i64 (tokAt ts p).kl,.int .i64 (tokAt ts p).kc],rdB ts p):=by
 simp only [Bool.and_eq_true] at h
 show sh0 ts p=_
 unfold sh0
 rw [h.1]
 rfl
theorem ok:CtxOk Tryz.prog X:=ctxOk tab spN dpN
theorem okM:MOk Tryz.prog X:=fun g sp h=>by cases h
theorem spec (ts:List Tok) (p:Int) (h:((inb p (List.length ts)&&nle (List.length ts) 90000))=true):MCall Tryz.prog E 44 [(.ptr 1000000000 0)] [(1000000000,(.box 1000000000 [(.lst .tok ts),(.int .i64 p)]))] (.agg [(.int .i64 ((tokAt ts p).kk)),(.str ((tokAt ts p).kt)),(.int .i64 ((tokAt ts p).kl)),(.int .i64 ((tokAt ts p).kc))]) [(1000000000,(.box 1000000000 [(.lst .tok ts),(.int .i64 p)]))] :=
 runMC_sound ok okM Tryz.func44 (by kernel_rfl) (by kernel_rfl) (by kernel_rfl) (by show 1≤13; decide) ((run ts p).trans (f0_eq ts p h))
noncomputable def sp:MSp U El:=fun args hs k=>match args,hs with
 | [.ptr q0 0],[(q1,.box q2 [.lst .tok ts,.int .i64 p])]=>chk (Nat.beq q0 1000000000&&(Nat.beq q1 1000000000&&(Nat.beq q2 1000000000&&true))) (chk ((inb p (List.length ts)&&nle (List.length ts) 90000)) (k (.agg [(.int .i64 ((tokAt ts p).kk)),(.str ((tokAt ts p).kt)),(.int .i64 ((tokAt ts p).kl)),(.int .i64 ((tokAt ts p).kc))]) [(1000000000,(.box 1000000000 [(.lst .tok ts),(.int .i64 p)]))]))
 | _,_=>none
theorem spOk:MSpOk Tryz.prog E 44 sp:=⟨Tryz.call44,fun args hs k r h=>by
 unfold sp at h
 split at h
 ·obtain ⟨hq,hA⟩:=chk_some h
  clear h
  simp only [Bool.and_eq_true] at hq
  obtain ⟨e0,e1,e2,_⟩:=hq
  cases Nat.eq_of_beq_eq_true e0
  cases Nat.eq_of_beq_eq_true e1
  cases Nat.eq_of_beq_eq_true e2
  obtain ⟨h1,hB⟩:=chk_some hA
  exact ⟨_,_,spec _ _ h1,hB⟩
 ·cases h⟩
theorem spDet:∀ args hs,∃ oo:Option (AV U El×Heap U El),∀ k,sp args hs k=oo.bind fun p=>k p.1 p.2:=fun args hs=>by
 unfold sp
 split
 ·exact det_chkM (det_chkM ⟨some (_,_),fun _=>rfl⟩)
 ·exact ⟨none,fun _=>rfl⟩
end rdNow
namespace rdNext
noncomputable def bd:Code:=(Tryz.f87.body).getD .skip
noncomputable def X:Ctx U El:=⟨E,tds,zeros,eqs,specOf [],100000,20,dspecOf [],mspecOf [(44,(mcSp rdNow.sp))],fun _=>none⟩
noncomputable def nmR:Norm U:=⟨[],[6],[1000000000],[],[],[],[]⟩
noncomputable def RR:Kont U El:=fun st=>normK nmR st (retM [6])
noncomputable def fr0 (kd:Int) (x:List UInt8) (ts:List Tok) (p:Int):St U El:=⟨[(0,(.ptr 1000000000 0)),(1,(.int .i64 kd)),(2,(.str x))],[(1000000000,(.box 1000000000 [(.lst .tok ts),(.int .i64 p)]))]⟩
noncomputable def sh0 (kd:Int) (x:List UInt8) (ts:List Tok) (p:Int):R :=
 chk ((inb p (List.length ts)&&nle (List.length ts) 90000)) (condB ((tokAt ts p).kk == kd) (some ((.bool (((tokAt ts p).kt) == x)),[(1000000000,(.box 1000000000 [(.lst .tok ts),(.int .i64 p)]))])) (some ((.bool false),[(1000000000,(.box 1000000000 [(.lst .tok ts),(.int .i64 p)]))])))
theorem P0 (kd x ts p):exec X (cdp [] bd) .d (fr0 kd x ts p) RR (fun _ _=>none) RR=sh0 kd x ts p:=by kernel_rfl
noncomputable def f0 (kd:Int) (x:List UInt8) (ts:List Tok) (p:Int):R:=sh0 kd x ts p
theorem T0 (kd x ts p):exec X bd .d (fr0 kd x ts p) RR (fun _ _=>none) RR=f0 kd x ts p:=by
 refine (P0 kd x ts p).trans ?_
 show _=sh0 kd x ts p
 rfl
theorem run (kd x ts p):runM X bd .d nmR [6] [(1000000000,(.box 1000000000 [(.lst .tok ts),(.int .i64 p)]))] [(.ptr 1000000000 0),(.int .i64 kd),(.str x)]=f0 kd x ts p:=T0 kd x ts p
theorem f0_eq (kd:Int) (x:List UInt8) (ts:List Tok) (p:Int) (h:(inb p (List.length ts)&&nle (List.length ts) 90000)=true):f0 kd x ts p=some (.bool (nextB ts p kd x),rdB ts p):=by
 show sh0 kd x ts p=_
 unfold sh0 nextB
 rw [h]
 cases (tokAt ts p).kk == kd<;>rfl
theorem ok:CtxOk Tryz.prog X:=ctxOk tab spN dpN
theorem okM:MOk Tryz.prog X:=mspecOf_ok _ (mpC (mcSp_ok ok rdNow.spOk) mpN)
theorem spec (kd:Int) (x:List UInt8) (ts:List Tok) (p:Int) (h:((inb p (List.length ts)&&nle (List.length ts) 90000))=true):MCall Tryz.prog E 87 [(.ptr 1000000000 0),(.int .i64 kd),(.str x)] [(1000000000,(.box 1000000000 [(.lst .tok ts),(.int .i64 p)]))] (.bool (nextB ts p kd x)) [(1000000000,(.box 1000000000 [(.lst .tok ts),(.int .i64 p)]))] :=
 runM_sound ok okM Tryz.func87 (by kernel_rfl) (by kernel_rfl) (by kernel_rfl) (by show 3≤20; decide) ((run kd x ts p).trans (f0_eq kd x ts p h))
noncomputable def sp:MSp U El:=fun args hs k=>match args,hs with
 | [.ptr q0 0,.int .i64 kd,.str x],[(q1,.box q2 [.lst .tok ts,.int .i64 p])]=>chk (Nat.beq q0 1000000000&&(Nat.beq q1 1000000000&&(Nat.beq q2 1000000000&&true))) (chk ((inb p (List.length ts)&&nle (List.length ts) 90000)) (k (.bool (nextB ts p kd x)) [(1000000000,(.box 1000000000 [(.lst .tok ts),(.int .i64 p)]))]))
 | _,_=>none
theorem spOk:MSpOk Tryz.prog E 87 sp:=⟨Tryz.call87,fun args hs k r h=>by
 unfold sp at h
 split at h
 ·obtain ⟨hq,hA⟩:=chk_some h
  clear h
  simp only [Bool.and_eq_true] at hq
  obtain ⟨e0,e1,e2,_⟩:=hq
  cases Nat.eq_of_beq_eq_true e0
  cases Nat.eq_of_beq_eq_true e1
  cases Nat.eq_of_beq_eq_true e2
  obtain ⟨h1,hB⟩:=chk_some hA
  exact ⟨_,_,spec _ _ _ _ h1,hB⟩
 ·cases h⟩
theorem spDet:∀ args hs,∃ oo:Option (AV U El×Heap U El),∀ k,sp args hs k=oo.bind fun p=>k p.1 p.2:=fun args hs=>by
 unfold sp
 split
 ·exact det_chkM (det_chkM ⟨some (_,_),fun _=>rfl⟩)
 ·exact ⟨none,fun _=>rfl⟩
end rdNext
namespace rdFail0
noncomputable def bd:Code:=(Tryz.f118.body).getD .skip
noncomputable def ops:Array Oper:=match bd with | .region _ o false=>o | _=>#[]
theorem bd_eq:Tryz.f118.body=some (.region 0 ops false):=by kernel_rfl
noncomputable def X:Ctx U El:=⟨E,tds,zeros,eqs,specOf [],10,6,dspecOf [],mspecOf [(44,(mcSp rdNow.sp))],fun _=>none⟩
theorem ok:CtxOk Tryz.prog X:=ctxOk tab spN dpN
theorem okM:MOk Tryz.prog X:=mspecOf_ok _ (mpC (mcSp_ok ok rdNow.spOk) mpN)
theorem P3 (ts:List Tok) (p:Int) (K:Int→Int→R):runOps X [] (ops.toList.take 3) ⟨[(0,.ptr 1000000000 0)],rdB ts p⟩ (fun st=>match tget st.t 4 with | .agg [.int .i64 l,.int .i64 c]=>K l c | _=>none) =
  chk (inb p (List.length ts)&&nle (List.length ts) 90000) (K (tokAt ts p).kl (tokAt ts p).kc):=by kernel_rfl
theorem o3:∃ o,ops[3]? = some o∧o.op=.makeInterface 95 (.tmp 4)∧o.guard=none∧o.dst=some 5:=⟨ops.getD 3 default,by kernel_rfl,by kernel_rfl,by kernel_rfl,by kernel_rfl⟩
theorem o4:∃ o,ops[4]? = some o∧o.op=.panic (.tmp 5)∧o.guard=none∧o.dst=none:=⟨ops.getD 4 default,by kernel_rfl,by kernel_rfl,by kernel_rfl,by kernel_rfl⟩
theorem len:(ops.toList.drop 3).length=2:=by kernel_rfl
theorem len3:(ops.toList.take 3).length=3:=by kernel_rfl
theorem guards:(ops.toList.take 3).all (fun o=>o.guard.isNone)=true:=by kernel_rfl
theorem size:ops.size=5:=by kernel_rfl
theorem und:∃ fs,Tryz.prog.underlying 95=some (.struct fs):=⟨_,Tryz.underlying95⟩
theorem run_mk (x:Value) (w:World):(Instr.makeInterface 95 x).run Tryz.prog w=.ok (.iface 95 x) w:=by
 obtain ⟨fs,h⟩:=und
 simp [Instr.makeInterface,run_underlying h]
theorem spec (ts : List Tok) (p : Int) (h : (inb p (List.length ts) && nle (List.length ts) 90000) = true) : PMCall Tryz.prog E 118 [.ptr 1000000000 0] (rdB ts p) (.agg [.int .i64 (Tok.kl (tokAt ts p)), .int .i64 (Tok.kc (tokAt ts p))]) (panH 95) := by
  intro B0 S ρ w vs hB0 hG0 hH0 hrel
  obtain ⟨B,hBe⟩:∃ B:Bd,B=⟨B0.own,B0.pin,[]⟩:=⟨_,rfl⟩
  have hdf:B.df=[]:=by rw [hBe]
  have hB:∀ k,w.heap.size≤k→B.own k:=by rw [hBe]; exact hB0
  have hG:∀ w',Fr B w w'→E.G w':=fun w' hf=>hG0 w' (hf.mono fun k h=>by rw [hBe] at h; exact h)
  have hH:HRel E S ρ w B (rdB ts p):=by rw [hBe]; exact hH0.df []
  refine calls_of_wp Tryz.func118 bd_eq ?_
  obtain ⟨v0,rfl⟩:∃ v0,vs=#[v0]:=by
    have:=hrel.1
    match vs,this with
    | ⟨[v0]⟩,_=>exact ⟨v0,rfl⟩
  refine wp_region ?_
  have hnt:Tryz.f118.ntmps=6:=by kernel_rfl
  have hsz:(#[v0]++Array.replicate (Tryz.f118.ntmps - #[v0].size) undef).size=X.nt:=by
    rw [hnt]; rfl
  have h0:StRel X B S w ⟨args0 [.ptr 1000000000 0] 0,rdB ts p⟩ { tmps:=#[v0]++Array.replicate (Tryz.f118.ntmps - #[v0].size) undef,defers:=[] } w:=by
    refine ⟨S,ρ,hdf.symm,hsz,Fr.refl _ _,hB,fun _ h=>h,fun _ h=>.inl h,hG,fun i=>?_,hH⟩
    show Rel E S _ w (tget (args0 _ 0) i) _
    rw [args0_get]
    simp only [Nat.zero_le,if_true,Nat.sub_zero]
    match i with
    | 0=>exact hrel.2 0 _ v0 rfl rfl
    | i+1=>exact .any _
  have key:=runOps_pre (P:=Tryz.prog) (X:=X) (B:=B) (S0:=S) (w0:=w) (r:=(.nilp,[])) (ops:=ops) (Q:=bodyPost Tryz.prog Tryz.f118 fun e w'=>(panOf (panH 95:Heap U El)=none∧∃ v' S' ρ',e = .returned v'∧Fr B0 w w'∧(∀ b,S b→S' b)∧(∀ b,S' b→S b∨B0.own b)∧HRel E S' ρ' w' B0 (panH 95)∧Rel E S' ρ' w' (.agg [.int .i64 (Tok.kl (tokAt ts p)),.int .i64 (Tok.kc (tokAt ts p))]) v')∨(∃ T l c,(panH 95:Heap U El)=panH T∧(.agg [.int .i64 (Tok.kl (tokAt ts p)),.int .i64 (Tok.kc (tokAt ts p))]:AV U El) = .agg [.int .i64 l,.int .i64 c]∧e = .panicked (pEntry T l c)∧Fr B0 w w'))
    ok okM (ops.toList.drop 3) (ops.toList.take 3) 0 _ _ w (by rw [List.take_append_drop]; rfl) (fun o ho=>Option.isNone_iff_eq_none.1 (List.all_eq_true.1 guards o ho)) h0
    ((P3 ts p fun l c=>bif l == (tokAt ts p).kl&&c == (tokAt ts p).kc then some (.nilp,[]) else none).trans (by rw [h]; simp [chk])) (fun st' a' w' hs' hk=>?_)
  · rw [List.take_append_drop, Array.length_toList, size] at key
    rw [size]
    exact key
  · rw [len3, len]
    obtain ⟨S',ρ',hi⟩:=hs'
    have h4:=hi.tmps 4
    split at hk
    · rename_i l c ht
      cases hq:(l == (tokAt ts p).kl&&c == (tokAt ts p).kc) with
      | false=>rw [hq] at hk; cases hk
      | true =>
        simp only [Bool.and_eq_true,beq_iff_eq] at hq
        obtain ⟨rfl,rfl⟩:=hq
        rw [ht] at h4
        have hv:a'.tmps.getD 4 undef = .agg #[.int .i64 (tokAt ts p).kl,.int .i64 (tokAt ts p).kc]:=by
          generalize a'.tmps.getD 4 undef=q at h4
          cases h4 with
          | agg cs vs' hl hh =>
            obtain ⟨x,y,rfl⟩:∃ x y,vs'=#[x,y]:=by
              match vs',hl with
              | ⟨[x,y]⟩,_=>exact ⟨x,y,rfl⟩
            have hx:=hh 0 _ x rfl rfl
            have hy:=hh 1 _ y rfl rfl
            cases hx; cases hy
            rfl
        obtain ⟨o3,e3,p3,g3,d3⟩:=o3
        obtain ⟨o4,e4,p4,g4,d4⟩:=o4
        show wpOps Tryz.prog ops _ [3,4] a' w'
        rw [wpOps_cons]
        unfold wpOp
        rw [e3]
        have hw3:Region.wanted o3 (yielded ops a'.tmps)=true:=by simp [Region.wanted,g3]
        simp only [hw3,if_true]
        refine .inl ?_
        unfold Oper.wp
        have r3:(execOp a'.eval o3).run Tryz.prog w' = .ok (.value (.iface 95 (.agg #[.int .i64 (tokAt ts p).kl,.int .i64 (tokAt ts p).kc]))) w':=by
          have:a'.eval (.tmp 4)=.agg #[.int .i64 (tokAt ts p).kl,.int .i64 (tokAt ts p).kc]:=hv
          simp [execOp,p3,this,run_mk]
        rw [r3,Oper.upon_value,d3]
        rw [wpOps_cons]
        unfold wpOp
        rw [e4]
        have hw4:Region.wanted o4 (yielded ops (a'.put (some 5) (.iface 95 (.agg #[.int .i64 (tokAt ts p).kl,.int .i64 (tokAt ts p).kc]))).tmps)=true:=by simp [Region.wanted,g4]
        simp only [hw4,if_true]
        refine .inl ?_
        unfold Oper.wp
        have r4:(execOp (a'.put (some 5) (.iface 95 (.agg #[.int .i64 (tokAt ts p).kl,.int .i64 (tokAt ts p).kc]))).eval o4).run Tryz.prog w' = .halt (.panic (.iface 95 (.agg #[.int .i64 (tokAt ts p).kl,.int .i64 (tokAt ts p).kc]))) w':=by
          have hlt:5 < a'.tmps.size:=by rw [hi.size]; decide
          have:(a'.put (some 5) (.iface 95 (.agg #[.int .i64 (tokAt ts p).kl,.int .i64 (tokAt ts p).kc]))).eval (.tmp 5) = .iface 95 (.agg #[.int .i64 (tokAt ts p).kl,.int .i64 (tokAt ts p).kc]):=by
            simp [Act.eval,Act.put,hlt]
          simp [execOp,p4,this,Instr.panic]
        rw [r4,Oper.upon_panic]
        refine ⟨?_,.inr ⟨95,_,_,rfl,rfl,rfl,hi.below.mono fun k hk=>by rw [hBe] at hk; exact hk⟩⟩
        show a'.defers=[]
        rw [hi.defers,hdf]
    · cases hk
end rdFail0
namespace rdFail
theorem spec (ts:List Tok) (p:Int) (h:((inb p (List.length ts)&&nle (List.length ts) 90000))=true):PMCall Tryz.prog E 118 [(.ptr 1000000000 0)] [(1000000000,(.box 1000000000 [(.lst .tok ts),(.int .i64 p)]))] (.agg [(.int .i64 (Tok.kl (tokAt ts p))),(.int .i64 (Tok.kc (tokAt ts p)))]) (panH 95):=rdFail0.spec ts p h
noncomputable def sp:MSp U El:=fun args hs k=>match args,hs with
 | [.ptr q0 0],[(q1,.box q2 [.lst .tok ts,.int .i64 p])]=>chk (Nat.beq q0 1000000000&&(Nat.beq q1 1000000000&&(Nat.beq q2 1000000000&&true))) (chk ((inb p (List.length ts)&&nle (List.length ts) 90000)) (k (.agg [(.int .i64 (Tok.kl (tokAt ts p))),(.int .i64 (Tok.kc (tokAt ts p)))]) (panH 95)))
 | _,_=>none
theorem spOk:PSpOk Tryz.prog E 118 sp:=⟨Tryz.call118,fun args hs k r h=>by
 unfold sp at h
 split at h
 ·obtain ⟨hq,hA⟩:=chk_some h
  clear h
  simp only [Bool.and_eq_true] at hq
  obtain ⟨e0,e1,e2,_⟩:=hq
  cases Nat.eq_of_beq_eq_true e0
  cases Nat.eq_of_beq_eq_true e1
  cases Nat.eq_of_beq_eq_true e2
  obtain ⟨h1,hB⟩:=chk_some hA
  exact ⟨_,_,spec _ _ h1,hB⟩
 ·cases h⟩
end rdFail
end Go.Proofs.YtlkfbblapimhoaaGreatDoor
