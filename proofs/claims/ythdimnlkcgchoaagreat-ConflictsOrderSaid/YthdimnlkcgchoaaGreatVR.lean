import Derived.Test.YthdimnlkcgchoaaGreatVP
namespace Go.Proofs.YthdimnlkcgchoaaGreat
set_option linter.all false
set_option maxRecDepth 100000
noncomputable def smallR (l:List Rule):Bool:=nle l.length 100&&List.all l (fun r=>nle r.rw.length 100)
noncomputable def okMs (m:List (List Int)):Bool:=nle m.length 90000&&List.all m (fun x=>nlt 0 x.length&&nle x.length 100000)
noncomputable def cntF:Int→List (List Int)→Int
 | c,[]=>c
 | c,x :: m=>bif ilt 10000 (c * Int.ofNat x.length) then 10001 else cntF (c * Int.ofNat x.length) m
noncomputable def countZ (m:List (List Int)):Int:=cntF 1 m
noncomputable def manyB (l:List Rule) (n:Net) (s:List UInt8):Bool:=ilt 400 (countZ (padM l n s))&&ile (countZ (padM l n s)) 10000
noncomputable def outL (v:List Int):R:=some (.lst .int v,[])
theorem smallR_len {l:List Rule} (h:smallR l=true):l.length≤100∧∀ r∈l,r.rw.length≤100:=by
 simp only [smallR,Bool.and_eq_true] at h
 exact ⟨nleI h.1,fun r hr=>nleI (List.all_eq_true.1 h.2 r hr)⟩
theorem putL_len:∀ (l:List Int) (x:Int),(putL l x).length≤l.length+1:=by
  intro l
  induction l with
  | nil=>intro x; simp [putL]
  | cons y l ih =>
    intro x
    have:=ih x
    unfold putL
    cases ilt y x
    · cases y == x<;>simp
    · simp only [cond_true,List.length_cons]; omega
theorem foldl_put_len:∀ (v:List Int) (a:List Int),(v.foldl putL a).length≤a.length+v.length:=by
  intro v
  induction v with
  | nil=>intro a; simp
  | cons x v ih =>
    intro a
    have h1:=ih (putL a x); have h2:=putL_len a x
    simp only [List.foldl_cons,List.length_cons]
    omega
theorem levR_len (x:Node) (s:List UInt8) (r:Rule):(levR x s r).length≤r.rw.length:=by
 have:=flat_len (levC x s r) 1 (fun c=>by unfold levC; cases (r.rl == s)&&((c.cn == x.nn)&&(ilt (possS x).slo c.cl&&ile c.cl (possS x).shi))<;>simp) r.rw
 unfold levR; omega
theorem levM_len (x:Node) (s:List UInt8):∀ (l:List Rule),(∀ r∈l,r.rw.length≤100)→(levM x s l).length≤100 * l.length:=by
  intro l
  induction l with
  | nil=>intro _; simp [levM]
  | cons r l ih =>
    intro h
    have h1:=ih fun r hr=>h r (by simp [hr])
    have h2:=levR_len x s r
    have h3:=h r (by simp)
    unfold levM at h1 ⊢
    rw [List.flatMap_cons,List.length_append,List.length_cons]
    omega
theorem padM_ok {l:List Rule} {n:Net} (hn:okN n=true) (hl:smallR l=true) (s:List UInt8):okMs (padM l n s)=true:=by
 obtain ⟨h1,h2⟩:=smallR_len hl
 have h3:=nleI (okN_nds hn)
 simp only [okMs,Bool.and_eq_true]
 refine ⟨nleT (by simpa [padM] using h3),List.all_eq_true.2 fun m hm=>?_⟩
 obtain ⟨x,_,rfl⟩:=List.mem_map.1 hm
 have h4:=levM_len x s l h2
 have h5:=foldl_put_len (levM x s l) [(possS x).slo]
 have h6:0 < (padX x s l).length:=List.length_pos_iff.2 (padX_ne x s l)
 rw [nltT h6,nleT (show (padX x s l).length≤100000 by unfold padX; simp at h5; omega)]
 rfl
theorem okM_at {m:List (List Int)} (h:okMs m=true):m.length≤90000∧∀ x∈m,0 < x.length∧x.length≤100000:=by
 simp only [okMs,Bool.and_eq_true] at h
 refine ⟨nleI h.1,fun x hx=>?_⟩
 have:=List.all_eq_true.1 h.2 x hx
 simp only [Bool.and_eq_true] at this
 exact ⟨of_decide_eq_true this.1,nleI this.2⟩
namespace put
noncomputable def bd:Code:=(Tryz.f116.body).getD .skip
noncomputable def X:Ctx U El:=⟨E,tds,zeros,eqs,specOf [],100000,48,dspecOf [],fun _=>none,fun _=>none⟩
noncomputable def nmR:Norm U:=⟨[],[4],[],[(4,.int)],[],[],[]⟩
noncomputable def RR:Kont U El:=fun st=>normK nmR st (retFin [4] [])
noncomputable def nm1:Norm U:=⟨[],[0,1,5],[],[],[],[],[]⟩
noncomputable def nm2:Norm U:=⟨[],[0,1,5],[],[],[],[],[]⟩
noncomputable def nm3:Norm U:=⟨[],[0,1,5],[],[],[],[],[]⟩
noncomputable def nm4:Norm U:=⟨[],[0,1,5],[],[],[],[],[]⟩
abbrev Y1:=(List Int)→Int→Int→R
abbrev Y2:=(List Int)→Int→Int→R
abbrev Y3:=(List Int)→Int→Int→R
abbrev Y4:=(List Int)→Int→Int→R
noncomputable def fr0 (l:List Int) (x:Int):St U El:=⟨[(0,(.lst .int l)),(1,(.int .i64 x))],[]⟩
noncomputable def fr1 (l0:List Int) (x1:Int) (hA:Int):St U El:=⟨[(0,(.lst .int l0)),(1,(.int .i64 x1)),(5,(.int .i64 hA))],[]⟩
noncomputable def fr2 (l0:List Int) (x1:Int) (hA:Int):St U El:=⟨[(0,(.lst .int l0)),(1,(.int .i64 x1)),(5,(.int .i64 hA))],[]⟩
noncomputable def fr3 (l0:List Int) (x1:Int) (hA:Int):St U El:=⟨[(0,(.lst .int l0)),(1,(.int .i64 x1)),(5,(.int .i64 hA))],[]⟩
noncomputable def fr4 (l0:List Int) (x1:Int) (hA:Int):St U El:=⟨[(0,(.lst .int l0)),(1,(.int .i64 x1)),(5,(.int .i64 hA))],[]⟩
noncomputable def sh0 (l:List Int) (x:Int) (k2:Y2):R :=
 k2 l x (0:Int)
noncomputable def sh1 (l0:List Int) (x1:Int) (hA:Int) (k4:Y4):R :=
 condB (ilt hA (Int.ofNat (List.length l0))) (chk (inb hA (List.length l0)) (condB ((List.getD l0 (Int.toNat hA) d_int) == x1) (some ((.lst .int l0),[])) (k4 l0 x1 hA))) (k4 l0 x1 hA)
noncomputable def sh2 (l0:List Int) (x1:Int) (hA:Int) (k1:Y1) (k3:Y3):R :=
 condB (ilt hA (Int.ofNat (List.length l0))) (chk (inb hA (List.length l0)) (condB (ilt (List.getD l0 (Int.toNat hA) d_int) x1) (k3 l0 x1 hA) (k1 l0 x1 hA))) (k1 l0 x1 hA)
noncomputable def sh3 (l0:List Int) (x1:Int) (hA:Int) (k2:Y2):R :=
 k2 l0 x1 (IntKind.wrap .i64 (hA+(1:Int)))
noncomputable def sh4 (l0:List Int) (x1:Int) (hA:Int):R :=
 chk (ile 0 (0:Int)&&ile (0:Int) hA&&ile hA (Int.ofNat (List.length l0))) (chk (nle ((List.length ([]:List Int)+List.length (sub l0 (0:Int) hA)) * 8) 140737488355328&&nle (List.length ([]:List Int)+List.length (sub l0 (0:Int) hA)) 9223372036854775807) (chk (nle ((List.length (([]:List Int)++(sub l0 (0:Int) hA))+List.length ([x1]:List Int)) * 8) 140737488355328&&nle (List.length (([]:List Int)++(sub l0 (0:Int) hA))+List.length ([x1]:List Int)) 9223372036854775807) (chk (ile 0 hA&&ile hA (Int.ofNat (List.length l0))&&ile (Int.ofNat (List.length l0)) (Int.ofNat (List.length l0))) (chk (nle ((List.length ((([]:List Int)++(sub l0 (0:Int) hA))++([x1]:List Int))+List.length (sub l0 hA (Int.ofNat (List.length l0)))) * 8) 140737488355328&&nle (List.length ((([]:List Int)++(sub l0 (0:Int) hA))++([x1]:List Int))+List.length (sub l0 hA (Int.ofNat (List.length l0)))) 9223372036854775807) (some ((.lst .int (((([]:List Int)++(sub l0 (0:Int) hA))++([x1]:List Int))++(sub l0 hA (Int.ofNat (List.length l0))))),[]))))))
noncomputable def it2 (Kb1:Kont U El) (n:Nat):Kont U El:=iter nm2 (fun st' K'=>exec X (cdp [1,1,0,0,0] bd) (.seq (some nm3) .d .d) st' K' (Eblk 0 (cutK nm1 Kb1) (fun _ _=>none)) RR) n
noncomputable def ct1:Kont U El:=fun st=>exec X (cdp [1,1,1] bd) (.seq (some nm4) .d .d) st RR (fun _ _=>none) RR
noncomputable def ct3 (Kb1 Kb2:Kont U El):Kont U El:=fun st=>exec X (cdp [1,1,0,0,0,1] bd) .d st (cutK nm2 Kb2) (Eblk 0 (cutK nm1 Kb1) (fun _ _=>none)) RR
noncomputable def ct4:Kont U El:=fun st=>exec X (cdp [1,1,1,1] bd) .d st RR (fun _ _=>none) RR
theorem P0 (l x):exec X (cdp [] bd) (.seq none .d (.seq none .d (.seq (some nm1) (.block (.loop nm2 (.seq (some nm3) .d .d))) (.seq (some nm4) .d .d)))) (fr0 l x) RR (fun _ _=>none) RR=sh0 l x (fun y0 y1 y2=>(hid (it2 (hid ct1) 100000)) (fr2 y0 y1 y2)):=by kernel_rfl
theorem P1 (l0 x1 hA):ct1 (fr1 l0 x1 hA)=sh1 l0 x1 hA (fun y0 y1 y2=>(hid ct4) (fr4 y0 y1 y2)):=by kernel_rfl
theorem P2 (l0 x1 hA) (Kb1 Kb2:Kont U El):exec X (cdp [1,1,0,0,0] bd) (.seq (some nm3) .d .d) (fr2 l0 x1 hA) (cutK nm2 Kb2) (Eblk 0 (cutK nm1 Kb1) (fun _ _=>none)) RR=sh2 l0 x1 hA (fun y0 y1 y2=>Kb1 (fr1 y0 y1 y2)) (fun y0 y1 y2=>(hid (ct3 Kb1 Kb2)) (fr3 y0 y1 y2)):=by kernel_rfl
theorem P3 (l0 x1 hA) (Kb1 Kb2:Kont U El):ct3 Kb1 Kb2 (fr3 l0 x1 hA)=sh3 l0 x1 hA (fun y0 y1 y2=>Kb2 (fr2 y0 y1 y2)):=by kernel_rfl
theorem P4 (l0 x1 hA):ct4 (fr4 l0 x1 hA)=sh4 l0 x1 hA:=by kernel_rfl
noncomputable def f4 (l0:List Int) (x1:Int) (hA:Int):R:=sh4 l0 x1 hA
noncomputable def f1 (l0:List Int) (x1:Int) (hA:Int):R:=sh1 l0 x1 hA f4
noncomputable def f3 (k2:Y2) (l0:List Int) (x1:Int) (hA:Int):R:=sh3 l0 x1 hA k2
noncomputable def f2:Nat→Y2
 | 0=>fun _ _ _=>none
 | n+1=>fun l0 x1 hA=>sh2 l0 x1 hA f1 (f3 (f2 n))
noncomputable def f0 (l:List Int) (x:Int):R:=sh0 l x (f2 100000)
theorem T4 (l0 x1 hA):(hid ct4) (fr4 l0 x1 hA)=f4 l0 x1 hA:=by
 refine (congrFun (hid_eq _) _).trans <| (P4 l0 x1 hA).trans ?_
 show _=sh4 l0 x1 hA
 rfl
theorem T1 (l0 x1 hA):(hid ct1) (fr1 l0 x1 hA)=f1 l0 x1 hA:=by
 refine (congrFun (hid_eq _) _).trans <| (P1 l0 x1 hA).trans ?_
 show _=sh1 l0 x1 hA f4
 simp only [T4]
theorem T3 (KL2:Kont U El) (k2:Y2) (h2:∀ l0 x1 hA,KL2 (fr2 l0 x1 hA)=k2 l0 x1 hA) (l0 x1 hA):(hid (ct3 (hid ct1) KL2)) (fr3 l0 x1 hA)=f3 k2 l0 x1 hA:=by
 refine (congrFun (hid_eq _) _).trans <| (P3 l0 x1 hA (hid ct1) KL2).trans ?_
 show _=sh3 l0 x1 hA k2
 simp only [h2]
theorem T2:∀ (n:Nat),∀ l0 x1 hA,it2 (hid ct1) n (fr2 l0 x1 hA)=f2 n l0 x1 hA:=by
  intro n
  induction n with
  | zero=>intros; rfl
  | succ n ih =>
    intro l0 x1 hA
    refine (P2 l0 x1 hA (hid ct1) (it2 (hid ct1) n)).trans ?_
    show _=sh2 l0 x1 hA f1 (f3 (f2 n))
    simp only [T1,T3 (it2 (hid ct1) n) (f2 n) ih]
theorem H2 (l0 x1 hA):hid (it2 (hid ct1) 100000) (fr2 l0 x1 hA)=f2 100000 l0 x1 hA:=(congrFun (hid_eq _) _).trans (T2 100000 l0 x1 hA)
theorem T0 (l x):exec X bd (.seq none .d (.seq none .d (.seq (some nm1) (.block (.loop nm2 (.seq (some nm3) .d .d))) (.seq (some nm4) .d .d)))) (fr0 l x) RR (fun _ _=>none) RR=f0 l x:=by
 refine (P0 l x).trans ?_
 show _=sh0 l x (f2 100000)
 simp only [H2]
theorem run (l x):runFn X bd (.seq none .d (.seq none .d (.seq (some nm1) (.block (.loop nm2 (.seq (some nm3) .d .d))) (.seq (some nm4) .d .d)))) nmR [4] [] [(.lst .int l),(.int .i64 x)]=f0 l x:=T0 l x
theorem fin (l:List Int) (x:Int) (k:Nat) (hk:k≤l.length) (hl:l.length≤80000):f4 l x (k:Int)=outL (l.take k++x :: l.drop k):=by
 show sh4 l x (k:Int)=_
 unfold sh4
 have s1:sub l (0:Int) (k:Int)=l.take k:=by unfold sub; simp
 have s2:sub l (k:Int) (Int.ofNat l.length)=l.drop k:=by unfold sub; rw [toNat_nat,toNat_ofNat,List.take_of_length_le (by simp)]
 rw [s1,s2,ileT (show (0:Int)≤0 by omega),ileT (show (0:Int)≤(k:Int) by omega),ileT (show (k:Int)≤Int.ofNat l.length by simp; omega),ileT (show Int.ofNat l.length≤Int.ofNat l.length by omega)]
 rw [nleT (show _≤140737488355328 by simp; omega),nleT (show _≤9223372036854775807 by simp; omega),nleT (show _≤140737488355328 by simp; omega),nleT (show _≤9223372036854775807 by simp; omega),nleT (show _≤140737488355328 by simp; omega),nleT (show _≤9223372036854775807 by simp; omega)]
 simp only [Bool.and_true,chkT,List.nil_append,List.append_assoc,List.singleton_append,List.cons_append]
 rfl
theorem loop (l : List Int) (x : Int) (hl : l.length ≤ 80000) : ∀ (n k : Nat), l.length < n + k → k ≤ l.length → f2 n l x (k : Int) = outL (l.take k ++ putL (l.drop k) x) := by
  intro n
  induction n with
  | zero=>intro k h1 h2; omega
  | succ n ih =>
    intro k h1 h2
    show sh2 l x (k:Int) f1 (f3 (f2 n))=_
    unfold sh2
    by_cases hk:k < l.length
    · have e1 : f3 (f2 n) l x (k : Int) = outL (l.take (k + 1) ++ putL (l.drop (k + 1)) x) := by
        show f2 n l x (IntKind.wrap .i64 ((k:Int)+1))=_
        rw [wrapS k (by omega)]
        exact ih (k+1) (by omega) hk
      have e2:f1 l x (k:Int)=condB (l[k] == x) (outL l) (outL (l.take k++x :: l.drop k)):=by
        show sh1 l x (k:Int) f4=_
        unfold sh1
        rw [iltT (by simp; omega),inbT hk,toNat_nat,getD_lt hk,fin l x k h2 hl]
        rfl
      rw [iltT (by simp; omega),inbT hk,toNat_nat,getD_lt hk,e1,e2]
      simp only [condT,chkT]
      have e3:l.drop k=l[k] :: l.drop (k+1):=drop_lt hk
      have e4:l.take k++l.drop k=l:=List.take_append_drop k l
      have e5:putL (l[k] :: l.drop (k+1)) x=bif ilt l[k] x then l[k] :: putL (l.drop (k+1)) x else bif l[k] == x then l[k] :: l.drop (k+1) else x :: l[k] :: l.drop (k+1):=rfl
      rw [e3] at e4 ⊢
      rw [e5]
      cases ilt l[k] x with
      | true=>rw [take_lt hk,List.append_assoc]; rfl
      | false =>
        simp only [condF,cond_false]
        cases l[k] == x with
        | true=>rw [cond_true,e4]; rfl
        | false=>rfl
    · have : k = l.length := by omega
      subst this
      rw [iltF (by simp)]
      show sh1 l x (l.length:Int) f4=_
      unfold sh1
      rw [iltF (by simp),condF,fin l x l.length h2 hl,List.drop_length]
      rfl
theorem f0_eq (l:List Int) (x:Int) (h:nle (List.length l) 80000=true):f0 l x=outL (putL l x):=by
 have:=nleI h
 exact loop l x this 100000 0 (by omega) (by omega)
theorem ok:CtxOk Tryz.prog X:=ctxOk tab spN dpN
theorem okM:MOk Tryz.prog X:=fun g sp h=>by cases h
theorem spec (l:List Int) (x:Int) (h:(nle (List.length l) 80000)=true):CallSpec Tryz.prog E 116 [(.lst .int l),(.int .i64 x)] (.lst .int (putL l x)) [] :=
 rfs ok okM Tryz.call116 Tryz.func116 ((run l x).trans (f0_eq l x h))
noncomputable def sp:Sp U El:=fun args k=>match args with
 | [.lst .int l,.int .i64 x]=>chk (nle (List.length l) 80000) (k (.lst .int (putL l x)) [])
 | _=>none
theorem spOk:SpOk Tryz.prog E 116 sp:=⟨fun vs=>by unfold sp;split;exact det_c _ _ _;exact ⟨none,fun _=>rfl⟩,fun vs k r h=>by unfold sp at h;split at h;(obtain ⟨h1,h2⟩:=chk_some h;exact ⟨_,_,spec _ _ h1,h2⟩);cases h⟩
end put
namespace rmarks
noncomputable def bd:Code:=(Tryz.f69.body).getD .skip
noncomputable def X:Ctx U El:=⟨E,tds,zeros,eqs,specOf [(114,rpossible.sp),(116,put.sp)],100000,95,dspecOf [],fun _=>none,fun _=>none⟩
noncomputable def nmR:Norm U:=⟨[(6,.ints)],[6],[6],[],[],[],[]⟩
noncomputable def RR:Kont U El:=fun st=>normK nmR st (retFin [6] [6])
noncomputable def nm1:Norm U:=⟨[(7,.ints)],[7],[7],[],[],[],[]⟩
noncomputable def nm2:Norm U:=⟨[(7,.ints)],[0,2,4,7,8],[7,4],[],[],[],[(4,0,.node),(4,1,.link)]⟩
noncomputable def nm3:Norm U:=⟨[(7,.ints)],[0,2,4,7,8],[7,4],[],[],[],[(4,0,.node),(4,1,.link)]⟩
noncomputable def nm4:Norm U:=⟨[(7,.ints)],[0,2,4,7,8,10],[7,4],[(10,.int)],[],[],[(4,0,.node),(4,1,.link)]⟩
noncomputable def nm5:Norm U:=⟨[(7,.ints)],[0,2,4,7,8,9,10,11],[7,4,9],[(10,.int)],[],[],[(4,0,.node),(4,1,.link)]⟩
noncomputable def nm6:Norm U:=⟨[(7,.ints)],[0,2,4,7,8,9,10,11],[7,4,9],[(10,.int)],[],[],[(4,0,.node),(4,1,.link)]⟩
noncomputable def nm7:Norm U:=⟨[(7,.ints)],[0,2,4,7,8,9,10,11,12],[7,4,9],[(10,.int)],[],[],[(4,0,.node),(4,1,.link)]⟩
noncomputable def nm8:Norm U:=⟨[(7,.ints)],[0,2,4,7,8,9,10,11,12],[7,4,9],[(10,.int)],[],[],[(4,0,.node),(4,1,.link)]⟩
abbrev Y1:=(List (List Int))→R
abbrev Y2:=(List Rule)→(List UInt8)→(List (List Int))→Int→(List Node)→(List Lnk)→R
abbrev Y3:=(List Rule)→(List UInt8)→(List (List Int))→Int→(List Node)→(List Lnk)→R
abbrev Y4:=(List Rule)→(List UInt8)→(List (List Int))→Int→(List Int)→(List Node)→(List Lnk)→R
abbrev Y5:=(List Rule)→(List UInt8)→(List (List Int))→Int→(List Int)→Int→(List Node)→(List Lnk)→Span→R
abbrev Y6:=(List Rule)→(List UInt8)→(List (List Int))→Int→(List Int)→Int→(List Node)→(List Lnk)→Span→R
abbrev Y7:=(List Rule)→(List UInt8)→(List (List Int))→Int→(List Int)→Int→Int→(List Node)→(List Lnk)→Span→R
abbrev Y8:=(List Rule)→(List UInt8)→(List (List Int))→Int→(List Int)→Int→Int→(List Node)→(List Lnk)→Span→R
noncomputable def fr0 (l:List Rule) (n:Net) (s:List UInt8):St U El:=⟨[(0,(.lst .rule l)),(1,(.agg [(.lst .node n.nds),(.lst .link n.lks)])),(2,(.str s))],[]⟩
noncomputable def fr1 (bA:List (List Int)):St U El:=⟨[(7,(.ful 7))],[(7,(.rows .ints bA))]⟩
noncomputable def fr2 (l0:List Rule) (aA:List UInt8) (bA:List (List Int)) (i8:Int) (cA:List Node) (dA:List Lnk):St U El:=⟨[(0,(.lst .rule l0)),(2,(.str aA)),(4,(.ptr 4 0)),(7,(.ful 7)),(8,(.int .i64 i8))],[(7,(.rows .ints bA)),(4,(.box 0 [(.lst .node cA),(.lst .link dA)]))]⟩
noncomputable def fr3 (l0:List Rule) (aA:List UInt8) (bA:List (List Int)) (i8:Int) (cA:List Node) (dA:List Lnk):St U El:=⟨[(0,(.lst .rule l0)),(2,(.str aA)),(4,(.ptr 4 0)),(7,(.ful 7)),(8,(.int .i64 i8))],[(7,(.rows .ints bA)),(4,(.box 0 [(.lst .node cA),(.lst .link dA)]))]⟩
noncomputable def fr4 (l0:List Rule) (aA:List UInt8) (bA:List (List Int)) (i8:Int) (gA:List Int) (cA:List Node) (dA:List Lnk):St U El:=⟨[(0,(.lst .rule l0)),(2,(.str aA)),(4,(.ptr 4 0)),(7,(.ful 7)),(8,(.int .i64 i8)),(10,(.lst .int gA))],[(7,(.rows .ints bA)),(4,(.box 0 [(.lst .node cA),(.lst .link dA)]))]⟩
noncomputable def fr5 (l0:List Rule) (aA:List UInt8) (bA:List (List Int)) (i8:Int) (gA:List Int) (fA:Int) (cA:List Node) (dA:List Lnk) (b9:Span):St U El:=⟨[(0,(.lst .rule l0)),(2,(.str aA)),(4,(.ptr 4 0)),(7,(.ful 7)),(8,(.int .i64 i8)),(9,(.ptr 9 0)),(10,(.lst .int gA)),(11,(.int .i64 fA))],[(7,(.rows .ints bA)),(4,(.box 0 [(.lst .node cA),(.lst .link dA)])),(9,(.box 0 [(.int .i64 b9.slo),(.int .i64 b9.shi)]))]⟩
noncomputable def fr6 (l0:List Rule) (aA:List UInt8) (bA:List (List Int)) (i8:Int) (gA:List Int) (fA:Int) (cA:List Node) (dA:List Lnk) (b9:Span):St U El:=⟨[(0,(.lst .rule l0)),(2,(.str aA)),(4,(.ptr 4 0)),(7,(.ful 7)),(8,(.int .i64 i8)),(9,(.ptr 9 0)),(10,(.lst .int gA)),(11,(.int .i64 fA))],[(7,(.rows .ints bA)),(4,(.box 0 [(.lst .node cA),(.lst .link dA)])),(9,(.box 0 [(.int .i64 b9.slo),(.int .i64 b9.shi)]))]⟩
noncomputable def fr7 (l0:List Rule) (aA:List UInt8) (bA:List (List Int)) (i8:Int) (gA:List Int) (fA:Int) (jA:Int) (cA:List Node) (dA:List Lnk) (b9:Span):St U El:=⟨[(0,(.lst .rule l0)),(2,(.str aA)),(4,(.ptr 4 0)),(7,(.ful 7)),(8,(.int .i64 i8)),(9,(.ptr 9 0)),(10,(.lst .int gA)),(11,(.int .i64 fA)),(12,(.int .i64 jA))],[(7,(.rows .ints bA)),(4,(.box 0 [(.lst .node cA),(.lst .link dA)])),(9,(.box 0 [(.int .i64 b9.slo),(.int .i64 b9.shi)]))]⟩
noncomputable def fr8 (l0:List Rule) (aA:List UInt8) (bA:List (List Int)) (i8:Int) (gA:List Int) (fA:Int) (jA:Int) (cA:List Node) (dA:List Lnk) (b9:Span):St U El:=⟨[(0,(.lst .rule l0)),(2,(.str aA)),(4,(.ptr 4 0)),(7,(.ful 7)),(8,(.int .i64 i8)),(9,(.ptr 9 0)),(10,(.lst .int gA)),(11,(.int .i64 fA)),(12,(.int .i64 jA))],[(7,(.rows .ints bA)),(4,(.box 0 [(.lst .node cA),(.lst .link dA)])),(9,(.box 0 [(.int .i64 b9.slo),(.int .i64 b9.shi)]))]⟩
noncomputable def sh0 (l:List Rule) (n:Net) (s:List UInt8) (k2:Y2):R :=
 k2 l s ([]:List (List Int)) (0:Int) n.nds n.lks
noncomputable def sh1 (bA:List (List Int)):R :=
 some ((.ful 0),[(0,.rows .ints bA)])
noncomputable def sh2 (l0:List Rule) (aA:List UInt8) (bA:List (List Int)) (i8:Int) (cA:List Node) (dA:List Lnk) (k1:Y1) (k5:Y5):R :=
 condB (ilt i8 (Int.ofNat (List.length cA))) (chk (inb i8 (List.length cA)) (k5 l0 aA bA i8 ([(possS (List.getD cA (Int.toNat i8) d_node)).slo]:List Int) (0:Int) cA dA (possS (List.getD cA (Int.toNat i8) d_node)))) (k1 bA)
noncomputable def sh3 (l0:List Rule) (aA:List UInt8) (bA:List (List Int)) (i8:Int) (cA:List Node) (dA:List Lnk) (k2:Y2):R :=
 k2 l0 aA bA (IntKind.wrap .i64 (i8+(1:Int))) cA dA
noncomputable def sh4 (l0:List Rule) (aA:List UInt8) (bA:List (List Int)) (i8:Int) (gA:List Int) (cA:List Node) (dA:List Lnk) (k3:Y3):R :=
 chk (nle ((List.length bA+List.length ([gA]:List (List Int))) * 24) 140737488355328&&nle (List.length bA+List.length ([gA]:List (List Int))) 9223372036854775807) (k3 l0 aA (bA++([gA]:List (List Int))) i8 cA dA)
noncomputable def sh5 (l0:List Rule) (aA:List UInt8) (bA:List (List Int)) (i8:Int) (gA:List Int) (fA:Int) (cA:List Node) (dA:List Lnk) (b9:Span) (k4:Y4) (k7:Y7):R :=
 condB (ilt fA (Int.ofNat (List.length l0))) (k7 l0 aA bA i8 gA fA (0:Int) cA dA b9) (k4 l0 aA bA i8 gA cA dA)
noncomputable def sh6 (l0:List Rule) (aA:List UInt8) (bA:List (List Int)) (i8:Int) (gA:List Int) (fA:Int) (cA:List Node) (dA:List Lnk) (b9:Span) (k5:Y5):R :=
 k5 l0 aA bA i8 gA (IntKind.wrap .i64 (fA+(1:Int))) cA dA b9
noncomputable def sh7 (l0:List Rule) (aA:List UInt8) (bA:List (List Int)) (i8:Int) (gA:List Int) (fA:Int) (jA:Int) (cA:List Node) (dA:List Lnk) (b9:Span) (k6:Y6) (k8:Y8):R :=
 chk (inb fA (List.length l0)) (condB (ilt jA (Int.ofNat (List.length ((List.getD l0 (Int.toNat fA) d_rule).rw)))) (chk (inb fA (List.length l0)) (chk (inb jA (List.length ((List.getD l0 (Int.toNat fA) d_rule).rw))) (chk (inb fA (List.length l0)) (condB (((List.getD l0 (Int.toNat fA) d_rule).rl) == aA) (chk (inb i8 (List.length cA)) (condB (((List.getD ((List.getD l0 (Int.toNat fA) d_rule).rw) (Int.toNat jA) d_cnd).cn) == ((List.getD cA (Int.toNat i8) d_node).nn)) (condB (ilt b9.slo ((List.getD ((List.getD l0 (Int.toNat fA) d_rule).rw) (Int.toNat jA) d_cnd).cl)) (condB (ile ((List.getD ((List.getD l0 (Int.toNat fA) d_rule).rw) (Int.toNat jA) d_cnd).cl) b9.shi) (chk (nle (List.length gA) 80000) (k8 l0 aA bA i8 (putL gA ((List.getD ((List.getD l0 (Int.toNat fA) d_rule).rw) (Int.toNat jA) d_cnd).cl)) fA jA cA dA b9)) (k8 l0 aA bA i8 gA fA jA cA dA b9)) (k8 l0 aA bA i8 gA fA jA cA dA b9)) (k8 l0 aA bA i8 gA fA jA cA dA b9))) (k8 l0 aA bA i8 gA fA jA cA dA b9))))) (k6 l0 aA bA i8 gA fA cA dA b9))
noncomputable def sh8 (l0:List Rule) (aA:List UInt8) (bA:List (List Int)) (i8:Int) (gA:List Int) (fA:Int) (jA:Int) (cA:List Node) (dA:List Lnk) (b9:Span) (k7:Y7):R :=
 k7 l0 aA bA i8 gA fA (IntKind.wrap .i64 (jA+(1:Int))) cA dA b9
noncomputable def it2 (Kb1:Kont U El) (n:Nat):Kont U El:=iter nm2 (fun st' K'=>exec X (cdp [1,1,0,1,0,0] bd) (.seq none .d (.seq (some nm3) (.block (.seq none .d (.seq none .d (.seq (some nm4) (.seq none .d (.block (.loop nm5 (.seq none .d (.seq (some nm6) (.block (.seq none .d (.block (.loop nm7 (.seq none .d (.seq (some nm8) .d .d)))))) .d))))) .d)))) .d)) st' K' (Eblk 0 (cutK nm1 Kb1) (fun _ _=>none)) RR) n
noncomputable def it5 (Kb1 Kb3 Kb4:Kont U El) (n:Nat):Kont U El:=iter nm5 (fun st' K'=>exec X (cdp [1,1,0,1,0,0,1,0,0,1,1,0,1,0,0] bd) (.seq none .d (.seq (some nm6) (.block (.seq none .d (.block (.loop nm7 (.seq none .d (.seq (some nm8) .d .d)))))) .d)) st' K' (Eblk 2 (cutK nm4 Kb4) (Eblk 1 (cutK nm3 Kb3) (Eblk 0 (cutK nm1 Kb1) (fun _ _=>none)))) RR) n
noncomputable def it7 (Kb1 Kb3 Kb4 Kb6:Kont U El) (n:Nat):Kont U El:=iter nm7 (fun st' K'=>exec X (cdp [1,1,0,1,0,0,1,0,0,1,1,0,1,0,0,1,0,0,1,0,0] bd) (.seq none .d (.seq (some nm8) .d .d)) st' K' (Eblk 4 (cutK nm6 Kb6) (Eblk 3 (cutK nm6 Kb6) (Eblk 2 (cutK nm4 Kb4) (Eblk 1 (cutK nm3 Kb3) (Eblk 0 (cutK nm1 Kb1) (fun _ _=>none)))))) RR) n
noncomputable def ct1:Kont U El:=fun st=>exec X (cdp [1,1,1] bd) .d st RR (fun _ _=>none) RR
noncomputable def ct3 (Kb1 Kb2:Kont U El):Kont U El:=fun st=>exec X (cdp [1,1,0,1,0,0,1,1] bd) .d st (cutK nm2 Kb2) (Eblk 0 (cutK nm1 Kb1) (fun _ _=>none)) RR
noncomputable def ct4 (Kb1 Kb3:Kont U El):Kont U El:=fun st=>exec X (cdp [1,1,0,1,0,0,1,0,0,1,1,1] bd) .d st (cutK nm3 Kb3) (Eblk 1 (cutK nm3 Kb3) (Eblk 0 (cutK nm1 Kb1) (fun _ _=>none))) RR
noncomputable def ct6 (Kb1 Kb3 Kb4 Kb5:Kont U El):Kont U El:=fun st=>exec X (cdp [1,1,0,1,0,0,1,0,0,1,1,0,1,0,0,1,1] bd) .d st (cutK nm5 Kb5) (Eblk 2 (cutK nm4 Kb4) (Eblk 1 (cutK nm3 Kb3) (Eblk 0 (cutK nm1 Kb1) (fun _ _=>none)))) RR
noncomputable def ct8 (Kb1 Kb3 Kb4 Kb6 Kb7:Kont U El):Kont U El:=fun st=>exec X (cdp [1,1,0,1,0,0,1,0,0,1,1,0,1,0,0,1,0,0,1,0,0,1,1] bd) .d st (cutK nm7 Kb7) (Eblk 4 (cutK nm6 Kb6) (Eblk 3 (cutK nm6 Kb6) (Eblk 2 (cutK nm4 Kb4) (Eblk 1 (cutK nm3 Kb3) (Eblk 0 (cutK nm1 Kb1) (fun _ _=>none)))))) RR
theorem P0 (l n s):exec X (cdp [] bd) (.seq none .d (.seq none .d (.seq (some nm1) (.seq none .d (.block (.loop nm2 (.seq none .d (.seq (some nm3) (.block (.seq none .d (.seq none .d (.seq (some nm4) (.seq none .d (.block (.loop nm5 (.seq none .d (.seq (some nm6) (.block (.seq none .d (.block (.loop nm7 (.seq none .d (.seq (some nm8) .d .d)))))) .d))))) .d)))) .d))))) .d))) (fr0 l n s) RR (fun _ _=>none) RR=sh0 l n s (fun y0 y1 y2 y3 y4 y5=>(hid (it2 (hid ct1) 100000)) (fr2 y0 y1 y2 y3 y4 y5)):=by kernel_rfl
theorem P1 (bA):ct1 (fr1 bA)=sh1 bA:=by kernel_rfl
theorem P2 (l0 aA bA i8 cA dA) (Kb1 Kb2:Kont U El):exec X (cdp [1,1,0,1,0,0] bd) (.seq none .d (.seq (some nm3) (.block (.seq none .d (.seq none .d (.seq (some nm4) (.seq none .d (.block (.loop nm5 (.seq none .d (.seq (some nm6) (.block (.seq none .d (.block (.loop nm7 (.seq none .d (.seq (some nm8) .d .d)))))) .d))))) .d)))) .d)) (fr2 l0 aA bA i8 cA dA) (cutK nm2 Kb2) (Eblk 0 (cutK nm1 Kb1) (fun _ _=>none)) RR=sh2 l0 aA bA i8 cA dA (fun y0=>Kb1 (fr1 y0)) (fun y0 y1 y2 y3 y4 y5 y6 y7 y8=>(hid (it5 Kb1 (hid (ct3 Kb1 Kb2)) (hid (ct4 Kb1 (hid (ct3 Kb1 Kb2)))) 100000)) (fr5 y0 y1 y2 y3 y4 y5 y6 y7 y8)):=by kernel_rfl
theorem P3 (l0 aA bA i8 cA dA) (Kb1 Kb2:Kont U El):ct3 Kb1 Kb2 (fr3 l0 aA bA i8 cA dA)=sh3 l0 aA bA i8 cA dA (fun y0 y1 y2 y3 y4 y5=>Kb2 (fr2 y0 y1 y2 y3 y4 y5)):=by kernel_rfl
theorem P4 (l0 aA bA i8 gA cA dA) (Kb1 Kb3:Kont U El):ct4 Kb1 Kb3 (fr4 l0 aA bA i8 gA cA dA)=sh4 l0 aA bA i8 gA cA dA (fun y0 y1 y2 y3 y4 y5=>Kb3 (fr3 y0 y1 y2 y3 y4 y5)):=by kernel_rfl
theorem P5 (l0 aA bA i8 gA fA cA dA b9) (Kb1 Kb3 Kb4 Kb5:Kont U El):exec X (cdp [1,1,0,1,0,0,1,0,0,1,1,0,1,0,0] bd) (.seq none .d (.seq (some nm6) (.block (.seq none .d (.block (.loop nm7 (.seq none .d (.seq (some nm8) .d .d)))))) .d)) (fr5 l0 aA bA i8 gA fA cA dA b9) (cutK nm5 Kb5) (Eblk 2 (cutK nm4 Kb4) (Eblk 1 (cutK nm3 Kb3) (Eblk 0 (cutK nm1 Kb1) (fun _ _=>none)))) RR=sh5 l0 aA bA i8 gA fA cA dA b9 (fun y0 y1 y2 y3 y4 y5 y6=>Kb4 (fr4 y0 y1 y2 y3 y4 y5 y6)) (fun y0 y1 y2 y3 y4 y5 y6 y7 y8 y9=>(hid (it7 Kb1 Kb3 Kb4 (hid (ct6 Kb1 Kb3 Kb4 Kb5)) 100000)) (fr7 y0 y1 y2 y3 y4 y5 y6 y7 y8 y9)):=by kernel_rfl
theorem P6 (l0 aA bA i8 gA fA cA dA b9) (Kb1 Kb3 Kb4 Kb5:Kont U El):ct6 Kb1 Kb3 Kb4 Kb5 (fr6 l0 aA bA i8 gA fA cA dA b9)=sh6 l0 aA bA i8 gA fA cA dA b9 (fun y0 y1 y2 y3 y4 y5 y6 y7 y8=>Kb5 (fr5 y0 y1 y2 y3 y4 y5 y6 y7 y8)):=by kernel_rfl
theorem P7 (l0 aA bA i8 gA fA jA cA dA b9) (Kb1 Kb3 Kb4 Kb6 Kb7:Kont U El):exec X (cdp [1,1,0,1,0,0,1,0,0,1,1,0,1,0,0,1,0,0,1,0,0] bd) (.seq none .d (.seq (some nm8) .d .d)) (fr7 l0 aA bA i8 gA fA jA cA dA b9) (cutK nm7 Kb7) (Eblk 4 (cutK nm6 Kb6) (Eblk 3 (cutK nm6 Kb6) (Eblk 2 (cutK nm4 Kb4) (Eblk 1 (cutK nm3 Kb3) (Eblk 0 (cutK nm1 Kb1) (fun _ _=>none)))))) RR=sh7 l0 aA bA i8 gA fA jA cA dA b9 (fun y0 y1 y2 y3 y4 y5 y6 y7 y8=>Kb6 (fr6 y0 y1 y2 y3 y4 y5 y6 y7 y8)) (fun y0 y1 y2 y3 y4 y5 y6 y7 y8 y9=>(hid (ct8 Kb1 Kb3 Kb4 Kb6 Kb7)) (fr8 y0 y1 y2 y3 y4 y5 y6 y7 y8 y9)):=by kernel_rfl
theorem P8 (l0 aA bA i8 gA fA jA cA dA b9) (Kb1 Kb3 Kb4 Kb6 Kb7:Kont U El):ct8 Kb1 Kb3 Kb4 Kb6 Kb7 (fr8 l0 aA bA i8 gA fA jA cA dA b9)=sh8 l0 aA bA i8 gA fA jA cA dA b9 (fun y0 y1 y2 y3 y4 y5 y6 y7 y8 y9=>Kb7 (fr7 y0 y1 y2 y3 y4 y5 y6 y7 y8 y9)):=by kernel_rfl
noncomputable def f1 (bA:List (List Int)):R:=sh1 bA
noncomputable def f3 (k2:Y2) (l0:List Rule) (aA:List UInt8) (bA:List (List Int)) (i8:Int) (cA:List Node) (dA:List Lnk):R:=sh3 l0 aA bA i8 cA dA k2
noncomputable def f4 (k2:Y2) (l0:List Rule) (aA:List UInt8) (bA:List (List Int)) (i8:Int) (gA:List Int) (cA:List Node) (dA:List Lnk):R:=sh4 l0 aA bA i8 gA cA dA (f3 k2)
noncomputable def f6 (k2:Y2) (k5:Y5) (l0:List Rule) (aA:List UInt8) (bA:List (List Int)) (i8:Int) (gA:List Int) (fA:Int) (cA:List Node) (dA:List Lnk) (b9:Span):R:=sh6 l0 aA bA i8 gA fA cA dA b9 k5
noncomputable def f8 (k2:Y2) (k5:Y5) (k7:Y7) (l0:List Rule) (aA:List UInt8) (bA:List (List Int)) (i8:Int) (gA:List Int) (fA:Int) (jA:Int) (cA:List Node) (dA:List Lnk) (b9:Span):R:=sh8 l0 aA bA i8 gA fA jA cA dA b9 k7
noncomputable def f7 (k2:Y2) (k5:Y5):Nat→Y7
 | 0=>fun _ _ _ _ _ _ _ _ _ _=>none
 | n+1=>fun l0 aA bA i8 gA fA jA cA dA b9=>sh7 l0 aA bA i8 gA fA jA cA dA b9 (f6 k2 k5) (f8 k2 k5 (f7 k2 k5 n))
noncomputable def f5 (k2:Y2):Nat→Y5
 | 0=>fun _ _ _ _ _ _ _ _ _=>none
 | n+1=>fun l0 aA bA i8 gA fA cA dA b9=>sh5 l0 aA bA i8 gA fA cA dA b9 (f4 k2) (f7 k2 (f5 k2 n) 100000)
noncomputable def f2:Nat→Y2
 | 0=>fun _ _ _ _ _ _=>none
 | n+1=>fun l0 aA bA i8 cA dA=>sh2 l0 aA bA i8 cA dA f1 (f5 (f2 n) 100000)
noncomputable def f0 (l:List Rule) (n:Net) (s:List UInt8):R:=sh0 l n s (f2 100000)
theorem T1 (bA):(hid ct1) (fr1 bA)=f1 bA:=by
 refine (congrFun (hid_eq _) _).trans <| (P1 bA).trans ?_
 show _=sh1 bA
 rfl
theorem T3 (KL2:Kont U El) (k2:Y2) (h2:∀ l0 aA bA i8 cA dA,KL2 (fr2 l0 aA bA i8 cA dA)=k2 l0 aA bA i8 cA dA) (l0 aA bA i8 cA dA):(hid (ct3 (hid ct1) KL2)) (fr3 l0 aA bA i8 cA dA)=f3 k2 l0 aA bA i8 cA dA:=by
 refine (congrFun (hid_eq _) _).trans <| (P3 l0 aA bA i8 cA dA (hid ct1) KL2).trans ?_
 show _=sh3 l0 aA bA i8 cA dA k2
 simp only [h2]
theorem T4 (KL2:Kont U El) (k2:Y2) (h2:∀ l0 aA bA i8 cA dA,KL2 (fr2 l0 aA bA i8 cA dA)=k2 l0 aA bA i8 cA dA) (l0 aA bA i8 gA cA dA):(hid (ct4 (hid ct1) (hid (ct3 (hid ct1) KL2)))) (fr4 l0 aA bA i8 gA cA dA)=f4 k2 l0 aA bA i8 gA cA dA:=by
 refine (congrFun (hid_eq _) _).trans <| (P4 l0 aA bA i8 gA cA dA (hid ct1) (hid (ct3 (hid ct1) KL2))).trans ?_
 show _=sh4 l0 aA bA i8 gA cA dA (f3 k2)
 simp only [T3 KL2 k2 h2]
theorem T6 (KL2:Kont U El) (KL5:Kont U El) (k2:Y2) (k5:Y5) (h2:∀ l0 aA bA i8 cA dA,KL2 (fr2 l0 aA bA i8 cA dA)=k2 l0 aA bA i8 cA dA) (h5:∀ l0 aA bA i8 gA fA cA dA b9,KL5 (fr5 l0 aA bA i8 gA fA cA dA b9)=k5 l0 aA bA i8 gA fA cA dA b9) (l0 aA bA i8 gA fA cA dA b9):(hid (ct6 (hid ct1) (hid (ct3 (hid ct1) KL2)) (hid (ct4 (hid ct1) (hid (ct3 (hid ct1) KL2)))) KL5)) (fr6 l0 aA bA i8 gA fA cA dA b9)=f6 k2 k5 l0 aA bA i8 gA fA cA dA b9:=by
 refine (congrFun (hid_eq _) _).trans <| (P6 l0 aA bA i8 gA fA cA dA b9 (hid ct1) (hid (ct3 (hid ct1) KL2)) (hid (ct4 (hid ct1) (hid (ct3 (hid ct1) KL2)))) KL5).trans ?_
 show _=sh6 l0 aA bA i8 gA fA cA dA b9 k5
 simp only [h5]
theorem T8 (KL2:Kont U El) (KL5:Kont U El) (KL7:Kont U El) (k2:Y2) (k5:Y5) (k7:Y7) (h2:∀ l0 aA bA i8 cA dA,KL2 (fr2 l0 aA bA i8 cA dA)=k2 l0 aA bA i8 cA dA) (h5:∀ l0 aA bA i8 gA fA cA dA b9,KL5 (fr5 l0 aA bA i8 gA fA cA dA b9)=k5 l0 aA bA i8 gA fA cA dA b9) (h7:∀ l0 aA bA i8 gA fA jA cA dA b9,KL7 (fr7 l0 aA bA i8 gA fA jA cA dA b9)=k7 l0 aA bA i8 gA fA jA cA dA b9) (l0 aA bA i8 gA fA jA cA dA b9):(hid (ct8 (hid ct1) (hid (ct3 (hid ct1) KL2)) (hid (ct4 (hid ct1) (hid (ct3 (hid ct1) KL2)))) (hid (ct6 (hid ct1) (hid (ct3 (hid ct1) KL2)) (hid (ct4 (hid ct1) (hid (ct3 (hid ct1) KL2)))) KL5)) KL7)) (fr8 l0 aA bA i8 gA fA jA cA dA b9)=f8 k2 k5 k7 l0 aA bA i8 gA fA jA cA dA b9:=by
 refine (congrFun (hid_eq _) _).trans <| (P8 l0 aA bA i8 gA fA jA cA dA b9 (hid ct1) (hid (ct3 (hid ct1) KL2)) (hid (ct4 (hid ct1) (hid (ct3 (hid ct1) KL2)))) (hid (ct6 (hid ct1) (hid (ct3 (hid ct1) KL2)) (hid (ct4 (hid ct1) (hid (ct3 (hid ct1) KL2)))) KL5)) KL7).trans ?_
 show _=sh8 l0 aA bA i8 gA fA jA cA dA b9 k7
 simp only [h7]
theorem T7 (KL2:Kont U El) (KL5:Kont U El) (k2:Y2) (k5:Y5) (h2:∀ l0 aA bA i8 cA dA,KL2 (fr2 l0 aA bA i8 cA dA)=k2 l0 aA bA i8 cA dA) (h5:∀ l0 aA bA i8 gA fA cA dA b9,KL5 (fr5 l0 aA bA i8 gA fA cA dA b9)=k5 l0 aA bA i8 gA fA cA dA b9):∀ (n:Nat),∀ l0 aA bA i8 gA fA jA cA dA b9,it7 (hid ct1) (hid (ct3 (hid ct1) KL2)) (hid (ct4 (hid ct1) (hid (ct3 (hid ct1) KL2)))) (hid (ct6 (hid ct1) (hid (ct3 (hid ct1) KL2)) (hid (ct4 (hid ct1) (hid (ct3 (hid ct1) KL2)))) KL5)) n (fr7 l0 aA bA i8 gA fA jA cA dA b9)=f7 k2 k5 n l0 aA bA i8 gA fA jA cA dA b9:=by
  intro n
  induction n with
  | zero=>intros; rfl
  | succ n ih =>
    intro l0 aA bA i8 gA fA jA cA dA b9
    refine (P7 l0 aA bA i8 gA fA jA cA dA b9 (hid ct1) (hid (ct3 (hid ct1) KL2)) (hid (ct4 (hid ct1) (hid (ct3 (hid ct1) KL2)))) (hid (ct6 (hid ct1) (hid (ct3 (hid ct1) KL2)) (hid (ct4 (hid ct1) (hid (ct3 (hid ct1) KL2)))) KL5)) (it7 (hid ct1) (hid (ct3 (hid ct1) KL2)) (hid (ct4 (hid ct1) (hid (ct3 (hid ct1) KL2)))) (hid (ct6 (hid ct1) (hid (ct3 (hid ct1) KL2)) (hid (ct4 (hid ct1) (hid (ct3 (hid ct1) KL2)))) KL5)) n)).trans ?_
    show _=sh7 l0 aA bA i8 gA fA jA cA dA b9 (f6 k2 k5) (f8 k2 k5 (f7 k2 k5 n))
    simp only [T6 KL2 KL5 k2 k5 h2 h5,T8 KL2 KL5 (it7 (hid ct1) (hid (ct3 (hid ct1) KL2)) (hid (ct4 (hid ct1) (hid (ct3 (hid ct1) KL2)))) (hid (ct6 (hid ct1) (hid (ct3 (hid ct1) KL2)) (hid (ct4 (hid ct1) (hid (ct3 (hid ct1) KL2)))) KL5)) n) k2 k5 (f7 k2 k5 n) h2 h5 ih]
theorem H7 (KL2:Kont U El) (KL5:Kont U El) (k2:Y2) (k5:Y5) (h2:∀ l0 aA bA i8 cA dA,KL2 (fr2 l0 aA bA i8 cA dA)=k2 l0 aA bA i8 cA dA) (h5:∀ l0 aA bA i8 gA fA cA dA b9,KL5 (fr5 l0 aA bA i8 gA fA cA dA b9)=k5 l0 aA bA i8 gA fA cA dA b9) (l0 aA bA i8 gA fA jA cA dA b9):hid (it7 (hid ct1) (hid (ct3 (hid ct1) KL2)) (hid (ct4 (hid ct1) (hid (ct3 (hid ct1) KL2)))) (hid (ct6 (hid ct1) (hid (ct3 (hid ct1) KL2)) (hid (ct4 (hid ct1) (hid (ct3 (hid ct1) KL2)))) KL5)) 100000) (fr7 l0 aA bA i8 gA fA jA cA dA b9)=f7 k2 k5 100000 l0 aA bA i8 gA fA jA cA dA b9:=(congrFun (hid_eq _) _).trans (T7 KL2 KL5 k2 k5 h2 h5 100000 l0 aA bA i8 gA fA jA cA dA b9)
theorem T5 (KL2:Kont U El) (k2:Y2) (h2:∀ l0 aA bA i8 cA dA,KL2 (fr2 l0 aA bA i8 cA dA)=k2 l0 aA bA i8 cA dA):∀ (n:Nat),∀ l0 aA bA i8 gA fA cA dA b9,it5 (hid ct1) (hid (ct3 (hid ct1) KL2)) (hid (ct4 (hid ct1) (hid (ct3 (hid ct1) KL2)))) n (fr5 l0 aA bA i8 gA fA cA dA b9)=f5 k2 n l0 aA bA i8 gA fA cA dA b9:=by
  intro n
  induction n with
  | zero=>intros; rfl
  | succ n ih =>
    intro l0 aA bA i8 gA fA cA dA b9
    refine (P5 l0 aA bA i8 gA fA cA dA b9 (hid ct1) (hid (ct3 (hid ct1) KL2)) (hid (ct4 (hid ct1) (hid (ct3 (hid ct1) KL2)))) (it5 (hid ct1) (hid (ct3 (hid ct1) KL2)) (hid (ct4 (hid ct1) (hid (ct3 (hid ct1) KL2)))) n)).trans ?_
    show _=sh5 l0 aA bA i8 gA fA cA dA b9 (f4 k2) (f7 k2 (f5 k2 n) 100000)
    simp only [T4 KL2 k2 h2,H7 KL2 (it5 (hid ct1) (hid (ct3 (hid ct1) KL2)) (hid (ct4 (hid ct1) (hid (ct3 (hid ct1) KL2)))) n) k2 (f5 k2 n) h2 ih]
theorem H5 (KL2:Kont U El) (k2:Y2) (h2:∀ l0 aA bA i8 cA dA,KL2 (fr2 l0 aA bA i8 cA dA)=k2 l0 aA bA i8 cA dA) (l0 aA bA i8 gA fA cA dA b9):hid (it5 (hid ct1) (hid (ct3 (hid ct1) KL2)) (hid (ct4 (hid ct1) (hid (ct3 (hid ct1) KL2)))) 100000) (fr5 l0 aA bA i8 gA fA cA dA b9)=f5 k2 100000 l0 aA bA i8 gA fA cA dA b9:=(congrFun (hid_eq _) _).trans (T5 KL2 k2 h2 100000 l0 aA bA i8 gA fA cA dA b9)
theorem T2:∀ (n:Nat),∀ l0 aA bA i8 cA dA,it2 (hid ct1) n (fr2 l0 aA bA i8 cA dA)=f2 n l0 aA bA i8 cA dA:=by
  intro n
  induction n with
  | zero=>intros; rfl
  | succ n ih =>
    intro l0 aA bA i8 cA dA
    refine (P2 l0 aA bA i8 cA dA (hid ct1) (it2 (hid ct1) n)).trans ?_
    show _=sh2 l0 aA bA i8 cA dA f1 (f5 (f2 n) 100000)
    simp only [T1,H5 (it2 (hid ct1) n) (f2 n) ih]
theorem H2 (l0 aA bA i8 cA dA):hid (it2 (hid ct1) 100000) (fr2 l0 aA bA i8 cA dA)=f2 100000 l0 aA bA i8 cA dA:=(congrFun (hid_eq _) _).trans (T2 100000 l0 aA bA i8 cA dA)
theorem T0 (l n s):exec X bd (.seq none .d (.seq none .d (.seq (some nm1) (.seq none .d (.block (.loop nm2 (.seq none .d (.seq (some nm3) (.block (.seq none .d (.seq none .d (.seq (some nm4) (.seq none .d (.block (.loop nm5 (.seq none .d (.seq (some nm6) (.block (.seq none .d (.block (.loop nm7 (.seq none .d (.seq (some nm8) .d .d)))))) .d))))) .d)))) .d))))) .d))) (fr0 l n s) RR (fun _ _=>none) RR=f0 l n s:=by
 refine (P0 l n s).trans ?_
 show _=sh0 l n s (f2 100000)
 simp only [H2]
theorem run (l n s):runFn X bd (.seq none .d (.seq none .d (.seq (some nm1) (.seq none .d (.block (.loop nm2 (.seq none .d (.seq (some nm3) (.block (.seq none .d (.seq none .d (.seq (some nm4) (.seq none .d (.block (.loop nm5 (.seq none .d (.seq (some nm6) (.block (.seq none .d (.block (.loop nm7 (.seq none .d (.seq (some nm8) .d .d)))))) .d))))) .d)))) .d))))) .d))) nmR [6] [6] [(.lst .rule l),(.agg [(.lst .node n.nds),(.lst .link n.lks)]),(.str s)]=f0 l n s:=T0 l n s
theorem in7 (k2 : Y2) (k5 : Y5) (l : List Rule) (s : List UInt8) (out : List (List Int)) (nds : List Node) (lks : List Lnk) (i k : Nat) (hi : i < nds.length) (hk : k < l.length) (hr : l[k].rw.length ≤ 100) : ∀ (n j : Nat) (m : List Int), l[k].rw.length < n + j → j ≤ l[k].rw.length → m.length + (l[k].rw.length - j) ≤ 80000 →
    f7 k2 k5 n l s out (i:Int) m (k:Int) (j:Int) nds lks (possS nds[i])=f6 k2 k5 l s out (i:Int) (List.foldl putL m ((l[k].rw.drop j).flatMap (levC nds[i] s l[k]))) (k:Int) nds lks (possS nds[i]):=by
  intro n
  induction n with
  | zero=>intro j m h1 h2; omega
  | succ n ih =>
    intro j m h1 h2 h3
    show sh7 l s out (i:Int) m (k:Int) (j:Int) nds lks (possS nds[i]) (f6 k2 k5) (f8 k2 k5 (f7 k2 k5 n))=_
    unfold sh7
    rw [inbT hk,toNat_nat k,getD_lt hk]
    by_cases hj:j < l[k].rw.length
    · have hk8 : ∀ m' : List Int, m'.length ≤ m.length + 1 → f8 k2 k5 (f7 k2 k5 n) l s out (i : Int) m' (k : Int) (j : Int) nds lks (possS nds[i]) = f6 k2 k5 l s out (i : Int) (List.foldl putL m' ((l[k].rw.drop (j + 1)).flatMap (levC nds[i] s l[k]))) (k : Int) nds lks (possS nds[i]) := fun m' hm => by
        show f7 k2 k5 n l s out (i:Int) m' (k:Int) (IntKind.wrap .i64 ((j:Int)+1)) nds lks (possS nds[i])=_
        rw [wrapS j (by omega)]
        exact ih (j+1) m' (by omega) hj (by omega)
      rw [iltT (by simp; omega),inbT hj,inbT hi,toNat_nat j,toNat_nat i,getD_lt hj,getD_lt hi,drop_lt hj,List.flatMap_cons,List.foldl_append,hk8 m (by omega),hk8 (putL m l[k].rw[j].cl) (putL_len _ _),nleT (show m.length≤80000 by omega)]
      simp only [chkT,condT]
      have hc:levC nds[i] s l[k] l[k].rw[j]=bif (l[k].rl == s)&&((l[k].rw[j].cn == nds[i].nn)&&(ilt (possS nds[i]).slo l[k].rw[j].cl&&ile l[k].rw[j].cl (possS nds[i]).shi)) then [l[k].rw[j].cl] else []:=rfl
      rw [hc]
      cases l[k].rl == s
      · rfl
      · cases l[k].rw[j].cn == nds[i].nn
        · rfl
        · cases ilt (possS nds[i]).slo l[k].rw[j].cl<;>cases ile l[k].rw[j].cl (possS nds[i]).shi<;>rfl
    · have : j = l[k].rw.length := by omega
      subst this
      rw [iltF (by simp),List.drop_length]
      rfl
theorem in5 (k2:Y2) (l:List Rule) (hr:∀ r∈l,r.rw.length≤100) (hl:l.length≤100) (s:List UInt8) (out:List (List Int)) (nds:List Node) (lks:List Lnk) (i:Nat) (hi:i < nds.length):∀ (n k:Nat) (m:List Int),l.length < n+k→k≤l.length→m.length≤1+100 * k →
    f5 k2 n l s out (i:Int) m (k:Int) nds lks (possS nds[i])=f4 k2 l s out (i:Int) (List.foldl putL m (levM nds[i] s (l.drop k))) nds lks:=by
  intro n
  induction n with
  | zero=>intro k m h1 h2; omega
  | succ n ih =>
    intro k m h1 h2 h3
    show sh5 l s out (i:Int) m (k:Int) nds lks (possS nds[i]) (f4 k2) (f7 k2 (f5 k2 n) 100000)=_
    unfold sh5
    by_cases hk:k < l.length
    · have hrk := hr _ (List.getElem_mem hk)
      have e:=in7 k2 (f5 k2 n) l s out nds lks i k hi hk hrk 100000 0 m (by omega) (by omega) (by omega)
      rw [iltT (by simp; omega),drop_lt hk]
      rw [show ((0:Int))=((0:Nat):Int) from rfl,e,List.drop_zero]
      show f5 k2 n l s out (i:Int) (List.foldl putL m (levR nds[i] s l[k])) (IntKind.wrap .i64 ((k:Int)+1)) nds lks (possS nds[i])=_
      have h4:=levR_len nds[i] s l[k]
      have h5:=foldl_put_len (levR nds[i] s l[k]) m
      rw [wrapS k (by omega),ih (k+1) _ (by omega) hk (by omega)]
      show _=f4 k2 l s out (i:Int) (List.foldl putL m (levR nds[i] s l[k]++levM nds[i] s (l.drop (k+1)))) nds lks
      rw [List.foldl_append]
    · have : k = l.length := by omega
      subst this
      rw [iltF (by simp),List.drop_length]
      rfl
theorem loop (l:List Rule) (hr:∀ r∈l,r.rw.length≤100) (hl:l.length≤100) (s:List UInt8) (nds:List Node) (lks:List Lnk) (hn:nds.length≤90000):∀ (n i:Nat) (out:List (List Int)),nds.length < n+i→i≤nds.length→out.length=i →
    f2 n l s out (i:Int) nds lks=some (.ful 0,[(0,.rows .ints (out++(nds.drop i).map fun x=>padX x s l))]):=by
  intro n
  induction n with
  | zero=>intro i out h1 h2; omega
  | succ n ih =>
    intro i out h1 h2 h3
    show sh2 l s out (i:Int) nds lks f1 (f5 (f2 n) 100000)=_
    unfold sh2
    by_cases hi:i < nds.length
    · have e := in5 (f2 n) l hr hl s out nds lks i hi 100000 0 [(possS nds[i]).slo] (by omega) (by omega) (by simp)
      rw [iltT (by simp; omega),inbT hi,toNat_nat,getD_lt hi,drop_lt hi]
      rw [show ((0:Int))=((0:Nat):Int) from rfl,e,List.drop_zero]
      show sh4 l s out (i:Int) (padX nds[i] s l) nds lks (f3 (f2 n))=_
      unfold sh4
      rw [nleT (show _≤140737488355328 by simp; omega),nleT (show _≤9223372036854775807 by simp; omega)]
      show f2 n l s (out++[padX nds[i] s l]) (IntKind.wrap .i64 ((i:Int)+1)) nds lks=_
      rw [wrapS i (by omega),ih (i+1) _ (by omega) hi (by simp; omega)]
      simp only [List.map_cons,List.append_assoc,List.singleton_append]
    · have : i = nds.length := by omega
      subst this
      rw [iltF (by simp),List.drop_length,List.map_nil,List.append_nil]
      rfl
theorem f0_eq (l:List Rule) (n:Net) (s:List UInt8) (h:(okN n&&smallR l)=true):f0 l n s=some (.ful 0,[(0,.rows .ints (padM l n s))]):=by
 simp only [Bool.and_eq_true] at h
 obtain ⟨h1,h2⟩:=smallR_len h.2
 have hn:=nleI (okN_nds h.1)
 exact loop l h2 h1 s n.nds n.lks hn 100000 0 [] (by omega) (by omega) rfl
theorem ok:CtxOk Tryz.prog X:=ctxOk tab (spC rpossible.spOk (spC put.spOk spN)) dpN
theorem okM:MOk Tryz.prog X:=fun g sp h=>by cases h
theorem spec (l:List Rule) (n:Net) (s:List UInt8) (h:((okN n&&smallR l))=true):CallSpec Tryz.prog E 69 [(.lst .rule l),(.agg [(.lst .node n.nds),(.lst .link n.lks)]),(.str s)] (.ful 0) [(0,.rows .ints (padM l n s))] :=
 rfs ok okM Tryz.call69 Tryz.func69 ((run l n s).trans (f0_eq l n s h))
noncomputable def sp:Sp U El:=fun args k=>match args with
 | [.lst .rule l,.agg [.lst .node n_nds,.lst .link n_lks],.str s]=>chk ((okN (⟨n_nds,n_lks⟩:Net)&&smallR l)) (k (.ful 0) [(0,.rows .ints (padM l (⟨n_nds,n_lks⟩:Net) s))])
 | _=>none
theorem spOk:SpOk Tryz.prog E 69 sp:=⟨fun vs=>by unfold sp;split;exact det_c _ _ _;exact ⟨none,fun _=>rfl⟩,fun vs k r h=>by unfold sp at h;split at h;(obtain ⟨h1,h2⟩:=chk_some h;exact ⟨_,_,spec _ ⟨_,_⟩ _ h1,h2⟩);cases h⟩
end rmarks
namespace rcount
noncomputable def bd:Code:=(Tryz.f68.body).getD .skip
noncomputable def X:Ctx U El:=⟨E,tds,zeros,eqs,specOf [],100000,21,dspecOf [],fun _=>none,fun _=>none⟩
noncomputable def nmR:Norm U:=⟨[],[2],[],[],[],[],[]⟩
noncomputable def RR:Kont U El:=fun st=>normK nmR st (retFin [2] [])
noncomputable def nm1:Norm U:=⟨[],[3],[],[],[],[],[]⟩
noncomputable def nm2:Norm U:=⟨[],[0,3,4],[],[],[],[],[]⟩
abbrev Y1:=Int→R
abbrev Y2:=(List (List Int))→Int→Int→R
noncomputable def fr0 (m:List (List Int)):St U El:=⟨[(0,(.lst .ints m))],[]⟩
noncomputable def fr1 (n3:Int):St U El:=⟨[(3,(.int .i64 n3))],[]⟩
noncomputable def fr2 (eA:List (List Int)) (n3:Int) (i4:Int):St U El:=⟨[(0,(.lst .ints eA)),(3,(.int .i64 n3)),(4,(.int .i64 i4))],[]⟩
noncomputable def sh0 (m:List (List Int)) (k2:Y2):R :=
 k2 m (1:Int) (0:Int)
noncomputable def sh1 (n3:Int):R :=
 some ((.int .i64 n3),[])
noncomputable def sh2 (eA:List (List Int)) (n3:Int) (i4:Int) (k1:Y1) (k2:Y2):R :=
 condB (ilt i4 (Int.ofNat (List.length eA))) (chk (inb i4 (List.length eA)) (condB (ilt (10000:Int) (IntKind.wrap .i64 (n3 * (Int.ofNat (List.length (List.getD eA (Int.toNat i4) d_ints)))))) (some ((.int .i64 (10001:Int)),[])) (k2 eA (IntKind.wrap .i64 (n3 * (Int.ofNat (List.length (List.getD eA (Int.toNat i4) d_ints))))) (IntKind.wrap .i64 (i4+(1:Int)))))) (k1 n3)
noncomputable def it2 (Kb1:Kont U El) (n:Nat):Kont U El:=iter nm2 (fun st' K'=>exec X (cdp [1,1,0,1,0,0] bd) .d st' K' (Eblk 0 (cutK nm1 Kb1) (fun _ _=>none)) RR) n
noncomputable def ct1:Kont U El:=fun st=>exec X (cdp [1,1,1] bd) .d st RR (fun _ _=>none) RR
theorem P0 (m):exec X (cdp [] bd) (.seq none .d (.seq none .d (.seq (some nm1) (.seq none .d (.block (.loop nm2 .d))) .d))) (fr0 m) RR (fun _ _=>none) RR=sh0 m (fun y0 y1 y2=>(hid (it2 (hid ct1) 100000)) (fr2 y0 y1 y2)):=by kernel_rfl
theorem P1 (n3):ct1 (fr1 n3)=sh1 n3:=by kernel_rfl
theorem P2 (eA n3 i4) (Kb1 Kb2:Kont U El):exec X (cdp [1,1,0,1,0,0] bd) .d (fr2 eA n3 i4) (cutK nm2 Kb2) (Eblk 0 (cutK nm1 Kb1) (fun _ _=>none)) RR=sh2 eA n3 i4 (fun y0=>Kb1 (fr1 y0)) (fun y0 y1 y2=>Kb2 (fr2 y0 y1 y2)):=by kernel_rfl
noncomputable def f1 (n3:Int):R:=sh1 n3
noncomputable def f2:Nat→Y2
 | 0=>fun _ _ _=>none
 | n+1=>fun eA n3 i4=>sh2 eA n3 i4 f1 (f2 n)
noncomputable def f0 (m:List (List Int)):R:=sh0 m (f2 100000)
theorem T1 (n3):(hid ct1) (fr1 n3)=f1 n3:=by
 refine (congrFun (hid_eq _) _).trans <| (P1 n3).trans ?_
 show _=sh1 n3
 rfl
theorem T2:∀ (n:Nat),∀ eA n3 i4,it2 (hid ct1) n (fr2 eA n3 i4)=f2 n eA n3 i4:=by
  intro n
  induction n with
  | zero=>intros; rfl
  | succ n ih =>
    intro eA n3 i4
    refine (P2 eA n3 i4 (hid ct1) (it2 (hid ct1) n)).trans ?_
    show _=sh2 eA n3 i4 f1 (f2 n)
    simp only [T1,ih]
theorem H2 (eA n3 i4):hid (it2 (hid ct1) 100000) (fr2 eA n3 i4)=f2 100000 eA n3 i4:=(congrFun (hid_eq _) _).trans (T2 100000 eA n3 i4)
theorem T0 (m):exec X bd (.seq none .d (.seq none .d (.seq (some nm1) (.seq none .d (.block (.loop nm2 .d))) .d))) (fr0 m) RR (fun _ _=>none) RR=f0 m:=by
 refine (P0 m).trans ?_
 show _=sh0 m (f2 100000)
 simp only [H2]
theorem run (m):runFn X bd (.seq none .d (.seq none .d (.seq (some nm1) (.seq none .d (.block (.loop nm2 .d))) .d))) nmR [2] [] [(.lst .ints m)]=f0 m:=T0 m
theorem loop (m : List (List Int)) (hm : okMs m = true) : ∀ (n i : Nat) (c : Int), m.length < n + i → i ≤ m.length → 0 ≤ c → c ≤ 10000 → f2 n m c (i : Int) = outI (cntF c (m.drop i)) := by
  obtain ⟨hl,hx⟩:=okM_at hm
  intro n
  induction n with
  | zero=>intro i c h1 h2; omega
  | succ n ih =>
    intro i c h1 h2 h3 h4
    show sh2 m c (i:Int) f1 (f2 n)=_
    unfold sh2
    by_cases hi:i < m.length
    · obtain ⟨x1, x2⟩ := hx _ (List.getElem_mem hi)
      have y1:0≤c * Int.ofNat m[i].length:=Int.mul_nonneg h3 (by simp)
      have y2:c * Int.ofNat m[i].length≤10000 * 100000:=Int.mul_le_mul h4 (by simp; omega) (by simp) (by omega)
      rw [iltT (by simp; omega),inbT hi,toNat_nat,getD_lt hi,drop_lt hi,wrapI (by omega) (by omega),wrapS i (by omega)]
      simp only [condT,chkT]
      unfold cntF
      by_cases hb:(10000:Int) < c * Int.ofNat m[i].length
      · rw [iltT hb]; rfl
      · rw [iltF hb, condF, cond_false]
        exact ih (i+1) _ (by omega) hi y1 (by omega)
    · have : i = m.length := by omega
      subst this
      rw [iltF (by simp),List.drop_length]
      rfl
theorem f0_eq (m:List (List Int)) (h:okMs m=true):f0 m=outI (countZ m) :=
 loop m h 100000 0 1 (by have:=(okM_at h).1; omega) (by omega) (by omega) (by omega)
theorem ok:CtxOk Tryz.prog X:=ctxOk tab spN dpN
theorem okM:MOk Tryz.prog X:=fun g sp h=>by cases h
theorem spec (m:List (List Int)) (h:(okMs m)=true):CallSpec Tryz.prog E 68 [(.lst .ints m)] (.int .i64 (countZ m)) [] :=
 rfs ok okM Tryz.call68 Tryz.func68 ((run m).trans (f0_eq m h))
noncomputable def sp:Sp U El:=fun args k=>match args with
 | [.lst .ints m]=>chk (okMs m) (k (.int .i64 (countZ m)) [])
 | _=>none
theorem spOk:SpOk Tryz.prog E 68 sp:=⟨fun vs=>by unfold sp;split;exact det_c _ _ _;exact ⟨none,fun _=>rfl⟩,fun vs k r h=>by unfold sp at h;split at h;(obtain ⟨h1,h2⟩:=chk_some h;exact ⟨_,_,spec _ h1,h2⟩);cases h⟩
end rcount
namespace many
noncomputable def bd:Code:=(Tryz.f24.body).getD .skip
noncomputable def X:Ctx U El:=⟨E,tds,zeros,eqs,specOf [(68,rcount.sp),(69,rmarks.sp)],100000,19,dspecOf [],fun _=>none,fun _=>none⟩
noncomputable def nmR:Norm U:=⟨[],[6],[],[],[],[],[]⟩
noncomputable def RR:Kont U El:=fun st=>normK nmR st (retFin [6] [])
noncomputable def fr0 (l:List Rule) (n:Net) (s:List UInt8):St U El:=⟨[(0,(.lst .rule l)),(1,(.agg [(.lst .node n.nds),(.lst .link n.lks)])),(2,(.str s))],[]⟩
noncomputable def sh0 (l:List Rule) (n:Net) (s:List UInt8):R :=
 chk ((okN n&&smallR l)) (chk (okMs (padM l n s)) (condB (ilt (400:Int) (countZ (padM l n s))) (some ((.bool (ile (countZ (padM l n s)) (10000:Int))),[])) (some ((.bool false),[]))))
theorem P0 (l n s):exec X (cdp [] bd) .d (fr0 l n s) RR (fun _ _=>none) RR=sh0 l n s:=by kernel_rfl
noncomputable def f0 (l:List Rule) (n:Net) (s:List UInt8):R:=sh0 l n s
theorem T0 (l n s):exec X bd .d (fr0 l n s) RR (fun _ _=>none) RR=f0 l n s:=by
 refine (P0 l n s).trans ?_
 show _=sh0 l n s
 rfl
theorem run (l n s):runFn X bd .d nmR [6] [] [(.lst .rule l),(.agg [(.lst .node n.nds),(.lst .link n.lks)]),(.str s)]=f0 l n s:=T0 l n s
theorem f0_eq (l:List Rule) (n:Net) (s:List UInt8) (h:(okN n&&smallR l)=true):f0 l n s=outB (manyB l n s):=by
 show sh0 l n s=_
 unfold sh0 manyB
 have h':=h
 simp only [Bool.and_eq_true] at h'
 rw [h,padM_ok h'.1 h'.2]
 exact cAnd outB _ _
theorem ok:CtxOk Tryz.prog X:=ctxOk tab (spC rcount.spOk (spC rmarks.spOk spN)) dpN
theorem okM:MOk Tryz.prog X:=fun g sp h=>by cases h
theorem spec (l:List Rule) (n:Net) (s:List UInt8) (h:((okN n&&smallR l))=true):CallSpec Tryz.prog E 24 [(.lst .rule l),(.agg [(.lst .node n.nds),(.lst .link n.lks)]),(.str s)] (.bool (manyB l n s)) [] :=
 rfs ok okM Tryz.call24 Tryz.func24 ((run l n s).trans (f0_eq l n s h))
noncomputable def sp:Sp U El:=fun args k=>match args with
 | [.lst .rule l,.agg [.lst .node n_nds,.lst .link n_lks],.str s]=>chk ((okN (⟨n_nds,n_lks⟩:Net)&&smallR l)) (k (.bool (manyB l (⟨n_nds,n_lks⟩:Net) s)) [])
 | _=>none
theorem spOk:SpOk Tryz.prog E 24 sp:=⟨fun vs=>by unfold sp;split;exact det_c _ _ _;exact ⟨none,fun _=>rfl⟩,fun vs k r h=>by unfold sp at h;split at h;(obtain ⟨h1,h2⟩:=chk_some h;exact ⟨_,_,spec _ ⟨_,_⟩ _ h1,h2⟩);cases h⟩
end many
end Go.Proofs.YthdimnlkcgchoaaGreat
