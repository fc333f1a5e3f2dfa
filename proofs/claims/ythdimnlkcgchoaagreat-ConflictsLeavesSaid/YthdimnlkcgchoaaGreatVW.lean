/- The document's marks and corners. -/
import Derived.Test.YthdimnlkcgchoaaGreatVP
namespace Go.Proofs.YthdimnlkcgchoaaGreat
set_option linter.unusedSectionVars false
set_option linter.unusedSimpArgs false
set_option linter.unusedVariables false
set_option maxRecDepth 100000
noncomputable def dL (l:List Rule):Bool:=nle l.length 100&&List.all l (fun r=>nle r.rw.length 100)
noncomputable def mf (m:List (List Int)):Bool:=nle m.length 90000&&List.all m (fun x=>nlt 0 x.length&&nle x.length 100000)
noncomputable def r4:Int→List (List Int)→Int
  | c,[]=>c
  | c,x :: m=>bif ilt 10000 (c * Int.ofNat x.length) then 10001 else r4 (c * Int.ofNat x.length) m
noncomputable def gP (m:List (List Int)):Int:=r4 1 m
noncomputable def lq (l:List Rule) (n:Net) (s:List UInt8):Bool:=ilt 400 (gP (cM l n s))&&ile (gP (cM l n s)) 10000
noncomputable def pZ (v:List Int):R:=some (.lst .int v,[])
theorem km {l:List Rule} (h:dL l=true):l.length≤100∧∀ r∈l,r.rw.length≤100:=by
  simp only [dL,Bool.and_eq_true] at h
  exact ⟨bQ h.1,fun r hr=>bQ (List.all_eq_true.1 h.2 r hr)⟩
theorem nl:∀ (l:List Int) (x:Int),(dx l x).length≤l.length+1:=by
  intro l
  induction l with
  | nil=>intro x; simp [dx]
  | cons y l ih =>
    intro x
    have:=ih x
    unfold dx
    cases ilt y x
    · cases y == x<;>simp
    · simp only [cond_true,List.length_cons]; omega
theorem gy:∀ (v:List Int) (a:List Int),(v.foldl dx a).length≤a.length+v.length:=by
  intro v
  induction v with
  | nil=>intro a; simp
  | cons x v ih =>
    intro a
    have h1:=ih (dx a x); have h2:=nl a x
    simp only [List.foldl_cons,List.length_cons]
    omega
theorem no (x:Node) (s:List UInt8) (r:Rule):(kM x s r).length≤r.rw.length:=by
  have:=m5 (kL x s r) 1 (fun c=>by unfold kL; cases (r.rl == s)&&((c.cn == x.nn)&&(ilt (aM x).slo c.cl&&ile c.cl (aM x).shi))<;>simp) r.rw
  unfold kM; omega
theorem rh (x:Node) (s:List UInt8):∀ (l:List Rule),(∀ r∈l,r.rw.length≤100)→(fy x s l).length≤100 * l.length:=by
  intro l
  induction l with
  | nil=>intro _; simp [fy]
  | cons r l ih =>
    intro h
    have h1:=ih fun r hr=>h r (by simp [hr])
    have h2:=no x s r
    have h3:=h r (by simp)
    unfold fy at h1 ⊢
    rw [List.flatMap_cons,List.length_append,List.length_cons]
    omega
theorem r5 {l:List Rule} {n:Net} (hn:okN n=true) (hl:dL l=true) (s:List UInt8):mf (cM l n s)=true:=by
  obtain ⟨h1,h2⟩:=km hl
  have h3:=bQ (cr hn)
  simp only [mf,Bool.and_eq_true]
  refine ⟨bE (by simpa [cM] using h3),List.all_eq_true.2 fun m hm => ?_⟩
  obtain ⟨x,_,rfl⟩:=List.mem_map.1 hm
  have h4:=rh x s l h2
  have h5:=gy (fy x s l) [(aM x).slo]
  have h6:0 < (ee x s l).length:=List.length_pos_iff.2 (rY x s l)
  rw [df h6,bE (show (ee x s l).length≤100000 by unfold ee; simp at h5; omega)]
  rfl
theorem ri {m:List (List Int)} (h:mf m=true):m.length≤90000∧∀ x∈m,0 < x.length∧x.length≤100000:=by
  simp only [mf,Bool.and_eq_true] at h
  refine ⟨bQ h.1,fun x hx => ?_⟩
  have:=List.all_eq_true.1 h.2 x hx
  simp only [Bool.and_eq_true] at this
  exact ⟨of_decide_eq_true this.1,bQ this.2⟩
namespace put
noncomputable def bd:Code:=(Tryz.f116.body).getD .skip
noncomputable def X:Ctx U El:=⟨E,tds,zeros,eqs,aC [],100000,48,ap [],fun _=>none⟩
noncomputable def nmR:Norm U:=⟨[],[4],[],[(4,.int)],[],[],[]⟩
noncomputable def RR:ab U El:=fun st=>aE nmR st (aD [4] [])
noncomputable def nm1:Norm U:=⟨[],[0,1,5],[],[],[],[],[]⟩
noncomputable def nm2:Norm U:=⟨[],[0,1,5],[],[],[],[],[]⟩
noncomputable def nm3:Norm U:=⟨[],[0,1,5],[],[],[],[],[]⟩
noncomputable def nm4:Norm U:=⟨[],[0,1,5],[],[],[],[],[]⟩
abbrev Y1:=(List Int)→Int→Int→R
abbrev Y2:=(List Int)→Int→Int→R
abbrev Y3:=(List Int)→Int→Int→R
abbrev Y4:=(List Int)→Int→Int→R
noncomputable def fr0 (l:List Int) (x:Int):St U El:=⟨[(0,(.lst .int l)),(1,(.int .i64 x))],[]⟩
noncomputable def fr1 (l0:List Int) (x1:Int) (hA:Int):St U El:=⟨[(0,(.lst .int l0)),(1,(.int .i64 x1)),(5,(.int .i64 hA))],[]⟩
noncomputable def fr2 (l0:List Int) (x1:Int) (hA:Int):St U El:=⟨[(0,(.lst .int l0)),(1,(.int .i64 x1)),(5,(.int .i64 hA))],[]⟩
noncomputable def fr3 (l0:List Int) (x1:Int) (hA:Int):St U El:=⟨[(0,(.lst .int l0)),(1,(.int .i64 x1)),(5,(.int .i64 hA))],[]⟩
noncomputable def fr4 (l0:List Int) (x1:Int) (hA:Int):St U El:=⟨[(0,(.lst .int l0)),(1,(.int .i64 x1)),(5,(.int .i64 hA))],[]⟩
noncomputable def sh0 (l:List Int) (x:Int) (k2:Y2):R :=
  k2 l x (0:Int)
noncomputable def sh1 (l0:List Int) (x1:Int) (hA:Int) (k4:Y4):R :=
  aa (ilt hA (Int.ofNat (List.length l0))) (chk (inb hA (List.length l0)) (aa ((List.getD l0 (Int.toNat hA) aL) == x1) (some ((.lst .int l0),[])) (k4 l0 x1 hA))) (k4 l0 x1 hA)
noncomputable def sh2 (l0:List Int) (x1:Int) (hA:Int) (k1:Y1) (k3:Y3):R :=
  aa (ilt hA (Int.ofNat (List.length l0))) (chk (inb hA (List.length l0)) (aa (ilt (List.getD l0 (Int.toNat hA) aL) x1) (k3 l0 x1 hA) (k1 l0 x1 hA))) (k1 l0 x1 hA)
noncomputable def sh3 (l0:List Int) (x1:Int) (hA:Int) (k2:Y2):R :=
  k2 l0 x1 (IntKind.wrap .i64 (hA+(1:Int)))
noncomputable def sh4 (l0:List Int) (x1:Int) (hA:Int):R :=
  chk (ile 0 (0:Int)&&ile (0:Int) hA&&ile hA (Int.ofNat (List.length l0))) (chk (nle ((List.length ([]:List Int)+List.length (sub l0 (0:Int) hA)) * 8) 140737488355328&&nle (List.length ([]:List Int)+List.length (sub l0 (0:Int) hA)) 9223372036854775807) (chk (nle ((List.length (([]:List Int)++(sub l0 (0:Int) hA))+List.length ([x1]:List Int)) * 8) 140737488355328&&nle (List.length (([]:List Int)++(sub l0 (0:Int) hA))+List.length ([x1]:List Int)) 9223372036854775807) (chk (ile 0 hA&&ile hA (Int.ofNat (List.length l0))&&ile (Int.ofNat (List.length l0)) (Int.ofNat (List.length l0))) (chk (nle ((List.length ((([]:List Int)++(sub l0 (0:Int) hA))++([x1]:List Int))+List.length (sub l0 hA (Int.ofNat (List.length l0)))) * 8) 140737488355328&&nle (List.length ((([]:List Int)++(sub l0 (0:Int) hA))++([x1]:List Int))+List.length (sub l0 hA (Int.ofNat (List.length l0)))) 9223372036854775807) (some ((.lst .int (((([]:List Int)++(sub l0 (0:Int) hA))++([x1]:List Int))++(sub l0 hA (Int.ofNat (List.length l0))))),[]))))))
noncomputable def it2 (Kb1:ab U El) (n:Nat):ab U El:=bw nm2 (fun st' K'=>ac X (cdp [1,1,0,0,0] bd) (.seq (some nm3) .d .d) st' K' (aq 0 (ah nm1 Kb1) (fun _ _=>none)) RR) n
noncomputable def ct1:ab U El:=fun st=>ac X (cdp [1,1,1] bd) (.seq (some nm4) .d .d) st RR (fun _ _=>none) RR
noncomputable def ct3 (Kb1 Kb2:ab U El):ab U El:=fun st=>ac X (cdp [1,1,0,0,0,1] bd) .d st (ah nm2 Kb2) (aq 0 (ah nm1 Kb1) (fun _ _=>none)) RR
noncomputable def ct4:ab U El:=fun st=>ac X (cdp [1,1,1,1] bd) .d st RR (fun _ _=>none) RR
theorem P0 (l x):ac X (cdp [] bd) (.seq none .d (.seq none .d (.seq (some nm1) (.block (.loop nm2 (.seq (some nm3) .d .d))) (.seq (some nm4) .d .d)))) (fr0 l x) RR (fun _ _=>none) RR=sh0 l x (fun y0 y1 y2=>(hid (it2 (hid ct1) 100000)) (fr2 y0 y1 y2)):=by kernel_rfl
theorem P1 (l0 x1 hA):ct1 (fr1 l0 x1 hA)=sh1 l0 x1 hA (fun y0 y1 y2=>(hid ct4) (fr4 y0 y1 y2)):=by kernel_rfl
theorem P2 (l0 x1 hA) (Kb1 Kb2:ab U El):ac X (cdp [1,1,0,0,0] bd) (.seq (some nm3) .d .d) (fr2 l0 x1 hA) (ah nm2 Kb2) (aq 0 (ah nm1 Kb1) (fun _ _=>none)) RR=sh2 l0 x1 hA (fun y0 y1 y2=>Kb1 (fr1 y0 y1 y2)) (fun y0 y1 y2=>(hid (ct3 Kb1 Kb2)) (fr3 y0 y1 y2)):=by kernel_rfl
theorem P3 (l0 x1 hA) (Kb1 Kb2:ab U El):ct3 Kb1 Kb2 (fr3 l0 x1 hA)=sh3 l0 x1 hA (fun y0 y1 y2=>Kb2 (fr2 y0 y1 y2)):=by kernel_rfl
theorem P4 (l0 x1 hA):ct4 (fr4 l0 x1 hA)=sh4 l0 x1 hA:=by kernel_rfl
noncomputable def f4 (l0:List Int) (x1:Int) (hA:Int):R:=sh4 l0 x1 hA
noncomputable def f1 (l0:List Int) (x1:Int) (hA:Int):R:=sh1 l0 x1 hA f4
noncomputable def f3 (k2:Y2) (l0:List Int) (x1:Int) (hA:Int):R:=sh3 l0 x1 hA k2
noncomputable def f2:Nat→Y2
  | 0=>fun _ _ _=>none
  | n+1=>fun l0 x1 hA=>sh2 l0 x1 hA f1 (f3 (f2 n))
noncomputable def f0 (l:List Int) (x:Int):R:=sh0 l x (f2 100000)
theorem T4 (l0 x1 hA):(hid ct4) (fr4 l0 x1 hA)=f4 l0 x1 hA:=by
  refine (congrFun (ai _) _).trans <| (P4 l0 x1 hA).trans ?_
  show _=sh4 l0 x1 hA
  rfl
theorem T1 (l0 x1 hA):(hid ct1) (fr1 l0 x1 hA)=f1 l0 x1 hA:=by
  refine (congrFun (ai _) _).trans <| (P1 l0 x1 hA).trans ?_
  show _=sh1 l0 x1 hA f4
  simp only [T4]
theorem T3 (KL2:ab U El) (k2:Y2) (h2:∀ l0 x1 hA,KL2 (fr2 l0 x1 hA)=k2 l0 x1 hA) (l0 x1 hA):(hid (ct3 (hid ct1) KL2)) (fr3 l0 x1 hA)=f3 k2 l0 x1 hA:=by
  refine (congrFun (ai _) _).trans <| (P3 l0 x1 hA (hid ct1) KL2).trans ?_
  show _=sh3 l0 x1 hA k2
  simp only [h2]
theorem T2:∀ (n:Nat),∀ l0 x1 hA,it2 (hid ct1) n (fr2 l0 x1 hA)=f2 n l0 x1 hA:=by
  intro n
  induction n with
  | zero=>intros; rfl
  | succ n ih =>
    intro l0 x1 hA
    refine (P2 l0 x1 hA (hid ct1) (it2 (hid ct1) n)).trans ?_
    show _=sh2 l0 x1 hA f1 (f3 (f2 n))
    simp only [T1,T3 (it2 (hid ct1) n) (f2 n) ih]
theorem H2 (l0 x1 hA):hid (it2 (hid ct1) 100000) (fr2 l0 x1 hA)=f2 100000 l0 x1 hA:=(congrFun (ai _) _).trans (T2 100000 l0 x1 hA)
theorem T0 (l x):ac X bd (.seq none .d (.seq none .d (.seq (some nm1) (.block (.loop nm2 (.seq (some nm3) .d .d))) (.seq (some nm4) .d .d)))) (fr0 l x) RR (fun _ _=>none) RR=f0 l x:=by
  refine (P0 l x).trans ?_
  show _=sh0 l x (f2 100000)
  simp only [H2]
theorem run (l x):aJ X bd (.seq none .d (.seq none .d (.seq (some nm1) (.block (.loop nm2 (.seq (some nm3) .d .d))) (.seq (some nm4) .d .d)))) nmR [4] [] [(.lst .int l),(.int .i64 x)]=f0 l x:=T0 l x
theorem fin (l:List Int) (x:Int) (k:Nat) (hk:k≤l.length) (hl:l.length≤80000):f4 l x (k:Int)=pZ (l.take k++x :: l.drop k):=by
  show sh4 l x (k:Int)=_
  unfold sh4
  have s1:sub l (0:Int) (k:Int)=l.take k:=by unfold sub; simp
  have s2:sub l (k:Int) (Int.ofNat l.length)=l.drop k:=by unfold sub; rw [ak,cR,List.take_of_length_le (by simp)]
  rw [s1,s2,b7 (show (0:Int)≤0 by omega),b7 (show (0:Int)≤(k:Int) by omega),b7 (show (k:Int)≤Int.ofNat l.length by simp; omega),b7 (show Int.ofNat l.length≤Int.ofNat l.length by omega)]
  rw [bE (show _≤140737488355328 by simp; omega),bE (show _≤9223372036854775807 by simp; omega),bE (show _≤140737488355328 by simp; omega),bE (show _≤9223372036854775807 by simp; omega),bE (show _≤140737488355328 by simp; omega),bE (show _≤9223372036854775807 by simp; omega)]
  simp only [Bool.and_true,bL,List.nil_append,List.append_assoc,List.singleton_append,List.cons_append]
  rfl
theorem loop (l : List Int) (x : Int) (hl : l.length ≤ 80000) : ∀ (n k : Nat), l.length < n + k → k ≤ l.length → f2 n l x (k : Int) = pZ (l.take k ++ dx (l.drop k) x) := by
  intro n
  induction n with
  | zero=>intro k h1 h2; omega
  | succ n ih =>
    intro k h1 h2
    show sh2 l x (k:Int) f1 (f3 (f2 n))=_
    unfold sh2
    by_cases hk:k < l.length
    · have e1 : f3 (f2 n) l x (k : Int) = pZ (l.take (k + 1) ++ dx (l.drop (k + 1)) x) := by
        show f2 n l x (IntKind.wrap .i64 ((k:Int)+1))=_
        rw [bD k (by omega)]
        exact ih (k+1) (by omega) hk
      have e2:f1 l x (k:Int)=aa (l[k] == x) (pZ l) (pZ (l.take k++x :: l.drop k)):=by
        show sh1 l x (k:Int) f4=_
        unfold sh1
        rw [aX (by simp; omega),aW hk,ak,ar hk,fin l x k h2 hl]
        rfl
      rw [aX (by simp; omega),aW hk,ak,ar hk,e1,e2]
      simp only [bG,bL]
      have e3:l.drop k=l[k] :: l.drop (k+1):=bc hk
      have e4:l.take k++l.drop k=l:=List.take_append_drop k l
      have e5:dx (l[k] :: l.drop (k+1)) x=bif ilt l[k] x then l[k] :: dx (l.drop (k+1)) x else bif l[k] == x then l[k] :: l.drop (k+1) else x :: l[k] :: l.drop (k+1):=rfl
      rw [e3] at e4 ⊢
      rw [e5]
      cases ilt l[k] x with
      | true=>rw [dN hk,List.append_assoc]; rfl
      | false =>
        simp only [cO,cond_false]
        cases l[k] == x with
        | true=>rw [cond_true,e4]; rfl
        | false=>rfl
    · have : k = l.length := by omega
      subst this
      rw [aR (by simp)]
      show sh1 l x (l.length:Int) f4=_
      unfold sh1
      rw [aR (by simp),cO,fin l x l.length h2 hl,List.drop_length]
      rfl
theorem f0_eq (l:List Int) (x:Int) (h:nle (List.length l) 80000=true):f0 l x=pZ (dx l x):=by
  have:=bQ h
  exact loop l x this 100000 0 (by omega) (by omega)
theorem ok:CtxOk Tryz.prog X:=aI tab spN dpN
theorem okM:MOk Tryz.prog X:=fun g sp h=>by cases h
theorem spec (l:List Int) (x:Int) (h:(nle (List.length l) 80000)=true):aj Tryz.prog E 116 [(.lst .int l),(.int .i64 x)] (.lst .int (dx l x)) [] :=
  ae ok okM Tryz.call116 Tryz.func116 (by kernel_rfl) (by kernel_rfl) (by kernel_rfl) (by show 2≤48; decide) (by decide) (by rfl) ((run l x).trans (f0_eq l x h))
noncomputable def sp:Sp U El:=fun args k=>match args with
  | [.lst .int l,.int .i64 x]=>chk (nle (List.length l) 80000) (k (.lst .int (dx l x)) [])
  | _=>none
theorem spOk:SpOk Tryz.prog E 116 sp where
  det:=fun vs=>by
    unfold sp
    split
    · exact aY _ _ _
    · exact ⟨none,fun _=>rfl⟩
  ok:=fun vs k r h=>by
    unfold sp at h
    split at h
    · obtain ⟨h1, h2⟩ := af h
      exact ⟨_,_,spec _ _ h1,h2⟩
    · cases h
end put
namespace rmarks
noncomputable def bd:Code:=(Tryz.f69.body).getD .skip
noncomputable def X:Ctx U El:=⟨E,tds,zeros,eqs,aC [(114,rpossible.sp),(116,put.sp)],100000,95,ap [],fun _=>none⟩
noncomputable def nmR:Norm U:=⟨[(6,.ints)],[6],[6],[],[],[],[]⟩
noncomputable def RR:ab U El:=fun st=>aE nmR st (aD [6] [6])
noncomputable def nm1:Norm U:=⟨[(7,.ints)],[7],[7],[],[],[],[]⟩
noncomputable def nm2:Norm U:=⟨[(7,.ints)],[0,2,4,7,8],[7,4],[],[],[],[(4,0,.node),(4,1,.link)]⟩
noncomputable def nm3:Norm U:=⟨[(7,.ints)],[0,2,4,7,8],[7,4],[],[],[],[(4,0,.node),(4,1,.link)]⟩
noncomputable def nm4:Norm U:=⟨[(7,.ints)],[0,2,4,7,8,10],[7,4],[(10,.int)],[],[],[(4,0,.node),(4,1,.link)]⟩
noncomputable def nm5:Norm U:=⟨[(7,.ints)],[0,2,4,7,8,9,10,11],[7,4,9],[(10,.int)],[],[],[(4,0,.node),(4,1,.link)]⟩
noncomputable def nm6:Norm U:=⟨[(7,.ints)],[0,2,4,7,8,9,10,11],[7,4,9],[(10,.int)],[],[],[(4,0,.node),(4,1,.link)]⟩
noncomputable def nm7:Norm U:=⟨[(7,.ints)],[0,2,4,7,8,9,10,11,12],[7,4,9],[(10,.int)],[],[],[(4,0,.node),(4,1,.link)]⟩
noncomputable def nm8:Norm U:=⟨[(7,.ints)],[0,2,4,7,8,9,10,11,12],[7,4,9],[(10,.int)],[],[],[(4,0,.node),(4,1,.link)]⟩
abbrev Y1:=(List (List Int))→R
abbrev Y2:=(List Rule)→(List UInt8)→(List (List Int))→Int→(List Node)→(List Lnk)→R
abbrev Y3:=(List Rule)→(List UInt8)→(List (List Int))→Int→(List Node)→(List Lnk)→R
abbrev Y4:=(List Rule)→(List UInt8)→(List (List Int))→Int→(List Int)→(List Node)→(List Lnk)→R
abbrev Y5:=(List Rule)→(List UInt8)→(List (List Int))→Int→(List Int)→Int→(List Node)→(List Lnk)→Span→R
abbrev Y6:=(List Rule)→(List UInt8)→(List (List Int))→Int→(List Int)→Int→(List Node)→(List Lnk)→Span→R
abbrev Y7:=(List Rule)→(List UInt8)→(List (List Int))→Int→(List Int)→Int→Int→(List Node)→(List Lnk)→Span→R
abbrev Y8:=(List Rule)→(List UInt8)→(List (List Int))→Int→(List Int)→Int→Int→(List Node)→(List Lnk)→Span→R
noncomputable def fr0 (l:List Rule) (n:Net) (s:List UInt8):St U El:=⟨[(0,(.lst .rule l)),(1,(.agg [(.lst .node n.nds),(.lst .link n.lks)])),(2,(.str s))],[]⟩
noncomputable def fr1 (bA:List (List Int)):St U El:=⟨[(7,(.ful 7))],[(7,(.rows .ints bA))]⟩
noncomputable def fr2 (l0:List Rule) (aA:List UInt8) (bA:List (List Int)) (i8:Int) (cA:List Node) (dA:List Lnk):St U El:=⟨[(0,(.lst .rule l0)),(2,(.str aA)),(4,(.ptr 4 0)),(7,(.ful 7)),(8,(.int .i64 i8))],[(7,(.rows .ints bA)),(4,(.box 0 [(.lst .node cA),(.lst .link dA)]))]⟩
noncomputable def fr3 (l0:List Rule) (aA:List UInt8) (bA:List (List Int)) (i8:Int) (cA:List Node) (dA:List Lnk):St U El:=⟨[(0,(.lst .rule l0)),(2,(.str aA)),(4,(.ptr 4 0)),(7,(.ful 7)),(8,(.int .i64 i8))],[(7,(.rows .ints bA)),(4,(.box 0 [(.lst .node cA),(.lst .link dA)]))]⟩
noncomputable def fr4 (l0:List Rule) (aA:List UInt8) (bA:List (List Int)) (i8:Int) (gA:List Int) (cA:List Node) (dA:List Lnk):St U El:=⟨[(0,(.lst .rule l0)),(2,(.str aA)),(4,(.ptr 4 0)),(7,(.ful 7)),(8,(.int .i64 i8)),(10,(.lst .int gA))],[(7,(.rows .ints bA)),(4,(.box 0 [(.lst .node cA),(.lst .link dA)]))]⟩
noncomputable def fr5 (l0:List Rule) (aA:List UInt8) (bA:List (List Int)) (i8:Int) (gA:List Int) (fA:Int) (cA:List Node) (dA:List Lnk) (b9:Span):St U El:=⟨[(0,(.lst .rule l0)),(2,(.str aA)),(4,(.ptr 4 0)),(7,(.ful 7)),(8,(.int .i64 i8)),(9,(.ptr 9 0)),(10,(.lst .int gA)),(11,(.int .i64 fA))],[(7,(.rows .ints bA)),(4,(.box 0 [(.lst .node cA),(.lst .link dA)])),(9,(.box 0 [(.int .i64 b9.slo),(.int .i64 b9.shi)]))]⟩
noncomputable def fr6 (l0:List Rule) (aA:List UInt8) (bA:List (List Int)) (i8:Int) (gA:List Int) (fA:Int) (cA:List Node) (dA:List Lnk) (b9:Span):St U El:=⟨[(0,(.lst .rule l0)),(2,(.str aA)),(4,(.ptr 4 0)),(7,(.ful 7)),(8,(.int .i64 i8)),(9,(.ptr 9 0)),(10,(.lst .int gA)),(11,(.int .i64 fA))],[(7,(.rows .ints bA)),(4,(.box 0 [(.lst .node cA),(.lst .link dA)])),(9,(.box 0 [(.int .i64 b9.slo),(.int .i64 b9.shi)]))]⟩
noncomputable def fr7 (l0:List Rule) (aA:List UInt8) (bA:List (List Int)) (i8:Int) (gA:List Int) (fA:Int) (jA:Int) (cA:List Node) (dA:List Lnk) (b9:Span):St U El:=⟨[(0,(.lst .rule l0)),(2,(.str aA)),(4,(.ptr 4 0)),(7,(.ful 7)),(8,(.int .i64 i8)),(9,(.ptr 9 0)),(10,(.lst .int gA)),(11,(.int .i64 fA)),(12,(.int .i64 jA))],[(7,(.rows .ints bA)),(4,(.box 0 [(.lst .node cA),(.lst .link dA)])),(9,(.box 0 [(.int .i64 b9.slo),(.int .i64 b9.shi)]))]⟩
noncomputable def fr8 (l0:List Rule) (aA:List UInt8) (bA:List (List Int)) (i8:Int) (gA:List Int) (fA:Int) (jA:Int) (cA:List Node) (dA:List Lnk) (b9:Span):St U El:=⟨[(0,(.lst .rule l0)),(2,(.str aA)),(4,(.ptr 4 0)),(7,(.ful 7)),(8,(.int .i64 i8)),(9,(.ptr 9 0)),(10,(.lst .int gA)),(11,(.int .i64 fA)),(12,(.int .i64 jA))],[(7,(.rows .ints bA)),(4,(.box 0 [(.lst .node cA),(.lst .link dA)])),(9,(.box 0 [(.int .i64 b9.slo),(.int .i64 b9.shi)]))]⟩
noncomputable def sh0 (l:List Rule) (n:Net) (s:List UInt8) (k2:Y2):R :=
  k2 l s ([]:List (List Int)) (0:Int) n.nds n.lks
noncomputable def sh1 (bA:List (List Int)):R :=
  some ((.ful 0),[(0,.rows .ints bA)])
noncomputable def sh2 (l0:List Rule) (aA:List UInt8) (bA:List (List Int)) (i8:Int) (cA:List Node) (dA:List Lnk) (k1:Y1) (k5:Y5):R :=
  aa (ilt i8 (Int.ofNat (List.length cA))) (chk (inb i8 (List.length cA)) (k5 l0 aA bA i8 ([(aM (List.getD cA (Int.toNat i8) aO)).slo]:List Int) (0:Int) cA dA (aM (List.getD cA (Int.toNat i8) aO)))) (k1 bA)
noncomputable def sh3 (l0:List Rule) (aA:List UInt8) (bA:List (List Int)) (i8:Int) (cA:List Node) (dA:List Lnk) (k2:Y2):R :=
  k2 l0 aA bA (IntKind.wrap .i64 (i8+(1:Int))) cA dA
noncomputable def sh4 (l0:List Rule) (aA:List UInt8) (bA:List (List Int)) (i8:Int) (gA:List Int) (cA:List Node) (dA:List Lnk) (k3:Y3):R :=
  chk (nle ((List.length bA+List.length ([gA]:List (List Int))) * 24) 140737488355328&&nle (List.length bA+List.length ([gA]:List (List Int))) 9223372036854775807) (k3 l0 aA (bA++([gA]:List (List Int))) i8 cA dA)
noncomputable def sh5 (l0:List Rule) (aA:List UInt8) (bA:List (List Int)) (i8:Int) (gA:List Int) (fA:Int) (cA:List Node) (dA:List Lnk) (b9:Span) (k4:Y4) (k7:Y7):R :=
  aa (ilt fA (Int.ofNat (List.length l0))) (k7 l0 aA bA i8 gA fA (0:Int) cA dA b9) (k4 l0 aA bA i8 gA cA dA)
noncomputable def sh6 (l0:List Rule) (aA:List UInt8) (bA:List (List Int)) (i8:Int) (gA:List Int) (fA:Int) (cA:List Node) (dA:List Lnk) (b9:Span) (k5:Y5):R :=
  k5 l0 aA bA i8 gA (IntKind.wrap .i64 (fA+(1:Int))) cA dA b9
noncomputable def sh7 (l0:List Rule) (aA:List UInt8) (bA:List (List Int)) (i8:Int) (gA:List Int) (fA:Int) (jA:Int) (cA:List Node) (dA:List Lnk) (b9:Span) (k6:Y6) (k8:Y8):R :=
  chk (inb fA (List.length l0)) (aa (ilt jA (Int.ofNat (List.length ((List.getD l0 (Int.toNat fA) az).rw)))) (chk (inb fA (List.length l0)) (chk (inb jA (List.length ((List.getD l0 (Int.toNat fA) az).rw))) (chk (inb fA (List.length l0)) (aa (((List.getD l0 (Int.toNat fA) az).rl) == aA) (chk (inb i8 (List.length cA)) (aa (((List.getD ((List.getD l0 (Int.toNat fA) az).rw) (Int.toNat jA) cI).cn) == ((List.getD cA (Int.toNat i8) aO).nn)) (aa (ilt b9.slo ((List.getD ((List.getD l0 (Int.toNat fA) az).rw) (Int.toNat jA) cI).cl)) (aa (ile ((List.getD ((List.getD l0 (Int.toNat fA) az).rw) (Int.toNat jA) cI).cl) b9.shi) (chk (nle (List.length gA) 80000) (k8 l0 aA bA i8 (dx gA ((List.getD ((List.getD l0 (Int.toNat fA) az).rw) (Int.toNat jA) cI).cl)) fA jA cA dA b9)) (k8 l0 aA bA i8 gA fA jA cA dA b9)) (k8 l0 aA bA i8 gA fA jA cA dA b9)) (k8 l0 aA bA i8 gA fA jA cA dA b9))) (k8 l0 aA bA i8 gA fA jA cA dA b9))))) (k6 l0 aA bA i8 gA fA cA dA b9))
noncomputable def sh8 (l0:List Rule) (aA:List UInt8) (bA:List (List Int)) (i8:Int) (gA:List Int) (fA:Int) (jA:Int) (cA:List Node) (dA:List Lnk) (b9:Span) (k7:Y7):R :=
  k7 l0 aA bA i8 gA fA (IntKind.wrap .i64 (jA+(1:Int))) cA dA b9
noncomputable def it2 (Kb1:ab U El) (n:Nat):ab U El:=bw nm2 (fun st' K'=>ac X (cdp [1,1,0,1,0,0] bd) (.seq none .d (.seq (some nm3) (.block (.seq none .d (.seq none .d (.seq (some nm4) (.seq none .d (.block (.loop nm5 (.seq none .d (.seq (some nm6) (.block (.seq none .d (.block (.loop nm7 (.seq none .d (.seq (some nm8) .d .d)))))) .d))))) .d)))) .d)) st' K' (aq 0 (ah nm1 Kb1) (fun _ _=>none)) RR) n
noncomputable def it5 (Kb1 Kb3 Kb4:ab U El) (n:Nat):ab U El:=bw nm5 (fun st' K'=>ac X (cdp [1,1,0,1,0,0,1,0,0,1,1,0,1,0,0] bd) (.seq none .d (.seq (some nm6) (.block (.seq none .d (.block (.loop nm7 (.seq none .d (.seq (some nm8) .d .d)))))) .d)) st' K' (aq 2 (ah nm4 Kb4) (aq 1 (ah nm3 Kb3) (aq 0 (ah nm1 Kb1) (fun _ _=>none)))) RR) n
noncomputable def it7 (Kb1 Kb3 Kb4 Kb6:ab U El) (n:Nat):ab U El:=bw nm7 (fun st' K'=>ac X (cdp [1,1,0,1,0,0,1,0,0,1,1,0,1,0,0,1,0,0,1,0,0] bd) (.seq none .d (.seq (some nm8) .d .d)) st' K' (aq 4 (ah nm6 Kb6) (aq 3 (ah nm6 Kb6) (aq 2 (ah nm4 Kb4) (aq 1 (ah nm3 Kb3) (aq 0 (ah nm1 Kb1) (fun _ _=>none)))))) RR) n
noncomputable def ct1:ab U El:=fun st=>ac X (cdp [1,1,1] bd) .d st RR (fun _ _=>none) RR
noncomputable def ct3 (Kb1 Kb2:ab U El):ab U El:=fun st=>ac X (cdp [1,1,0,1,0,0,1,1] bd) .d st (ah nm2 Kb2) (aq 0 (ah nm1 Kb1) (fun _ _=>none)) RR
noncomputable def ct4 (Kb1 Kb3:ab U El):ab U El:=fun st=>ac X (cdp [1,1,0,1,0,0,1,0,0,1,1,1] bd) .d st (ah nm3 Kb3) (aq 1 (ah nm3 Kb3) (aq 0 (ah nm1 Kb1) (fun _ _=>none))) RR
noncomputable def ct6 (Kb1 Kb3 Kb4 Kb5:ab U El):ab U El:=fun st=>ac X (cdp [1,1,0,1,0,0,1,0,0,1,1,0,1,0,0,1,1] bd) .d st (ah nm5 Kb5) (aq 2 (ah nm4 Kb4) (aq 1 (ah nm3 Kb3) (aq 0 (ah nm1 Kb1) (fun _ _=>none)))) RR
noncomputable def ct8 (Kb1 Kb3 Kb4 Kb6 Kb7:ab U El):ab U El:=fun st=>ac X (cdp [1,1,0,1,0,0,1,0,0,1,1,0,1,0,0,1,0,0,1,0,0,1,1] bd) .d st (ah nm7 Kb7) (aq 4 (ah nm6 Kb6) (aq 3 (ah nm6 Kb6) (aq 2 (ah nm4 Kb4) (aq 1 (ah nm3 Kb3) (aq 0 (ah nm1 Kb1) (fun _ _=>none)))))) RR
theorem P0 (l n s):ac X (cdp [] bd) (.seq none .d (.seq none .d (.seq (some nm1) (.seq none .d (.block (.loop nm2 (.seq none .d (.seq (some nm3) (.block (.seq none .d (.seq none .d (.seq (some nm4) (.seq none .d (.block (.loop nm5 (.seq none .d (.seq (some nm6) (.block (.seq none .d (.block (.loop nm7 (.seq none .d (.seq (some nm8) .d .d)))))) .d))))) .d)))) .d))))) .d))) (fr0 l n s) RR (fun _ _=>none) RR=sh0 l n s (fun y0 y1 y2 y3 y4 y5=>(hid (it2 (hid ct1) 100000)) (fr2 y0 y1 y2 y3 y4 y5)):=by kernel_rfl
theorem P1 (bA):ct1 (fr1 bA)=sh1 bA:=by kernel_rfl
theorem P2 (l0 aA bA i8 cA dA) (Kb1 Kb2:ab U El):ac X (cdp [1,1,0,1,0,0] bd) (.seq none .d (.seq (some nm3) (.block (.seq none .d (.seq none .d (.seq (some nm4) (.seq none .d (.block (.loop nm5 (.seq none .d (.seq (some nm6) (.block (.seq none .d (.block (.loop nm7 (.seq none .d (.seq (some nm8) .d .d)))))) .d))))) .d)))) .d)) (fr2 l0 aA bA i8 cA dA) (ah nm2 Kb2) (aq 0 (ah nm1 Kb1) (fun _ _=>none)) RR=sh2 l0 aA bA i8 cA dA (fun y0=>Kb1 (fr1 y0)) (fun y0 y1 y2 y3 y4 y5 y6 y7 y8=>(hid (it5 Kb1 (hid (ct3 Kb1 Kb2)) (hid (ct4 Kb1 (hid (ct3 Kb1 Kb2)))) 100000)) (fr5 y0 y1 y2 y3 y4 y5 y6 y7 y8)):=by kernel_rfl
theorem P3 (l0 aA bA i8 cA dA) (Kb1 Kb2:ab U El):ct3 Kb1 Kb2 (fr3 l0 aA bA i8 cA dA)=sh3 l0 aA bA i8 cA dA (fun y0 y1 y2 y3 y4 y5=>Kb2 (fr2 y0 y1 y2 y3 y4 y5)):=by kernel_rfl
theorem P4 (l0 aA bA i8 gA cA dA) (Kb1 Kb3:ab U El):ct4 Kb1 Kb3 (fr4 l0 aA bA i8 gA cA dA)=sh4 l0 aA bA i8 gA cA dA (fun y0 y1 y2 y3 y4 y5=>Kb3 (fr3 y0 y1 y2 y3 y4 y5)):=by kernel_rfl
theorem P5 (l0 aA bA i8 gA fA cA dA b9) (Kb1 Kb3 Kb4 Kb5:ab U El):ac X (cdp [1,1,0,1,0,0,1,0,0,1,1,0,1,0,0] bd) (.seq none .d (.seq (some nm6) (.block (.seq none .d (.block (.loop nm7 (.seq none .d (.seq (some nm8) .d .d)))))) .d)) (fr5 l0 aA bA i8 gA fA cA dA b9) (ah nm5 Kb5) (aq 2 (ah nm4 Kb4) (aq 1 (ah nm3 Kb3) (aq 0 (ah nm1 Kb1) (fun _ _=>none)))) RR=sh5 l0 aA bA i8 gA fA cA dA b9 (fun y0 y1 y2 y3 y4 y5 y6=>Kb4 (fr4 y0 y1 y2 y3 y4 y5 y6)) (fun y0 y1 y2 y3 y4 y5 y6 y7 y8 y9=>(hid (it7 Kb1 Kb3 Kb4 (hid (ct6 Kb1 Kb3 Kb4 Kb5)) 100000)) (fr7 y0 y1 y2 y3 y4 y5 y6 y7 y8 y9)):=by kernel_rfl
theorem P6 (l0 aA bA i8 gA fA cA dA b9) (Kb1 Kb3 Kb4 Kb5:ab U El):ct6 Kb1 Kb3 Kb4 Kb5 (fr6 l0 aA bA i8 gA fA cA dA b9)=sh6 l0 aA bA i8 gA fA cA dA b9 (fun y0 y1 y2 y3 y4 y5 y6 y7 y8=>Kb5 (fr5 y0 y1 y2 y3 y4 y5 y6 y7 y8)):=by kernel_rfl
theorem P7 (l0 aA bA i8 gA fA jA cA dA b9) (Kb1 Kb3 Kb4 Kb6 Kb7:ab U El):ac X (cdp [1,1,0,1,0,0,1,0,0,1,1,0,1,0,0,1,0,0,1,0,0] bd) (.seq none .d (.seq (some nm8) .d .d)) (fr7 l0 aA bA i8 gA fA jA cA dA b9) (ah nm7 Kb7) (aq 4 (ah nm6 Kb6) (aq 3 (ah nm6 Kb6) (aq 2 (ah nm4 Kb4) (aq 1 (ah nm3 Kb3) (aq 0 (ah nm1 Kb1) (fun _ _=>none)))))) RR=sh7 l0 aA bA i8 gA fA jA cA dA b9 (fun y0 y1 y2 y3 y4 y5 y6 y7 y8=>Kb6 (fr6 y0 y1 y2 y3 y4 y5 y6 y7 y8)) (fun y0 y1 y2 y3 y4 y5 y6 y7 y8 y9=>(hid (ct8 Kb1 Kb3 Kb4 Kb6 Kb7)) (fr8 y0 y1 y2 y3 y4 y5 y6 y7 y8 y9)):=by kernel_rfl
theorem P8 (l0 aA bA i8 gA fA jA cA dA b9) (Kb1 Kb3 Kb4 Kb6 Kb7:ab U El):ct8 Kb1 Kb3 Kb4 Kb6 Kb7 (fr8 l0 aA bA i8 gA fA jA cA dA b9)=sh8 l0 aA bA i8 gA fA jA cA dA b9 (fun y0 y1 y2 y3 y4 y5 y6 y7 y8 y9=>Kb7 (fr7 y0 y1 y2 y3 y4 y5 y6 y7 y8 y9)):=by kernel_rfl
noncomputable def f1 (bA:List (List Int)):R:=sh1 bA
noncomputable def f3 (k2:Y2) (l0:List Rule) (aA:List UInt8) (bA:List (List Int)) (i8:Int) (cA:List Node) (dA:List Lnk):R:=sh3 l0 aA bA i8 cA dA k2
noncomputable def f4 (k2:Y2) (l0:List Rule) (aA:List UInt8) (bA:List (List Int)) (i8:Int) (gA:List Int) (cA:List Node) (dA:List Lnk):R:=sh4 l0 aA bA i8 gA cA dA (f3 k2)
noncomputable def f6 (k2:Y2) (k5:Y5) (l0:List Rule) (aA:List UInt8) (bA:List (List Int)) (i8:Int) (gA:List Int) (fA:Int) (cA:List Node) (dA:List Lnk) (b9:Span):R:=sh6 l0 aA bA i8 gA fA cA dA b9 k5
noncomputable def f8 (k2:Y2) (k5:Y5) (k7:Y7) (l0:List Rule) (aA:List UInt8) (bA:List (List Int)) (i8:Int) (gA:List Int) (fA:Int) (jA:Int) (cA:List Node) (dA:List Lnk) (b9:Span):R:=sh8 l0 aA bA i8 gA fA jA cA dA b9 k7
noncomputable def f7 (k2:Y2) (k5:Y5):Nat→Y7
  | 0=>fun _ _ _ _ _ _ _ _ _ _=>none
  | n+1=>fun l0 aA bA i8 gA fA jA cA dA b9=>sh7 l0 aA bA i8 gA fA jA cA dA b9 (f6 k2 k5) (f8 k2 k5 (f7 k2 k5 n))
noncomputable def f5 (k2:Y2):Nat→Y5
  | 0=>fun _ _ _ _ _ _ _ _ _=>none
  | n+1=>fun l0 aA bA i8 gA fA cA dA b9=>sh5 l0 aA bA i8 gA fA cA dA b9 (f4 k2) (f7 k2 (f5 k2 n) 100000)
noncomputable def f2:Nat→Y2
  | 0=>fun _ _ _ _ _ _=>none
  | n+1=>fun l0 aA bA i8 cA dA=>sh2 l0 aA bA i8 cA dA f1 (f5 (f2 n) 100000)
noncomputable def f0 (l:List Rule) (n:Net) (s:List UInt8):R:=sh0 l n s (f2 100000)
theorem T1 (bA):(hid ct1) (fr1 bA)=f1 bA:=by
  refine (congrFun (ai _) _).trans <| (P1 bA).trans ?_
  show _=sh1 bA
  rfl
theorem T3 (KL2:ab U El) (k2:Y2) (h2:∀ l0 aA bA i8 cA dA,KL2 (fr2 l0 aA bA i8 cA dA)=k2 l0 aA bA i8 cA dA) (l0 aA bA i8 cA dA):(hid (ct3 (hid ct1) KL2)) (fr3 l0 aA bA i8 cA dA)=f3 k2 l0 aA bA i8 cA dA:=by
  refine (congrFun (ai _) _).trans <| (P3 l0 aA bA i8 cA dA (hid ct1) KL2).trans ?_
  show _=sh3 l0 aA bA i8 cA dA k2
  simp only [h2]
theorem T4 (KL2:ab U El) (k2:Y2) (h2:∀ l0 aA bA i8 cA dA,KL2 (fr2 l0 aA bA i8 cA dA)=k2 l0 aA bA i8 cA dA) (l0 aA bA i8 gA cA dA):(hid (ct4 (hid ct1) (hid (ct3 (hid ct1) KL2)))) (fr4 l0 aA bA i8 gA cA dA)=f4 k2 l0 aA bA i8 gA cA dA:=by
  refine (congrFun (ai _) _).trans <| (P4 l0 aA bA i8 gA cA dA (hid ct1) (hid (ct3 (hid ct1) KL2))).trans ?_
  show _=sh4 l0 aA bA i8 gA cA dA (f3 k2)
  simp only [T3 KL2 k2 h2]
theorem T6 (KL2:ab U El) (KL5:ab U El) (k2:Y2) (k5:Y5) (h2:∀ l0 aA bA i8 cA dA,KL2 (fr2 l0 aA bA i8 cA dA)=k2 l0 aA bA i8 cA dA) (h5:∀ l0 aA bA i8 gA fA cA dA b9,KL5 (fr5 l0 aA bA i8 gA fA cA dA b9)=k5 l0 aA bA i8 gA fA cA dA b9) (l0 aA bA i8 gA fA cA dA b9):(hid (ct6 (hid ct1) (hid (ct3 (hid ct1) KL2)) (hid (ct4 (hid ct1) (hid (ct3 (hid ct1) KL2)))) KL5)) (fr6 l0 aA bA i8 gA fA cA dA b9)=f6 k2 k5 l0 aA bA i8 gA fA cA dA b9:=by
  refine (congrFun (ai _) _).trans <| (P6 l0 aA bA i8 gA fA cA dA b9 (hid ct1) (hid (ct3 (hid ct1) KL2)) (hid (ct4 (hid ct1) (hid (ct3 (hid ct1) KL2)))) KL5).trans ?_
  show _=sh6 l0 aA bA i8 gA fA cA dA b9 k5
  simp only [h5]
theorem T8 (KL2:ab U El) (KL5:ab U El) (KL7:ab U El) (k2:Y2) (k5:Y5) (k7:Y7) (h2:∀ l0 aA bA i8 cA dA,KL2 (fr2 l0 aA bA i8 cA dA)=k2 l0 aA bA i8 cA dA) (h5:∀ l0 aA bA i8 gA fA cA dA b9,KL5 (fr5 l0 aA bA i8 gA fA cA dA b9)=k5 l0 aA bA i8 gA fA cA dA b9) (h7:∀ l0 aA bA i8 gA fA jA cA dA b9,KL7 (fr7 l0 aA bA i8 gA fA jA cA dA b9)=k7 l0 aA bA i8 gA fA jA cA dA b9) (l0 aA bA i8 gA fA jA cA dA b9):(hid (ct8 (hid ct1) (hid (ct3 (hid ct1) KL2)) (hid (ct4 (hid ct1) (hid (ct3 (hid ct1) KL2)))) (hid (ct6 (hid ct1) (hid (ct3 (hid ct1) KL2)) (hid (ct4 (hid ct1) (hid (ct3 (hid ct1) KL2)))) KL5)) KL7)) (fr8 l0 aA bA i8 gA fA jA cA dA b9)=f8 k2 k5 k7 l0 aA bA i8 gA fA jA cA dA b9:=by
  refine (congrFun (ai _) _).trans <| (P8 l0 aA bA i8 gA fA jA cA dA b9 (hid ct1) (hid (ct3 (hid ct1) KL2)) (hid (ct4 (hid ct1) (hid (ct3 (hid ct1) KL2)))) (hid (ct6 (hid ct1) (hid (ct3 (hid ct1) KL2)) (hid (ct4 (hid ct1) (hid (ct3 (hid ct1) KL2)))) KL5)) KL7).trans ?_
  show _=sh8 l0 aA bA i8 gA fA jA cA dA b9 k7
  simp only [h7]
theorem T7 (KL2:ab U El) (KL5:ab U El) (k2:Y2) (k5:Y5) (h2:∀ l0 aA bA i8 cA dA,KL2 (fr2 l0 aA bA i8 cA dA)=k2 l0 aA bA i8 cA dA) (h5:∀ l0 aA bA i8 gA fA cA dA b9,KL5 (fr5 l0 aA bA i8 gA fA cA dA b9)=k5 l0 aA bA i8 gA fA cA dA b9):∀ (n:Nat),∀ l0 aA bA i8 gA fA jA cA dA b9,it7 (hid ct1) (hid (ct3 (hid ct1) KL2)) (hid (ct4 (hid ct1) (hid (ct3 (hid ct1) KL2)))) (hid (ct6 (hid ct1) (hid (ct3 (hid ct1) KL2)) (hid (ct4 (hid ct1) (hid (ct3 (hid ct1) KL2)))) KL5)) n (fr7 l0 aA bA i8 gA fA jA cA dA b9)=f7 k2 k5 n l0 aA bA i8 gA fA jA cA dA b9:=by
  intro n
  induction n with
  | zero=>intros; rfl
  | succ n ih =>
    intro l0 aA bA i8 gA fA jA cA dA b9
    refine (P7 l0 aA bA i8 gA fA jA cA dA b9 (hid ct1) (hid (ct3 (hid ct1) KL2)) (hid (ct4 (hid ct1) (hid (ct3 (hid ct1) KL2)))) (hid (ct6 (hid ct1) (hid (ct3 (hid ct1) KL2)) (hid (ct4 (hid ct1) (hid (ct3 (hid ct1) KL2)))) KL5)) (it7 (hid ct1) (hid (ct3 (hid ct1) KL2)) (hid (ct4 (hid ct1) (hid (ct3 (hid ct1) KL2)))) (hid (ct6 (hid ct1) (hid (ct3 (hid ct1) KL2)) (hid (ct4 (hid ct1) (hid (ct3 (hid ct1) KL2)))) KL5)) n)).trans ?_
    show _=sh7 l0 aA bA i8 gA fA jA cA dA b9 (f6 k2 k5) (f8 k2 k5 (f7 k2 k5 n))
    simp only [T6 KL2 KL5 k2 k5 h2 h5,T8 KL2 KL5 (it7 (hid ct1) (hid (ct3 (hid ct1) KL2)) (hid (ct4 (hid ct1) (hid (ct3 (hid ct1) KL2)))) (hid (ct6 (hid ct1) (hid (ct3 (hid ct1) KL2)) (hid (ct4 (hid ct1) (hid (ct3 (hid ct1) KL2)))) KL5)) n) k2 k5 (f7 k2 k5 n) h2 h5 ih]
theorem H7 (KL2:ab U El) (KL5:ab U El) (k2:Y2) (k5:Y5) (h2:∀ l0 aA bA i8 cA dA,KL2 (fr2 l0 aA bA i8 cA dA)=k2 l0 aA bA i8 cA dA) (h5:∀ l0 aA bA i8 gA fA cA dA b9,KL5 (fr5 l0 aA bA i8 gA fA cA dA b9)=k5 l0 aA bA i8 gA fA cA dA b9) (l0 aA bA i8 gA fA jA cA dA b9):hid (it7 (hid ct1) (hid (ct3 (hid ct1) KL2)) (hid (ct4 (hid ct1) (hid (ct3 (hid ct1) KL2)))) (hid (ct6 (hid ct1) (hid (ct3 (hid ct1) KL2)) (hid (ct4 (hid ct1) (hid (ct3 (hid ct1) KL2)))) KL5)) 100000) (fr7 l0 aA bA i8 gA fA jA cA dA b9)=f7 k2 k5 100000 l0 aA bA i8 gA fA jA cA dA b9:=(congrFun (ai _) _).trans (T7 KL2 KL5 k2 k5 h2 h5 100000 l0 aA bA i8 gA fA jA cA dA b9)
theorem T5 (KL2:ab U El) (k2:Y2) (h2:∀ l0 aA bA i8 cA dA,KL2 (fr2 l0 aA bA i8 cA dA)=k2 l0 aA bA i8 cA dA):∀ (n:Nat),∀ l0 aA bA i8 gA fA cA dA b9,it5 (hid ct1) (hid (ct3 (hid ct1) KL2)) (hid (ct4 (hid ct1) (hid (ct3 (hid ct1) KL2)))) n (fr5 l0 aA bA i8 gA fA cA dA b9)=f5 k2 n l0 aA bA i8 gA fA cA dA b9:=by
  intro n
  induction n with
  | zero=>intros; rfl
  | succ n ih =>
    intro l0 aA bA i8 gA fA cA dA b9
    refine (P5 l0 aA bA i8 gA fA cA dA b9 (hid ct1) (hid (ct3 (hid ct1) KL2)) (hid (ct4 (hid ct1) (hid (ct3 (hid ct1) KL2)))) (it5 (hid ct1) (hid (ct3 (hid ct1) KL2)) (hid (ct4 (hid ct1) (hid (ct3 (hid ct1) KL2)))) n)).trans ?_
    show _=sh5 l0 aA bA i8 gA fA cA dA b9 (f4 k2) (f7 k2 (f5 k2 n) 100000)
    simp only [T4 KL2 k2 h2,H7 KL2 (it5 (hid ct1) (hid (ct3 (hid ct1) KL2)) (hid (ct4 (hid ct1) (hid (ct3 (hid ct1) KL2)))) n) k2 (f5 k2 n) h2 ih]
theorem H5 (KL2:ab U El) (k2:Y2) (h2:∀ l0 aA bA i8 cA dA,KL2 (fr2 l0 aA bA i8 cA dA)=k2 l0 aA bA i8 cA dA) (l0 aA bA i8 gA fA cA dA b9):hid (it5 (hid ct1) (hid (ct3 (hid ct1) KL2)) (hid (ct4 (hid ct1) (hid (ct3 (hid ct1) KL2)))) 100000) (fr5 l0 aA bA i8 gA fA cA dA b9)=f5 k2 100000 l0 aA bA i8 gA fA cA dA b9:=(congrFun (ai _) _).trans (T5 KL2 k2 h2 100000 l0 aA bA i8 gA fA cA dA b9)
theorem T2:∀ (n:Nat),∀ l0 aA bA i8 cA dA,it2 (hid ct1) n (fr2 l0 aA bA i8 cA dA)=f2 n l0 aA bA i8 cA dA:=by
  intro n
  induction n with
  | zero=>intros; rfl
  | succ n ih =>
    intro l0 aA bA i8 cA dA
    refine (P2 l0 aA bA i8 cA dA (hid ct1) (it2 (hid ct1) n)).trans ?_
    show _=sh2 l0 aA bA i8 cA dA f1 (f5 (f2 n) 100000)
    simp only [T1,H5 (it2 (hid ct1) n) (f2 n) ih]
theorem H2 (l0 aA bA i8 cA dA):hid (it2 (hid ct1) 100000) (fr2 l0 aA bA i8 cA dA)=f2 100000 l0 aA bA i8 cA dA:=(congrFun (ai _) _).trans (T2 100000 l0 aA bA i8 cA dA)
theorem T0 (l n s):ac X bd (.seq none .d (.seq none .d (.seq (some nm1) (.seq none .d (.block (.loop nm2 (.seq none .d (.seq (some nm3) (.block (.seq none .d (.seq none .d (.seq (some nm4) (.seq none .d (.block (.loop nm5 (.seq none .d (.seq (some nm6) (.block (.seq none .d (.block (.loop nm7 (.seq none .d (.seq (some nm8) .d .d)))))) .d))))) .d)))) .d))))) .d))) (fr0 l n s) RR (fun _ _=>none) RR=f0 l n s:=by
  refine (P0 l n s).trans ?_
  show _=sh0 l n s (f2 100000)
  simp only [H2]
theorem run (l n s):aJ X bd (.seq none .d (.seq none .d (.seq (some nm1) (.seq none .d (.block (.loop nm2 (.seq none .d (.seq (some nm3) (.block (.seq none .d (.seq none .d (.seq (some nm4) (.seq none .d (.block (.loop nm5 (.seq none .d (.seq (some nm6) (.block (.seq none .d (.block (.loop nm7 (.seq none .d (.seq (some nm8) .d .d)))))) .d))))) .d)))) .d))))) .d))) nmR [6] [6] [(.lst .rule l),(.agg [(.lst .node n.nds),(.lst .link n.lks)]),(.str s)]=f0 l n s:=T0 l n s
theorem in7 (k2 : Y2) (k5 : Y5) (l : List Rule) (s : List UInt8) (out : List (List Int)) (nds : List Node) (lks : List Lnk) (i k : Nat) (hi : i < nds.length) (hk : k < l.length) (hr : l[k].rw.length ≤ 100) : ∀ (n j : Nat) (m : List Int), l[k].rw.length < n + j → j ≤ l[k].rw.length → m.length + (l[k].rw.length - j) ≤ 80000 →
    f7 k2 k5 n l s out (i:Int) m (k:Int) (j:Int) nds lks (aM nds[i])=f6 k2 k5 l s out (i:Int) (List.foldl dx m ((l[k].rw.drop j).flatMap (kL nds[i] s l[k]))) (k:Int) nds lks (aM nds[i]):=by
  intro n
  induction n with
  | zero=>intro j m h1 h2; omega
  | succ n ih =>
    intro j m h1 h2 h3
    show sh7 l s out (i:Int) m (k:Int) (j:Int) nds lks (aM nds[i]) (f6 k2 k5) (f8 k2 k5 (f7 k2 k5 n))=_
    unfold sh7
    rw [aW hk,ak k,ar hk]
    by_cases hj:j < l[k].rw.length
    · have hk8 : ∀ m' : List Int, m'.length ≤ m.length + 1 → f8 k2 k5 (f7 k2 k5 n) l s out (i : Int) m' (k : Int) (j : Int) nds lks (aM nds[i]) = f6 k2 k5 l s out (i : Int) (List.foldl dx m' ((l[k].rw.drop (j + 1)).flatMap (kL nds[i] s l[k]))) (k : Int) nds lks (aM nds[i]) := fun m' hm => by
        show f7 k2 k5 n l s out (i:Int) m' (k:Int) (IntKind.wrap .i64 ((j:Int)+1)) nds lks (aM nds[i])=_
        rw [bD j (by omega)]
        exact ih (j+1) m' (by omega) hj (by omega)
      rw [aX (by simp; omega),aW hj,aW hi,ak j,ak i,ar hj,ar hi,bc hj,List.flatMap_cons,List.foldl_append,hk8 m (by omega),hk8 (dx m l[k].rw[j].cl) (nl _ _),bE (show m.length≤80000 by omega)]
      simp only [bL,bG]
      have hc:kL nds[i] s l[k] l[k].rw[j]=bif (l[k].rl == s)&&((l[k].rw[j].cn == nds[i].nn)&&(ilt (aM nds[i]).slo l[k].rw[j].cl&&ile l[k].rw[j].cl (aM nds[i]).shi)) then [l[k].rw[j].cl] else []:=rfl
      rw [hc]
      cases l[k].rl == s
      · rfl
      · cases l[k].rw[j].cn == nds[i].nn
        · rfl
        · cases ilt (aM nds[i]).slo l[k].rw[j].cl<;>cases ile l[k].rw[j].cl (aM nds[i]).shi<;>rfl
    · have : j = l[k].rw.length := by omega
      subst this
      rw [aR (by simp),List.drop_length]
      rfl
theorem in5 (k2:Y2) (l:List Rule) (hr:∀ r∈l,r.rw.length≤100) (hl:l.length≤100) (s:List UInt8) (out:List (List Int)) (nds:List Node) (lks:List Lnk) (i:Nat) (hi:i < nds.length):∀ (n k:Nat) (m:List Int),l.length < n+k→k≤l.length→m.length≤1+100 * k →
    f5 k2 n l s out (i:Int) m (k:Int) nds lks (aM nds[i])=f4 k2 l s out (i:Int) (List.foldl dx m (fy nds[i] s (l.drop k))) nds lks:=by
  intro n
  induction n with
  | zero=>intro k m h1 h2; omega
  | succ n ih =>
    intro k m h1 h2 h3
    show sh5 l s out (i:Int) m (k:Int) nds lks (aM nds[i]) (f4 k2) (f7 k2 (f5 k2 n) 100000)=_
    unfold sh5
    by_cases hk:k < l.length
    · have hrk := hr _ (List.getElem_mem hk)
      have e:=in7 k2 (f5 k2 n) l s out nds lks i k hi hk hrk 100000 0 m (by omega) (by omega) (by omega)
      rw [aX (by simp; omega),bc hk]
      rw [show ((0:Int))=((0:Nat):Int) from rfl,e,List.drop_zero]
      show f5 k2 n l s out (i:Int) (List.foldl dx m (kM nds[i] s l[k])) (IntKind.wrap .i64 ((k:Int)+1)) nds lks (aM nds[i])=_
      have h4:=no nds[i] s l[k]
      have h5:=gy (kM nds[i] s l[k]) m
      rw [bD k (by omega),ih (k+1) _ (by omega) hk (by omega)]
      show _=f4 k2 l s out (i:Int) (List.foldl dx m (kM nds[i] s l[k]++fy nds[i] s (l.drop (k+1)))) nds lks
      rw [List.foldl_append]
    · have : k = l.length := by omega
      subst this
      rw [aR (by simp),List.drop_length]
      rfl
theorem loop (l:List Rule) (hr:∀ r∈l,r.rw.length≤100) (hl:l.length≤100) (s:List UInt8) (nds:List Node) (lks:List Lnk) (hn:nds.length≤90000):∀ (n i:Nat) (out:List (List Int)),nds.length < n+i→i≤nds.length→out.length=i →
    f2 n l s out (i:Int) nds lks=some (.ful 0,[(0,.rows .ints (out++(nds.drop i).map fun x=>ee x s l))]):=by
  intro n
  induction n with
  | zero=>intro i out h1 h2; omega
  | succ n ih =>
    intro i out h1 h2 h3
    show sh2 l s out (i:Int) nds lks f1 (f5 (f2 n) 100000)=_
    unfold sh2
    by_cases hi:i < nds.length
    · have e := in5 (f2 n) l hr hl s out nds lks i hi 100000 0 [(aM nds[i]).slo] (by omega) (by omega) (by simp)
      rw [aX (by simp; omega),aW hi,ak,ar hi,bc hi]
      rw [show ((0:Int))=((0:Nat):Int) from rfl,e,List.drop_zero]
      show sh4 l s out (i:Int) (ee nds[i] s l) nds lks (f3 (f2 n))=_
      unfold sh4
      rw [bE (show _≤140737488355328 by simp; omega),bE (show _≤9223372036854775807 by simp; omega)]
      show f2 n l s (out++[ee nds[i] s l]) (IntKind.wrap .i64 ((i:Int)+1)) nds lks=_
      rw [bD i (by omega),ih (i+1) _ (by omega) hi (by simp; omega)]
      simp only [List.map_cons,List.append_assoc,List.singleton_append]
    · have : i = nds.length := by omega
      subst this
      rw [aR (by simp),List.drop_length,List.map_nil,List.append_nil]
      rfl
theorem f0_eq (l:List Rule) (n:Net) (s:List UInt8) (h:(okN n&&dL l)=true):f0 l n s=some (.ful 0,[(0,.rows .ints (cM l n s))]):=by
  simp only [Bool.and_eq_true] at h
  obtain ⟨h1,h2⟩:=km h.2
  have hn:=bQ (cr h.1)
  exact loop l h2 h1 s n.nds n.lks hn 100000 0 [] (by omega) (by omega) rfl
theorem ok:CtxOk Tryz.prog X:=aI tab (spC rpossible.spOk (spC put.spOk spN)) dpN
theorem okM:MOk Tryz.prog X:=fun g sp h=>by cases h
theorem spec (l:List Rule) (n:Net) (s:List UInt8) (h:((okN n&&dL l))=true):aj Tryz.prog E 69 [(.lst .rule l),(.agg [(.lst .node n.nds),(.lst .link n.lks)]),(.str s)] (.ful 0) [(0,.rows .ints (cM l n s))] :=
  ae ok okM Tryz.call69 Tryz.func69 (by kernel_rfl) (by kernel_rfl) (by kernel_rfl) (by show 3≤95; decide) (by decide) (by rfl) ((run l n s).trans (f0_eq l n s h))
noncomputable def sp:Sp U El:=fun args k=>match args with
  | [.lst .rule l,.agg [.lst .node n_nds,.lst .link n_lks],.str s]=>chk ((okN (⟨n_nds,n_lks⟩:Net)&&dL l)) (k (.ful 0) [(0,.rows .ints (cM l (⟨n_nds,n_lks⟩:Net) s))])
  | _=>none
theorem spOk:SpOk Tryz.prog E 69 sp where
  det:=fun vs=>by
    unfold sp
    split
    · exact aY _ _ _
    · exact ⟨none,fun _=>rfl⟩
  ok:=fun vs k r h=>by
    unfold sp at h
    split at h
    · obtain ⟨h1, h2⟩ := af h
      exact ⟨_,_,spec _ ⟨_,_⟩ _ h1,h2⟩
    · cases h
end rmarks
namespace rcount
noncomputable def bd:Code:=(Tryz.f68.body).getD .skip
noncomputable def X:Ctx U El:=⟨E,tds,zeros,eqs,aC [],100000,21,ap [],fun _=>none⟩
noncomputable def nmR:Norm U:=⟨[],[2],[],[],[],[],[]⟩
noncomputable def RR:ab U El:=fun st=>aE nmR st (aD [2] [])
noncomputable def nm1:Norm U:=⟨[],[3],[],[],[],[],[]⟩
noncomputable def nm2:Norm U:=⟨[],[0,3,4],[],[],[],[],[]⟩
abbrev Y1:=Int→R
abbrev Y2:=(List (List Int))→Int→Int→R
noncomputable def fr0 (m:List (List Int)):St U El:=⟨[(0,(.lst .ints m))],[]⟩
noncomputable def fr1 (n3:Int):St U El:=⟨[(3,(.int .i64 n3))],[]⟩
noncomputable def fr2 (eA:List (List Int)) (n3:Int) (i4:Int):St U El:=⟨[(0,(.lst .ints eA)),(3,(.int .i64 n3)),(4,(.int .i64 i4))],[]⟩
noncomputable def sh0 (m:List (List Int)) (k2:Y2):R :=
  k2 m (1:Int) (0:Int)
noncomputable def sh1 (n3:Int):R :=
  some ((.int .i64 n3),[])
noncomputable def sh2 (eA:List (List Int)) (n3:Int) (i4:Int) (k1:Y1) (k2:Y2):R :=
  aa (ilt i4 (Int.ofNat (List.length eA))) (chk (inb i4 (List.length eA)) (aa (ilt (10000:Int) (IntKind.wrap .i64 (n3 * (Int.ofNat (List.length (List.getD eA (Int.toNat i4) cL)))))) (some ((.int .i64 (10001:Int)),[])) (k2 eA (IntKind.wrap .i64 (n3 * (Int.ofNat (List.length (List.getD eA (Int.toNat i4) cL))))) (IntKind.wrap .i64 (i4+(1:Int)))))) (k1 n3)
noncomputable def it2 (Kb1:ab U El) (n:Nat):ab U El:=bw nm2 (fun st' K'=>ac X (cdp [1,1,0,1,0,0] bd) .d st' K' (aq 0 (ah nm1 Kb1) (fun _ _=>none)) RR) n
noncomputable def ct1:ab U El:=fun st=>ac X (cdp [1,1,1] bd) .d st RR (fun _ _=>none) RR
theorem P0 (m):ac X (cdp [] bd) (.seq none .d (.seq none .d (.seq (some nm1) (.seq none .d (.block (.loop nm2 .d))) .d))) (fr0 m) RR (fun _ _=>none) RR=sh0 m (fun y0 y1 y2=>(hid (it2 (hid ct1) 100000)) (fr2 y0 y1 y2)):=by kernel_rfl
theorem P1 (n3):ct1 (fr1 n3)=sh1 n3:=by kernel_rfl
theorem P2 (eA n3 i4) (Kb1 Kb2:ab U El):ac X (cdp [1,1,0,1,0,0] bd) .d (fr2 eA n3 i4) (ah nm2 Kb2) (aq 0 (ah nm1 Kb1) (fun _ _=>none)) RR=sh2 eA n3 i4 (fun y0=>Kb1 (fr1 y0)) (fun y0 y1 y2=>Kb2 (fr2 y0 y1 y2)):=by kernel_rfl
noncomputable def f1 (n3:Int):R:=sh1 n3
noncomputable def f2:Nat→Y2
  | 0=>fun _ _ _=>none
  | n+1=>fun eA n3 i4=>sh2 eA n3 i4 f1 (f2 n)
noncomputable def f0 (m:List (List Int)):R:=sh0 m (f2 100000)
theorem T1 (n3):(hid ct1) (fr1 n3)=f1 n3:=by
  refine (congrFun (ai _) _).trans <| (P1 n3).trans ?_
  show _=sh1 n3
  rfl
theorem T2:∀ (n:Nat),∀ eA n3 i4,it2 (hid ct1) n (fr2 eA n3 i4)=f2 n eA n3 i4:=by
  intro n
  induction n with
  | zero=>intros; rfl
  | succ n ih =>
    intro eA n3 i4
    refine (P2 eA n3 i4 (hid ct1) (it2 (hid ct1) n)).trans ?_
    show _=sh2 eA n3 i4 f1 (f2 n)
    simp only [T1,ih]
theorem H2 (eA n3 i4):hid (it2 (hid ct1) 100000) (fr2 eA n3 i4)=f2 100000 eA n3 i4:=(congrFun (ai _) _).trans (T2 100000 eA n3 i4)
theorem T0 (m):ac X bd (.seq none .d (.seq none .d (.seq (some nm1) (.seq none .d (.block (.loop nm2 .d))) .d))) (fr0 m) RR (fun _ _=>none) RR=f0 m:=by
  refine (P0 m).trans ?_
  show _=sh0 m (f2 100000)
  simp only [H2]
theorem run (m):aJ X bd (.seq none .d (.seq none .d (.seq (some nm1) (.seq none .d (.block (.loop nm2 .d))) .d))) nmR [2] [] [(.lst .ints m)]=f0 m:=T0 m
theorem loop (m : List (List Int)) (hm : mf m = true) : ∀ (n i : Nat) (c : Int), m.length < n + i → i ≤ m.length → 0 ≤ c → c ≤ 10000 → f2 n m c (i : Int) = bH (r4 c (m.drop i)) := by
  obtain ⟨hl,hx⟩:=ri hm
  intro n
  induction n with
  | zero=>intro i c h1 h2; omega
  | succ n ih =>
    intro i c h1 h2 h3 h4
    show sh2 m c (i:Int) f1 (f2 n)=_
    unfold sh2
    by_cases hi:i < m.length
    · obtain ⟨x1, x2⟩ := hx _ (List.getElem_mem hi)
      have y1:0≤c * Int.ofNat m[i].length:=Int.mul_nonneg h3 (by simp)
      have y2:c * Int.ofNat m[i].length≤10000 * 100000:=Int.mul_le_mul h4 (by simp; omega) (by simp) (by omega)
      rw [aX (by simp; omega),aW hi,ak,ar hi,bc hi,eF (by omega) (by omega),bD i (by omega)]
      simp only [bG,bL]
      unfold r4
      by_cases hb:(10000:Int) < c * Int.ofNat m[i].length
      · rw [aX hb]; rfl
      · rw [aR hb, cO, cond_false]
        exact ih (i+1) _ (by omega) hi y1 (by omega)
    · have : i = m.length := by omega
      subst this
      rw [aR (by simp),List.drop_length]
      rfl
theorem f0_eq (m:List (List Int)) (h:mf m=true):f0 m=bH (gP m) :=
  loop m h 100000 0 1 (by have:=(ri h).1; omega) (by omega) (by omega) (by omega)
theorem ok:CtxOk Tryz.prog X:=aI tab spN dpN
theorem okM:MOk Tryz.prog X:=fun g sp h=>by cases h
theorem spec (m:List (List Int)) (h:(mf m)=true):aj Tryz.prog E 68 [(.lst .ints m)] (.int .i64 (gP m)) [] :=
  ae ok okM Tryz.call68 Tryz.func68 (by kernel_rfl) (by kernel_rfl) (by kernel_rfl) (by show 1≤21; decide) (by decide) (by rfl) ((run m).trans (f0_eq m h))
noncomputable def sp:Sp U El:=fun args k=>match args with
  | [.lst .ints m]=>chk (mf m) (k (.int .i64 (gP m)) [])
  | _=>none
theorem spOk:SpOk Tryz.prog E 68 sp where
  det:=fun vs=>by
    unfold sp
    split
    · exact aY _ _ _
    · exact ⟨none,fun _=>rfl⟩
  ok:=fun vs k r h=>by
    unfold sp at h
    split at h
    · obtain ⟨h1, h2⟩ := af h
      exact ⟨_,_,spec _ h1,h2⟩
    · cases h
end rcount
namespace many
noncomputable def bd:Code:=(Tryz.f24.body).getD .skip
noncomputable def X:Ctx U El:=⟨E,tds,zeros,eqs,aC [(68,rcount.sp),(69,rmarks.sp)],100000,19,ap [],fun _=>none⟩
noncomputable def nmR:Norm U:=⟨[],[6],[],[],[],[],[]⟩
noncomputable def RR:ab U El:=fun st=>aE nmR st (aD [6] [])
noncomputable def fr0 (l:List Rule) (n:Net) (s:List UInt8):St U El:=⟨[(0,(.lst .rule l)),(1,(.agg [(.lst .node n.nds),(.lst .link n.lks)])),(2,(.str s))],[]⟩
noncomputable def sh0 (l:List Rule) (n:Net) (s:List UInt8):R :=
  chk ((okN n&&dL l)) (chk (mf (cM l n s)) (aa (ilt (400:Int) (gP (cM l n s))) (some ((.bool (ile (gP (cM l n s)) (10000:Int))),[])) (some ((.bool false),[]))))
theorem P0 (l n s):ac X (cdp [] bd) .d (fr0 l n s) RR (fun _ _=>none) RR=sh0 l n s:=by kernel_rfl
noncomputable def f0 (l:List Rule) (n:Net) (s:List UInt8):R:=sh0 l n s
theorem T0 (l n s):ac X bd .d (fr0 l n s) RR (fun _ _=>none) RR=f0 l n s:=by
  refine (P0 l n s).trans ?_
  show _=sh0 l n s
  rfl
theorem run (l n s):aJ X bd .d nmR [6] [] [(.lst .rule l),(.agg [(.lst .node n.nds),(.lst .link n.lks)]),(.str s)]=f0 l n s:=T0 l n s
theorem f0_eq (l:List Rule) (n:Net) (s:List UInt8) (h:(okN n&&dL l)=true):f0 l n s=aH (lq l n s):=by
  show sh0 l n s=_
  unfold sh0 lq
  have h':=h
  simp only [Bool.and_eq_true] at h'
  rw [h,r5 h'.1 h'.2]
  exact cQ aH _ _
theorem ok:CtxOk Tryz.prog X:=aI tab (spC rcount.spOk (spC rmarks.spOk spN)) dpN
theorem okM:MOk Tryz.prog X:=fun g sp h=>by cases h
theorem spec (l:List Rule) (n:Net) (s:List UInt8) (h:((okN n&&dL l))=true):aj Tryz.prog E 24 [(.lst .rule l),(.agg [(.lst .node n.nds),(.lst .link n.lks)]),(.str s)] (.bool (lq l n s)) [] :=
  ae ok okM Tryz.call24 Tryz.func24 (by kernel_rfl) (by kernel_rfl) (by kernel_rfl) (by show 3≤19; decide) (by decide) (by rfl) ((run l n s).trans (f0_eq l n s h))
noncomputable def sp:Sp U El:=fun args k=>match args with
  | [.lst .rule l,.agg [.lst .node n_nds,.lst .link n_lks],.str s]=>chk ((okN (⟨n_nds,n_lks⟩:Net)&&dL l)) (k (.bool (lq l (⟨n_nds,n_lks⟩:Net) s)) [])
  | _=>none
theorem spOk:SpOk Tryz.prog E 24 sp where
  det:=fun vs=>by
    unfold sp
    split
    · exact aY _ _ _
    · exact ⟨none,fun _=>rfl⟩
  ok:=fun vs k r h=>by
    unfold sp at h
    split at h
    · obtain ⟨h1, h2⟩ := af h
      exact ⟨_,_,spec _ ⟨_,_⟩ _ h1,h2⟩
    · cases h
end many
end Go.Proofs.YthdimnlkcgchoaaGreat

namespace Go.Proofs.YthdimnlkcgchoaaGreat
set_option linter.unusedSectionVars false
set_option linter.unusedSimpArgs false
set_option linter.unusedVariables false
set_option maxRecDepth 100000
theorem nq {l:List Rule} {n:Net} (h:d5 l n=false):okN n=true:=by
  simp only [d5,Bool.or_eq_false_iff] at h
  obtain ⟨h1,h2,_,_,_,h3,_⟩:=h
  have a:=iw h1; have b:=iw h2
  simp only [okN,Bool.and_eq_true]
  refine ⟨bE (by simp at a; omega),bE (by simp at b; omega),List.all_eq_true.2 fun x hx => ?_⟩
  have:=List.any_eq_false.1 h3 x hx
  simp only [ci,Bool.or_eq_true,not_or] at this
  have:=this.1
  exact bE (by simp [ilt] at this; omega)
end Go.Proofs.YthdimnlkcgchoaaGreat

namespace Go.Proofs.YthdimnlkcgchoaaGreat
set_option linter.unusedSectionVars false
set_option linter.unusedSimpArgs false
set_option linter.unusedVariables false
set_option maxRecDepth 100000
noncomputable def bg (m:List ((List UInt8)×Int)) (x:Cnd):Bool:=(ile x.cl (bx bq m x.cn aL)) == x.cb
noncomputable def s4 (ns:List (List UInt8)):Bool:=eJ (fun i x => !(List.elem x (ns.take i))) 0 ns
noncomputable def iJ (x:Node):Bool:=inR 4194304 x.ni&&(inR 4194304 x.ng&&ile x.ni x.ng)
noncomputable def gQ (n:Net):Bool:=List.all n.nds iJ
noncomputable def lr (at_:List UInt32) (i:Nat) (x:Node):Int :=
  bif (x.nk != 3)&&ilt 0 (Int.ofNat at_.length) then x.ni+Int.tmod (Int.ofNat (UInt32.toNat (List.getD at_ (i%at_.length) iX))) (x.ng - x.ni+1) else x.ni
noncomputable def fS (at_:List UInt32):Nat→List Node→List Int
  | _,[]=>[]
  | i,x :: l=>lr at_ i x :: fS at_ (i+1) l
noncomputable def dj (nds:List Node) (at_:List UInt32):List Int:=fS at_ 0 nds
noncomputable def ls (v:List Int):R:=some (.ful 0,[(0,.rows .int v)])
noncomputable def fT (l:List Rule) (n:Net):Bool := !(d5 l n)&&(aV l n == 0)
theorem rj (a b:List UInt8):bq a b=(a == b):=by rw [Bool.eq_iff_iff,j6]; simp
theorem nu {m:List ((List UInt8)×Int)} {k:List UInt8} {v:Int} (h:dY bq m k=false):eI bq m k v=m++[(k,v)]:=by
  induction m with
  | nil=>rfl
  | cons p m ih =>
    unfold dY at h
    simp only [dQ] at h
    simp only [eI]
    cases e:bq k p.1 with
    | true=>rw [e] at h; cases h
    | false =>
      rw [e] at h
      rw [cond_false,ih h]
      rfl
theorem nv (k:List UInt8):∀ (a:List (List UInt8)) (b:List Int),a.length=b.length→dY bq (List.zip a b) k=List.elem k a:=by
  intro a
  induction a with
  | nil=>intro b _; rfl
  | cons x a ih =>
    intro b h
    cases b with
    | nil=>cases h
    | cons y b =>
      have:=ih b (by simpa using h)
      unfold dY at this ⊢
      simp only [List.zip_cons_cons,dQ]
      rw [rj,List.elem_cons]
      cases k == x
      · simpa using this
      · rfl
theorem p5 (k : List UInt8) : ∀ (a : List (List UInt8)) (b : List Int) (i : Nat), a.length = b.length → List.elem k a = true → bx bq (List.zip a b) k aL = List.getD b (Int.toNat (aN (fun x => x == k) i a - (i : Int))) 0 ∧ (i : Int) ≤ aN (fun x => x == k) i a := by
  intro a
  induction a with
  | nil=>intro b i _ h; cases h
  | cons x a ih =>
    intro b i h he
    cases b with
    | nil=>cases h
    | cons y b =>
      rw [List.elem_cons] at he
      unfold bx
      simp only [List.zip_cons_cons,dQ,aN]
      rw [rj]
      by_cases e:k=x
      · subst e
        rw [beq_self_eq_true,cond_true,cond_true,Int.sub_self]
        exact ⟨rfl,Int.le_refl _⟩
      · have e1 : (k == x) = false := by simpa using e
        have e2:(x == k)=false:=by simpa using fun h=>e h.symm
        rw [e1] at he
        replace he:List.elem k a=true:=he
        rw [e1,e2,cond_false,cond_false]
        obtain ⟨i1,i2⟩:=ih b (i+1) (by simpa using h) he
        refine ⟨?_,by omega⟩
        unfold bx at i1
        rw [i1,show aN (fun x=>x == k) (i+1) a - (i:Int)=(aN (fun x=>x == k) (i+1) a - ((i+1:Nat):Int))+1 by omega]
        rw [Int.toNat_add (by omega) (by omega)]
        rfl
namespace uh1
noncomputable def bd:Code:=(Tryz.f129.body).getD .skip
noncomputable def X:Ctx U El:=⟨E,tds,zeros,eqs,aC [],100000,14,ap [],fun _=>none⟩
noncomputable def nmR:Norm U:=⟨[],[3],[],[],[],[],[]⟩
noncomputable def RR:ab U El:=fun st=>aE nmR st (aD [3] [])
noncomputable def fr0 (x:Cnd) (am:List ((List UInt8)×Int)):St U El:=⟨[(0,(.agg [(.str x.cn),(.bool x.cb),(.int .i64 x.cl)])),(1,(.pcs [(.fmp .str .int am)] 0))],[]⟩
noncomputable def sh0 (x:Cnd) (am:List ((List UInt8)×Int)):R :=
  some ((.bool ((ile x.cl (bx bq am x.cn aL)) == x.cb)),[])
theorem P0 (x am):ac X (cdp [] bd) .d (fr0 x am) RR (fun _ _=>none) RR=sh0 x am:=by kernel_rfl
noncomputable def f0 (x:Cnd) (am:List ((List UInt8)×Int)):R:=sh0 x am
theorem T0 (x am):ac X bd .d (fr0 x am) RR (fun _ _=>none) RR=f0 x am:=by
  refine (P0 x am).trans ?_
  show _=sh0 x am
  rfl
theorem run (x am):aJ X bd .d nmR [3] [] [(.agg [(.str x.cn),(.bool x.cb),(.int .i64 x.cl)]),(.pcs [(.fmp .str .int am)] 0)]=f0 x am:=T0 x am
theorem f0_eq (x:Cnd) (m:List ((List UInt8)×Int)):f0 x m=aH (bg m x):=rfl
theorem ok:CtxOk Tryz.prog X:=aI tab spN dpN
theorem okM:MOk Tryz.prog X:=fun g sp h=>by cases h
theorem spec (x:Cnd) (am:List ((List UInt8)×Int)):aj Tryz.prog E 129 [(.agg [(.str x.cn),(.bool x.cb),(.int .i64 x.cl)]),(.pcs [(.fmp .str .int am)] 0)] (.bool ((bg am) x)) [] :=
  ae ok okM Tryz.call129 Tryz.func129 (by kernel_rfl) (by kernel_rfl) (by kernel_rfl) (by show 2≤14; decide) (by decide) (by rfl) ((run x am).trans (f0_eq x am))
noncomputable def sp:Sp U El:=fun args k=>match args with
  | [.agg [.str x_cn,.bool x_cb,.int .i64 x_cl],.pcs [.fmp .str .int am] 0]=>k (.bool ((bg am) (⟨x_cn,x_cb,x_cl⟩:Cnd))) []
  | _=>none
theorem spOk:SpOk Tryz.prog E 129 sp where
  det:=fun vs=>by
    unfold sp
    split
    · exact ⟨some (_,_),fun _=>rfl⟩
    · exact ⟨none,fun _=>rfl⟩
  ok:=fun vs k r h=>by
    unfold sp at h
    split at h
    · exact ⟨_,_,spec ⟨_,_,_⟩ _,h⟩
    · cases h
end uh1
namespace uh1X
noncomputable def bd:Code:=(Tryz.f130.body).getD .skip
noncomputable def X:Ctx U El:=⟨E,tds,zeros,eqs,aC [(129,uh1.sp)],100000,19,ap [],fun _=>none⟩
noncomputable def nmR:Norm U:=⟨[],[4],[],[],[],[],[]⟩
noncomputable def RR:ab U El:=fun st=>aE nmR st (aD [4] [])
noncomputable def nm1:Norm U:=⟨[],[],[],[],[],[],[]⟩
noncomputable def nm2:Norm U:=⟨[],[0,1,7,8],[],[],[],[],[]⟩
abbrev Y1:=R
abbrev Y2:=(List Cnd)→(List ((List UInt8)×Int))→Int→Int→R
noncomputable def fr0 (l:List Cnd) (am:List ((List UInt8)×Int)):St U El:=⟨[(0,(.lst .cnd l)),(1,(.fn 129 [] [(.pcs [(.fmp .str .int am)] 0)]))],[]⟩
noncomputable def fr1:St U El:=⟨[],[]⟩
noncomputable def fr2 (s0:List Cnd) (f1c_0:List ((List UInt8)×Int)) (x7:Int) (x8:Int):St U El:=⟨[(0,(.lst .cnd s0)),(1,(.fn 129 [] [(.pcs [(.fmp .str .int f1c_0)] 0)])),(7,(.int .i64 x7)),(8,(.int .i64 x8))],[]⟩
noncomputable def sh0 (l:List Cnd) (am:List ((List UInt8)×Int)) (k2:Y2):R :=
  k2 l am (Int.ofNat (List.length l)) (0:Int)
noncomputable def sh1:R :=
  some ((.int .i64 (-1:Int)),[])
noncomputable def sh2 (s0:List Cnd) (f1c_0:List ((List UInt8)×Int)) (x7:Int) (x8:Int) (k1:Y1) (k2:Y2):R :=
  aa (ilt x8 x7) (chk (inb x8 (List.length s0)) (aa ((bg f1c_0) (List.getD s0 (Int.toNat x8) cI)) (some ((.int .i64 x8),[])) (k2 s0 f1c_0 x7 (IntKind.wrap .i64 (x8+(1:Int)))))) (k1)
noncomputable def it2 (Kb1:ab U El) (n:Nat):ab U El:=bw nm2 (fun st' K'=>ac X (cdp [1,0,1,0,0] bd) .d st' K' (aq 0 (ah nm1 Kb1) (fun _ _=>none)) RR) n
noncomputable def ct1:ab U El:=fun st=>ac X (cdp [1,1] bd) .d st RR (fun _ _=>none) RR
theorem P0 (l am):ac X (cdp [] bd) (.seq none .d (.seq (some nm1) (.seq none .d (.block (.loop nm2 .d))) .d)) (fr0 l am) RR (fun _ _=>none) RR=sh0 l am (fun y0 y1 y2 y3=>(hid (it2 (hid ct1) 100000)) (fr2 y0 y1 y2 y3)):=by kernel_rfl
theorem P1:ct1 (fr1)=sh1:=by kernel_rfl
theorem P2 (s0 f1c_0 x7 x8) (Kb1 Kb2:ab U El):ac X (cdp [1,0,1,0,0] bd) .d (fr2 s0 f1c_0 x7 x8) (ah nm2 Kb2) (aq 0 (ah nm1 Kb1) (fun _ _=>none)) RR=sh2 s0 f1c_0 x7 x8 (Kb1 (fr1)) (fun y0 y1 y2 y3=>Kb2 (fr2 y0 y1 y2 y3)):=by kernel_rfl
noncomputable def f1:R:=sh1
noncomputable def f2:Nat→Y2
  | 0=>fun _ _ _ _=>none
  | n+1=>fun s0 f1c_0 x7 x8=>sh2 s0 f1c_0 x7 x8 f1 (f2 n)
noncomputable def f0 (l:List Cnd) (am:List ((List UInt8)×Int)):R:=sh0 l am (f2 100000)
theorem T1:(hid ct1) (fr1)=f1:=by
  refine (congrFun (ai _) _).trans <| (P1).trans ?_
  show _=sh1
  rfl
theorem T2:∀ (n:Nat),∀ s0 f1c_0 x7 x8,it2 (hid ct1) n (fr2 s0 f1c_0 x7 x8)=f2 n s0 f1c_0 x7 x8:=by
  intro n
  induction n with
  | zero=>intros; rfl
  | succ n ih =>
    intro s0 f1c_0 x7 x8
    refine (P2 s0 f1c_0 x7 x8 (hid ct1) (it2 (hid ct1) n)).trans ?_
    show _=sh2 s0 f1c_0 x7 x8 f1 (f2 n)
    simp only [T1,ih]
theorem H2 (s0 f1c_0 x7 x8):hid (it2 (hid ct1) 100000) (fr2 s0 f1c_0 x7 x8)=f2 100000 s0 f1c_0 x7 x8:=(congrFun (ai _) _).trans (T2 100000 s0 f1c_0 x7 x8)
theorem T0 (l am):ac X bd (.seq none .d (.seq (some nm1) (.seq none .d (.block (.loop nm2 .d))) .d)) (fr0 l am) RR (fun _ _=>none) RR=f0 l am:=by
  refine (P0 l am).trans ?_
  show _=sh0 l am (f2 100000)
  simp only [H2]
theorem run (l am):aJ X bd (.seq none .d (.seq (some nm1) (.seq none .d (.block (.loop nm2 .d))) .d)) nmR [4] [] [(.lst .cnd l),(.fn 129 [] [(.pcs [(.fmp .str .int am)] 0)])]=f0 l am:=T0 l am
theorem f0_eq (l:List Cnd) (am:List ((List UInt8)×Int)) (h:(nle (List.length l) 90000)=true):f0 l am=bH (aN (bg am) 0 l):=by
  have hl:=bQ h
  refine (bu l (by omega) (fun n_ (_:Unit) i_=>f2 n_ l am (Int.ofNat l.length) i_) _ (fun _=>bH (-1)) (fun n_ u_ i_ hi_ => ?_) (fun n_ u_ => ?_) 100000 0 () (by omega) (by omega)).trans (bM (bg am) bH l 0)
  · show sh2 l am (Int.ofNat l.length) i_ f1 (f2 n_) = _
    unfold sh2
    rw [aX (by simp; omega),aW hi_,ak,ar hi_]
    rfl
  · show sh2 l am (Int.ofNat l.length) (l.length : Int) f1 (f2 n_) = _
    unfold sh2
    rw [aR (by simp)]
    rfl
theorem ok:CtxOk Tryz.prog X:=aI tab (spC uh1.spOk spN) dpN
theorem okM:MOk Tryz.prog X:=fun g sp h=>by cases h
theorem spec (l:List Cnd) (am:List ((List UInt8)×Int)) (h:(nle (List.length l) 90000)=true):aj Tryz.prog E 130 [(.lst .cnd l),(.fn 129 [] [(.pcs [(.fmp .str .int am)] 0)])] (.int .i64 (aN (bg am) 0 l)) [] :=
  ae ok okM Tryz.call130 Tryz.func130 (by kernel_rfl) (by kernel_rfl) (by kernel_rfl) (by show 2≤19; decide) (by decide) (by rfl) ((run l am).trans (f0_eq l am h))
noncomputable def sp:Sp U El:=fun args k=>match args with
  | [.lst .cnd l,.fn 129 [] [.pcs [.fmp .str .int am] 0]]=>chk (nle (List.length l) 90000) (k (.int .i64 (aN (bg am) 0 l)) [])
  | _=>none
theorem spOk:SpOk Tryz.prog E 130 sp where
  det:=fun vs=>by
    unfold sp
    split
    · exact aY _ _ _
    · exact ⟨none,fun _=>rfl⟩
  ok:=fun vs k r h=>by
    unfold sp at h
    split at h
    · obtain ⟨h1, h2⟩ := af h
      exact ⟨_,_,spec _ _ h1,h2⟩
    · cases h
end uh1X
namespace uh1C
noncomputable def bd:Code:=(Tryz.f88.body).getD .skip
noncomputable def X:Ctx U El:=⟨E,tds,zeros,eqs,aC [(130,uh1X.sp)],100000,9,ap [],fun _=>none⟩
noncomputable def nmR:Norm U:=⟨[],[4],[],[],[],[],[]⟩
noncomputable def RR:ab U El:=fun st=>aE nmR st (aD [4] [])
noncomputable def fr0 (l:List Cnd) (am:List ((List UInt8)×Int)):St U El:=⟨[(0,(.lst .cnd l)),(1,(.fn 129 [] [(.pcs [(.fmp .str .int am)] 0)]))],[]⟩
noncomputable def sh0 (l:List Cnd) (am:List ((List UInt8)×Int)):R :=
  chk (nle (List.length l) 90000) (some ((.bool (ile (0:Int) (aN (bg am) 0 l))),[]))
theorem P0 (l am):ac X (cdp [] bd) .d (fr0 l am) RR (fun _ _=>none) RR=sh0 l am:=by kernel_rfl
noncomputable def f0 (l:List Cnd) (am:List ((List UInt8)×Int)):R:=sh0 l am
theorem T0 (l am):ac X bd .d (fr0 l am) RR (fun _ _=>none) RR=f0 l am:=by
  refine (P0 l am).trans ?_
  show _=sh0 l am
  rfl
theorem run (l am):aJ X bd .d nmR [4] [] [(.lst .cnd l),(.fn 129 [] [(.pcs [(.fmp .str .int am)] 0)])]=f0 l am:=T0 l am
theorem f0_eq (l:List Cnd) (am:List ((List UInt8)×Int)) (h:(nle (List.length l) 90000)=true):f0 l am=aH (List.any l (bg am)):=by
  show chk _ (aH _)=_
  rw [h,bL,b8]
theorem ok:CtxOk Tryz.prog X:=aI tab (spC uh1X.spOk spN) dpN
theorem okM:MOk Tryz.prog X:=fun g sp h=>by cases h
theorem spec (l:List Cnd) (am:List ((List UInt8)×Int)) (h:(nle (List.length l) 90000)=true):aj Tryz.prog E 88 [(.lst .cnd l),(.fn 129 [] [(.pcs [(.fmp .str .int am)] 0)])] (.bool (List.any l (bg am))) [] :=
  ae ok okM Tryz.call88 Tryz.func88 (by kernel_rfl) (by kernel_rfl) (by kernel_rfl) (by show 2≤9; decide) (by decide) (by rfl) ((run l am).trans (f0_eq l am h))
noncomputable def sp:Sp U El:=fun args k=>match args with
  | [.lst .cnd l,.fn 129 [] [.pcs [.fmp .str .int am] 0]]=>chk (nle (List.length l) 90000) (k (.bool (List.any l (bg am))) [])
  | _=>none
theorem spOk:SpOk Tryz.prog E 88 sp where
  det:=fun vs=>by
    unfold sp
    split
    · exact aY _ _ _
    · exact ⟨none,fun _=>rfl⟩
  ok:=fun vs k r h=>by
    unfold sp at h
    split at h
    · obtain ⟨h1, h2⟩ := af h
      exact ⟨_,_,spec _ _ h1,h2⟩
    · cases h
end uh1C
namespace uholds
noncomputable def bd:Code:=(Tryz.f87.body).getD .skip
noncomputable def X:Ctx U El:=⟨E,tds,zeros,eqs,aC [(88,uh1C.sp)],100000,10,ap [],fun _=>none⟩
noncomputable def nmR:Norm U:=⟨[],[4],[],[],[],[],[]⟩
noncomputable def RR:ab U El:=fun st=>aE nmR st (aD [4] [])
noncomputable def fr0 (r:Rule) (am:List ((List UInt8)×Int)):St U El:=⟨[(0,(.agg [(.str r.rn),(.lst .cnd r.rw),(.str r.rl),(.int .i64 r.rs)])),(1,(.fmp .str .int am))],[]⟩
noncomputable def sh0 (r:Rule) (am:List ((List UInt8)×Int)):R :=
  chk (nle (List.length r.rw) 90000) (some ((.bool (!(List.any r.rw (bg am)))),[]))
theorem P0 (r am):ac X (cdp [] bd) .d (fr0 r am) RR (fun _ _=>none) RR=sh0 r am:=by kernel_rfl
noncomputable def f0 (r:Rule) (am:List ((List UInt8)×Int)):R:=sh0 r am
theorem T0 (r am):ac X bd .d (fr0 r am) RR (fun _ _=>none) RR=f0 r am:=by
  refine (P0 r am).trans ?_
  show _=sh0 r am
  rfl
theorem run (r am):aJ X bd .d nmR [4] [] [(.agg [(.str r.rn),(.lst .cnd r.rw),(.str r.rl),(.int .i64 r.rs)]),(.fmp .str .int am)]=f0 r am:=T0 r am
theorem f0_eq (r:Rule) (m:List ((List UInt8)×Int)) (h:(nle (List.length (Rule.rw r)) 90000)=true):f0 r m=aH (!(List.any (Rule.rw r) (bg m))):=by
  show sh0 r m=_
  unfold sh0
  rw [h]
  rfl
theorem ok:CtxOk Tryz.prog X:=aI tab (spC uh1C.spOk spN) dpN
theorem okM:MOk Tryz.prog X:=fun g sp h=>by cases h
theorem spec (r:Rule) (am:List ((List UInt8)×Int)) (h:(nle (List.length (Rule.rw r)) 90000)=true):aj Tryz.prog E 87 [(.agg [(.str r.rn),(.lst .cnd r.rw),(.str r.rl),(.int .i64 r.rs)]),(.fmp .str .int am)] (.bool (!(List.any (Rule.rw r) (bg am)))) [] :=
  ae ok okM Tryz.call87 Tryz.func87 (by kernel_rfl) (by kernel_rfl) (by kernel_rfl) (by show 2≤10; decide) (by decide) (by rfl) ((run r am).trans (f0_eq r am h))
noncomputable def sp:Sp U El:=fun args k=>match args with
  | [.agg [.str r_rn,.lst .cnd r_rw,.str r_rl,.int .i64 r_rs],.fmp .str .int am]=>chk (nle (List.length (Rule.rw (⟨r_rn,r_rw,r_rl,r_rs⟩:Rule))) 90000) (k (.bool (!(List.any (Rule.rw (⟨r_rn,r_rw,r_rl,r_rs⟩:Rule)) (bg am)))) [])
  | _=>none
theorem spOk:SpOk Tryz.prog E 87 sp where
  det:=fun vs=>by
    unfold sp
    split
    · exact aY _ _ _
    · exact ⟨none,fun _=>rfl⟩
  ok:=fun vs k r h=>by
    unfold sp at h
    split at h
    · obtain ⟨h1, h2⟩ := af h
      exact ⟨_,_,spec ⟨_,_,_,_⟩ _ h1,h2⟩
    · cases h
end uholds
namespace levels
noncomputable def bd:Code:=(Tryz.f39.body).getD .skip
noncomputable def X:Ctx U El:=⟨E,tds,zeros,eqs,aC [],100000,50,ap [],fun _=>none⟩
noncomputable def nmR:Norm U:=⟨[(4,.int)],[4],[4],[],[],[],[]⟩
noncomputable def RR:ab U El:=fun st=>aE nmR st (aD [4] [4])
noncomputable def nm1:Norm U:=⟨[(5,.int)],[5],[5],[],[],[],[]⟩
noncomputable def nm2:Norm U:=⟨[(5,.int)],[1,5,10,11,12],[5],[],[],[],[]⟩
noncomputable def nm3:Norm U:=⟨[(5,.int)],[1,5,10,11,12],[5],[],[],[],[]⟩
noncomputable def nm4:Norm U:=⟨[(5,.int)],[1,5,8,10,11,12],[5],[],[],[],[]⟩
abbrev Y1:=(List Int)→R
abbrev Y2:=(List UInt32)→(List Int)→(List Node)→Int→Int→R
abbrev Y3:=(List UInt32)→(List Int)→(List Node)→Int→Int→R
abbrev Y4:=(List UInt32)→(List Int)→Int→(List Node)→Int→Int→R
noncomputable def fr0 (n:Net) (ats:List UInt32):St U El:=⟨[(0,(.agg [(.lst .node n.nds),(.lst .link n.lks)])),(1,(.lst .u32 ats))],[]⟩
noncomputable def fr1 (bA:List Int):St U El:=⟨[(5,(.ful 5))],[(5,(.rows .int bA))]⟩
noncomputable def fr2 (kA:List UInt32) (bA:List Int) (hA:List Node) (mA:Int) (eA:Int):St U El:=⟨[(1,(.lst .u32 kA)),(5,(.ful 5)),(10,(.lst .node hA)),(11,(.int .i64 mA)),(12,(.int .i64 eA))],[(5,(.rows .int bA))]⟩
noncomputable def fr3 (kA:List UInt32) (bA:List Int) (hA:List Node) (mA:Int) (eA:Int):St U El:=⟨[(1,(.lst .u32 kA)),(5,(.ful 5)),(10,(.lst .node hA)),(11,(.int .i64 mA)),(12,(.int .i64 eA))],[(5,(.rows .int bA))]⟩
noncomputable def fr4 (kA:List UInt32) (bA:List Int) (v8:Int) (hA:List Node) (mA:Int) (eA:Int):St U El:=⟨[(1,(.lst .u32 kA)),(5,(.ful 5)),(8,(.int .i64 v8)),(10,(.lst .node hA)),(11,(.int .i64 mA)),(12,(.int .i64 eA))],[(5,(.rows .int bA))]⟩
noncomputable def sh0 (n:Net) (ats:List UInt32) (k2:Y2):R :=
  k2 ats ([]:List Int) n.nds (Int.ofNat (List.length n.nds)) (0:Int)
noncomputable def sh1 (bA:List Int):R :=
  some ((.ful 0),[(0,.rows .int bA)])
noncomputable def sh2 (kA:List UInt32) (bA:List Int) (hA:List Node) (mA:Int) (eA:Int) (k1:Y1) (k4:Y4):R :=
  aa (ilt eA mA) (chk (inb eA (List.length hA)) (aa ((List.getD hA (Int.toNat eA) aO).nk != (3:Int)) (aa (ilt (0:Int) (Int.ofNat (List.length kA))) (chk ((Int.ofNat (List.length kA)) != 0) (chk (inb (Int.tmod eA (Int.ofNat (List.length kA))) (List.length kA)) (chk ((IntKind.wrap .i64 ((IntKind.wrap .i64 ((List.getD hA (Int.toNat eA) aO).ng - (List.getD hA (Int.toNat eA) aO).ni))+(1:Int))) != 0) (k4 kA bA (IntKind.wrap .i64 ((List.getD hA (Int.toNat eA) aO).ni+(Int.tmod (IntKind.wrap .i64 (Int.ofNat (UInt32.toNat (List.getD kA (Int.toNat (Int.tmod eA (Int.ofNat (List.length kA)))) iX)))) (IntKind.wrap .i64 ((IntKind.wrap .i64 ((List.getD hA (Int.toNat eA) aO).ng - (List.getD hA (Int.toNat eA) aO).ni))+(1:Int)))))) hA mA eA)))) (k4 kA bA ((List.getD hA (Int.toNat eA) aO).ni) hA mA eA)) (k4 kA bA ((List.getD hA (Int.toNat eA) aO).ni) hA mA eA))) (k1 bA)
noncomputable def sh3 (kA:List UInt32) (bA:List Int) (hA:List Node) (mA:Int) (eA:Int) (k2:Y2):R :=
  k2 kA bA hA mA (IntKind.wrap .i64 (eA+(1:Int)))
noncomputable def sh4 (kA:List UInt32) (bA:List Int) (v8:Int) (hA:List Node) (mA:Int) (eA:Int) (k3:Y3):R :=
  chk (nle ((List.length bA+List.length ([v8]:List Int)) * 8) 140737488355328&&nle (List.length bA+List.length ([v8]:List Int)) 9223372036854775807) (k3 kA (bA++([v8]:List Int)) hA mA eA)
noncomputable def it2 (Kb1:ab U El) (n:Nat):ab U El:=bw nm2 (fun st' K'=>ac X (cdp [1,1,0,1,0,0] bd) (.seq none .d (.seq none .d (.seq (some nm3) (.block (.seq none .d (.seq none .d (.seq (some nm4) .d .d)))) .d))) st' K' (aq 0 (ah nm1 Kb1) (fun _ _=>none)) RR) n
noncomputable def ct1:ab U El:=fun st=>ac X (cdp [1,1,1] bd) .d st RR (fun _ _=>none) RR
noncomputable def ct3 (Kb1 Kb2:ab U El):ab U El:=fun st=>ac X (cdp [1,1,0,1,0,0,1,1,1] bd) .d st (ah nm2 Kb2) (aq 0 (ah nm1 Kb1) (fun _ _=>none)) RR
noncomputable def ct4 (Kb1 Kb3:ab U El):ab U El:=fun st=>ac X (cdp [1,1,0,1,0,0,1,1,0,0,1,1,1] bd) .d st (ah nm3 Kb3) (aq 1 (ah nm3 Kb3) (aq 0 (ah nm1 Kb1) (fun _ _=>none))) RR
theorem P0 (n ats):ac X (cdp [] bd) (.seq none .d (.seq none .d (.seq (some nm1) (.seq none .d (.block (.loop nm2 (.seq none .d (.seq none .d (.seq (some nm3) (.block (.seq none .d (.seq none .d (.seq (some nm4) .d .d)))) .d)))))) .d))) (fr0 n ats) RR (fun _ _=>none) RR=sh0 n ats (fun y0 y1 y2 y3 y4=>(hid (it2 (hid ct1) 100000)) (fr2 y0 y1 y2 y3 y4)):=by kernel_rfl
theorem P1 (bA):ct1 (fr1 bA)=sh1 bA:=by kernel_rfl
theorem P2 (kA bA hA mA eA) (Kb1 Kb2:ab U El):ac X (cdp [1,1,0,1,0,0] bd) (.seq none .d (.seq none .d (.seq (some nm3) (.block (.seq none .d (.seq none .d (.seq (some nm4) .d .d)))) .d))) (fr2 kA bA hA mA eA) (ah nm2 Kb2) (aq 0 (ah nm1 Kb1) (fun _ _=>none)) RR=sh2 kA bA hA mA eA (fun y0=>Kb1 (fr1 y0)) (fun y0 y1 y2 y3 y4 y5=>(hid (ct4 Kb1 (hid (ct3 Kb1 Kb2)))) (fr4 y0 y1 y2 y3 y4 y5)):=by kernel_rfl
theorem P3 (kA bA hA mA eA) (Kb1 Kb2:ab U El):ct3 Kb1 Kb2 (fr3 kA bA hA mA eA)=sh3 kA bA hA mA eA (fun y0 y1 y2 y3 y4=>Kb2 (fr2 y0 y1 y2 y3 y4)):=by kernel_rfl
theorem P4 (kA bA v8 hA mA eA) (Kb1 Kb3:ab U El):ct4 Kb1 Kb3 (fr4 kA bA v8 hA mA eA)=sh4 kA bA v8 hA mA eA (fun y0 y1 y2 y3 y4=>Kb3 (fr3 y0 y1 y2 y3 y4)):=by kernel_rfl
noncomputable def f1 (bA:List Int):R:=sh1 bA
noncomputable def f3 (k2:Y2) (kA:List UInt32) (bA:List Int) (hA:List Node) (mA:Int) (eA:Int):R:=sh3 kA bA hA mA eA k2
noncomputable def f4 (k2:Y2) (kA:List UInt32) (bA:List Int) (v8:Int) (hA:List Node) (mA:Int) (eA:Int):R:=sh4 kA bA v8 hA mA eA (f3 k2)
noncomputable def f2:Nat→Y2
  | 0=>fun _ _ _ _ _=>none
  | n+1=>fun kA bA hA mA eA=>sh2 kA bA hA mA eA f1 (f4 (f2 n))
noncomputable def f0 (n:Net) (ats:List UInt32):R:=sh0 n ats (f2 100000)
theorem T1 (bA):(hid ct1) (fr1 bA)=f1 bA:=by
  refine (congrFun (ai _) _).trans <| (P1 bA).trans ?_
  show _=sh1 bA
  rfl
theorem T3 (KL2:ab U El) (k2:Y2) (h2:∀ kA bA hA mA eA,KL2 (fr2 kA bA hA mA eA)=k2 kA bA hA mA eA) (kA bA hA mA eA):(hid (ct3 (hid ct1) KL2)) (fr3 kA bA hA mA eA)=f3 k2 kA bA hA mA eA:=by
  refine (congrFun (ai _) _).trans <| (P3 kA bA hA mA eA (hid ct1) KL2).trans ?_
  show _=sh3 kA bA hA mA eA k2
  simp only [h2]
theorem T4 (KL2:ab U El) (k2:Y2) (h2:∀ kA bA hA mA eA,KL2 (fr2 kA bA hA mA eA)=k2 kA bA hA mA eA) (kA bA v8 hA mA eA):(hid (ct4 (hid ct1) (hid (ct3 (hid ct1) KL2)))) (fr4 kA bA v8 hA mA eA)=f4 k2 kA bA v8 hA mA eA:=by
  refine (congrFun (ai _) _).trans <| (P4 kA bA v8 hA mA eA (hid ct1) (hid (ct3 (hid ct1) KL2))).trans ?_
  show _=sh4 kA bA v8 hA mA eA (f3 k2)
  simp only [T3 KL2 k2 h2]
theorem T2:∀ (n:Nat),∀ kA bA hA mA eA,it2 (hid ct1) n (fr2 kA bA hA mA eA)=f2 n kA bA hA mA eA:=by
  intro n
  induction n with
  | zero=>intros; rfl
  | succ n ih =>
    intro kA bA hA mA eA
    refine (P2 kA bA hA mA eA (hid ct1) (it2 (hid ct1) n)).trans ?_
    show _=sh2 kA bA hA mA eA f1 (f4 (f2 n))
    simp only [T1,T4 (it2 (hid ct1) n) (f2 n) ih]
theorem H2 (kA bA hA mA eA):hid (it2 (hid ct1) 100000) (fr2 kA bA hA mA eA)=f2 100000 kA bA hA mA eA:=(congrFun (ai _) _).trans (T2 100000 kA bA hA mA eA)
theorem T0 (n ats):ac X bd (.seq none .d (.seq none .d (.seq (some nm1) (.seq none .d (.block (.loop nm2 (.seq none .d (.seq none .d (.seq (some nm3) (.block (.seq none .d (.seq none .d (.seq (some nm4) .d .d)))) .d)))))) .d))) (fr0 n ats) RR (fun _ _=>none) RR=f0 n ats:=by
  refine (P0 n ats).trans ?_
  show _=sh0 n ats (f2 100000)
  simp only [H2]
theorem run (n ats):aJ X bd (.seq none .d (.seq none .d (.seq (some nm1) (.seq none .d (.block (.loop nm2 (.seq none .d (.seq none .d (.seq (some nm3) (.block (.seq none .d (.seq none .d (.seq (some nm4) .d .d)))) .d)))))) .d))) nmR [4] [4] [(.agg [(.lst .node n.nds),(.lst .link n.lks)]),(.lst .u32 ats)]=f0 n ats:=T0 n ats
theorem loop (at_ : List UInt32) (nds : List Node) (hn : nds.length ≤ 90000) (hx : ∀ x ∈ nds, iJ x = true) : ∀ (n i : Nat) (out : List Int), nds.length < n + i → i ≤ nds.length → out.length = i →
    f2 n at_ out nds (Int.ofNat nds.length) (i:Int)=ls (out++fS at_ i (nds.drop i)):=by
  intro n
  induction n with
  | zero=>intro i out h1 h2; omega
  | succ n ih =>
    intro i out h1 h2 h3
    show sh2 at_ out nds (Int.ofNat nds.length) (i:Int) f1 (f4 (f2 n))=_
    unfold sh2
    by_cases hi:i < nds.length
    · have hk : ∀ v : Int, f4 (f2 n) at_ out v nds (Int.ofNat nds.length) (i : Int) = ls (out ++ v :: fS at_ (i + 1) (nds.drop (i + 1))) := fun v => by
        show sh4 at_ out v nds (Int.ofNat nds.length) (i:Int) (f3 (f2 n))=_
        unfold sh4
        rw [bE (show _≤140737488355328 by simp; omega),bE (show _≤9223372036854775807 by simp; omega)]
        show f2 n at_ (out++[v]) nds (Int.ofNat nds.length) (IntKind.wrap .i64 ((i:Int)+1))=_
        rw [bD i (by omega),ih (i+1) _ (by omega) hi (by simp; omega)]
        simp only [List.append_assoc,List.singleton_append]
      have ho:=hx _ (List.getElem_mem hi)
      simp only [iJ,inR,Bool.and_eq_true] at ho
      obtain ⟨⟨o1,o2⟩,⟨o3,o4⟩,o5⟩:=ho
      have o1:=gJ o1; have o2:=gJ o2; have o3:=gJ o3; have o4:=gJ o4; have o5:=gJ o5
      rw [aX (by simp; omega),aW hi,ak,ar hi,bc hi,hk,hk]
      simp only [bG,bL,fS,lr]
      cases h5:nds[i].nk != 3 with
      | false=>rfl
      | true =>
        cases h6:ilt 0 (Int.ofNat at_.length) with
        | false=>rfl
        | true =>
          have hp:0 < at_.length:=by have:=sO h6; simp at this; omega
          have e1:Int.tmod (i:Int) (Int.ofNat at_.length)=((i%at_.length:Nat):Int):=rfl
          have e2:i%at_.length < at_.length:=Nat.mod_lt _ hp
          have e3:((Int.ofNat at_.length) != 0)=true:=by
            have:Int.ofNat at_.length≠0:=by simp; intro h; rw [h] at hp; simp at hp
            simpa [bne_iff_ne] using this
          have e4:UInt32.toNat (List.getD at_ (i%at_.length) iX) < 4294967296:=UInt32.toNat_lt _
          have e5:((nds[i].ng - nds[i].ni+1) != 0)=true:=by
            have:nds[i].ng - nds[i].ni+1≠0:=by omega
            simpa [bne_iff_ne] using this
          have e6:=Int.tmod_nonneg (a:=Int.ofNat (UInt32.toNat (List.getD at_ (i%at_.length) iX))) (nds[i].ng - nds[i].ni+1) (by simp)
          have e7:=Int.tmod_lt_of_pos (Int.ofNat (UInt32.toNat (List.getD at_ (i%at_.length) iX))) (show 0 < nds[i].ng - nds[i].ni+1 by omega)
          simp only [bG]
          rw [e1,ak,aW e2,e3,eF (x:=nds[i].ng - nds[i].ni) (by omega) (by omega),eF (x:=nds[i].ng - nds[i].ni+1) (by omega) (by omega),e5,eF (x:=Int.ofNat (UInt32.toNat (List.getD at_ (i%at_.length) iX))) (by simp only [Int.ofNat_eq_natCast]; omega) (by simp only [Int.ofNat_eq_natCast]; omega),eF (by omega) (by omega)]
          rfl
    · have : i = nds.length := by omega
      subst this
      rw [aR (by simp),List.drop_length]
      show ls out=ls (out++[])
      rw [List.append_nil]
theorem f0_eq (n:Net) (at_:List UInt32) (h:(okN n&&gQ n)=true):f0 n at_=ls (dj n.nds at_):=by
  simp only [Bool.and_eq_true] at h
  have hn:=bQ (cr h.1)
  exact loop at_ n.nds hn (List.all_eq_true.1 h.2) 100000 0 [] (by omega) (by omega) rfl
theorem ok:CtxOk Tryz.prog X:=aI tab spN dpN
theorem okM:MOk Tryz.prog X:=fun g sp h=>by cases h
theorem spec (n:Net) (ats:List UInt32) (h:((okN n&&gQ n))=true):aj Tryz.prog E 39 [(.agg [(.lst .node n.nds),(.lst .link n.lks)]),(.lst .u32 ats)] (.ful 0) [(0,.rows .int (dj (Net.nds n) ats))] :=
  ae ok okM Tryz.call39 Tryz.func39 (by kernel_rfl) (by kernel_rfl) (by kernel_rfl) (by show 2≤50; decide) (by decide) (by rfl) ((run n ats).trans (f0_eq n ats h))
noncomputable def sp:Sp U El:=fun args k=>match args with
  | [.agg [.lst .node n_nds,.lst .link n_lks],.lst .u32 ats]=>chk ((okN (⟨n_nds,n_lks⟩:Net)&&gQ (⟨n_nds,n_lks⟩:Net))) (k (.ful 0) [(0,.rows .int (dj (Net.nds (⟨n_nds,n_lks⟩:Net)) ats))])
  | _=>none
theorem spOk:SpOk Tryz.prog E 39 sp where
  det:=fun vs=>by
    unfold sp
    split
    · exact aY _ _ _
    · exact ⟨none,fun _=>rfl⟩
  ok:=fun vs k r h=>by
    unfold sp at h
    split at h
    · obtain ⟨h1, h2⟩ := af h
      exact ⟨_,_,spec ⟨_,_⟩ _ h1,h2⟩
    · cases h
end levels
namespace ready
noncomputable def bd:Code:=(Tryz.f29.body).getD .skip
noncomputable def X:Ctx U El:=⟨E,tds,zeros,eqs,aC [(13,large.sp),(53,rgiven.sp)],100000,15,ap [],fun _=>none⟩
noncomputable def nmR:Norm U:=⟨[],[4],[],[],[],[],[]⟩
noncomputable def RR:ab U El:=fun st=>aE nmR st (aD [4] [])
noncomputable def fr0 (l:List Rule) (n:Net):St U El:=⟨[(0,(.lst .rule l)),(1,(.agg [(.lst .node n.nds),(.lst .link n.lks)]))],[]⟩
noncomputable def sh0 (l:List Rule) (n:Net):R :=
  aa (!(d5 l n)) (chk (okN n) (some ((.bool ((aV l n) == (0:Int))),[]))) (some ((.bool false),[]))
theorem P0 (l n):ac X (cdp [] bd) .d (fr0 l n) RR (fun _ _=>none) RR=sh0 l n:=by kernel_rfl
noncomputable def f0 (l:List Rule) (n:Net):R:=sh0 l n
theorem T0 (l n):ac X bd .d (fr0 l n) RR (fun _ _=>none) RR=f0 l n:=by
  refine (P0 l n).trans ?_
  show _=sh0 l n
  rfl
theorem run (l n):aJ X bd .d nmR [4] [] [(.lst .rule l),(.agg [(.lst .node n.nds),(.lst .link n.lks)])]=f0 l n:=T0 l n
theorem f0_eq (l:List Rule) (n:Net):f0 l n=aH (fT l n):=by
  show sh0 l n=_
  unfold sh0 fT
  cases hl:d5 l n with
  | true=>rfl
  | false=>rw [nq hl]; rfl
theorem ok:CtxOk Tryz.prog X:=aI tab (spC large.spOk (spC rgiven.spOk spN)) dpN
theorem okM:MOk Tryz.prog X:=fun g sp h=>by cases h
theorem spec (l:List Rule) (n:Net):aj Tryz.prog E 29 [(.lst .rule l),(.agg [(.lst .node n.nds),(.lst .link n.lks)])] (.bool (fT l n)) [] :=
  ae ok okM Tryz.call29 Tryz.func29 (by kernel_rfl) (by kernel_rfl) (by kernel_rfl) (by show 2≤15; decide) (by decide) (by rfl) ((run l n).trans (f0_eq l n))
noncomputable def sp:Sp U El:=fun args k=>match args with
  | [.lst .rule l,.agg [.lst .node n_nds,.lst .link n_lks]]=>k (.bool (fT l (⟨n_nds,n_lks⟩:Net))) []
  | _=>none
theorem spOk:SpOk Tryz.prog E 29 sp where
  det:=fun vs=>by
    unfold sp
    split
    · exact ⟨some (_,_),fun _=>rfl⟩
    · exact ⟨none,fun _=>rfl⟩
  ok:=fun vs k r h=>by
    unfold sp at h
    split at h
    · exact ⟨_,_,spec _ ⟨_,_⟩,h⟩
    · cases h
end ready
end Go.Proofs.YthdimnlkcgchoaaGreat

namespace Go.Proofs.YthdimnlkcgchoaaGreat
set_option linter.unusedSectionVars false
set_option linter.unusedSimpArgs false
set_option linter.unusedVariables false
set_option maxRecDepth 100000
theorem kn {α : Type} (p : α → Bool) : ∀ (l : List α) (i : Nat), aN p i l = -1 ∨ ∃ j, ∃ h : j < l.length, aN p i l = ((i + j : Nat) : Int) ∧ p l[j] = true := by
  intro l
  induction l with
  | nil=>intro i; exact .inl rfl
  | cons x l ih =>
    intro i
    simp only [aN]
    cases e:p x with
    | true=>exact .inr ⟨0,by simp,by simp,by simpa using e⟩
    | false =>
      rcases ih (i+1) with h | ⟨j,hj,h1,h2⟩
      · exact .inl h
      · refine .inr ⟨j + 1, by simp; omega, ?_, by simpa using h2⟩
        rw [cond_false,h1]; omega
theorem nz {α : Type} (p : α → Bool) : ∀ (l : List α) (i k : Nat) (h : k < l.length), p l[k] = true → aN p i l ≤ ((i + k : Nat) : Int) := by
  intro l
  induction l with
  | nil=>intro i k h; simp at h
  | cons x l ih =>
    intro i k h hp
    simp only [aN]
    cases e:p x with
    | true=>rw [cond_true]; omega
    | false =>
      cases k with
      | zero=>simp at hp; rw [hp] at e; cases e
      | succ k =>
        have:=ih (i+1) k (by simpa using h) (by simpa using hp)
        rw [cond_false]; omega
theorem s5 {α:Type} {p q:α→Bool}:∀ {l:List α},(∀ x∈l,p x=q x)→List.any l p=List.any l q:=by
  intro l
  induction l with
  | nil=>intro _; rfl
  | cons x l ih=>intro h; rw [List.any_cons,List.any_cons,h x (by simp),ih fun y hy=>h y (by simp [hy])]
theorem rk {ns:List (List UInt8)} {v:List Int} (hl:ns.length=v.length) {c:Cnd} (hc:List.elem c.cn ns=true):bg (List.zip ns v) c=iI ns v c:=by
  unfold bg iI
  rw [(p5 c.cn ns v 0 hl hc).1,← fv]
  simp only [Int.ofNat_zero,Int.sub_zero,show ((0:Nat):Int)=0 from rfl]
  cases ile c.cl (List.getD v (Int.toNat (aN (fun x=>x == c.cn) 0 ns)) 0)<;>cases c.cb<;>rfl
theorem lx {n:Net} {s:List UInt8} (h:gL n s=true):List.elem s (aU n)=true:=by
  obtain ⟨x,hx,hs⟩:=List.any_eq_true.1 h
  have:x.nn=s:=by simpa [bk] using hs
  rw [List.elem_iff]
  exact List.mem_map.2 ⟨x,hx,this⟩
theorem gR {l:List Rule} {n:Net} (hk:ca l n=true):∀ r∈l,∀ c∈r.rw,gL n c.cn=true:=fun r hr c hc=>by
  have:=List.all_eq_true.1 hk r hr
  simp only [d7,Bool.and_eq_true] at this
  exact List.all_eq_true.1 this.2 c hc
theorem oC {n:Net} (h:cz n=true):s4 (aU n)=true:=by
  simp only [cz,Bool.and_eq_true] at h
  refine allI_iff.2 fun j s hs => ?_
  rw [Nat.zero_add,Bool.not_eq_true']
  cases he:List.elem s ((aU n).take j) with
  | false=>rfl
  | true =>
    rw [List.elem_iff] at he
    obtain ⟨k,hk,ek⟩:=List.getElem_of_mem he
    simp only [List.length_take] at hk
    simp only [aU,List.getElem?_map,Option.map_eq_some_iff] at hs
    obtain ⟨x,hx,rfl⟩:=hs
    have h1:=allI_iff.1 h.2.2.1 j x hx
    simp only [ec,Bool.not_eq_true',Bool.or_eq_false_iff,Nat.zero_add] at h1
    have h2:bS n x.nn=(j:Int):=by simpa using h1.2
    have hkl : k < n.nds.length := by have : (aU n).length = n.nds.length := by simp [aU]
                                      omega
    have h3:bk x.nn n.nds[k]=true:=by
      simp only [List.getElem_take,aU,List.getElem_map] at ek
      simp [bk,ek]
    have h4:=nz (bk x.nn) n.nds 0 k hkl h3
    unfold bS at h2
    omega
theorem s6 (y : Int) : ∀ (m : List Int), (∃ z ∈ m, z ≤ y) → ∃ u ∈ m, u ≤ y ∧ ∀ z ∈ m, z ≤ y → z ≤ u := by
  intro m
  induction m with
  | nil=>rintro ⟨z,hz,_⟩; cases hz
  | cons a m ih =>
    intro h
    by_cases hm:∃ z∈m,z≤y
    · obtain ⟨u, hu, h1, h2⟩ := ih hm
      by_cases ha:a≤y∧u≤a
      · exact ⟨a,by simp,ha.1,fun z hz hzy=>by
          rcases List.mem_cons.1 hz with rfl | hz
          · omega
          · have:=h2 z hz hzy; omega⟩
      · refine ⟨u, by simp [hu], h1, fun z hz hzy => ?_⟩
        rcases List.mem_cons.1 hz with rfl | hz
        · omega
        · exact h2 z hz hzy
    · obtain ⟨z, hz, hzy⟩ := h
      have hza:z=a:=by
        rcases List.mem_cons.1 hz with h | h
        · exact h
        · exact absurd ⟨z,h,hzy⟩ hm
      subst hza
      refine ⟨z,by simp,hzy,fun z' hz' h' => ?_⟩
      rcases List.mem_cons.1 hz' with rfl | h
      · omega
      · exact absurd ⟨z',h,h'⟩ hm
open Classical in
noncomputable def ko (m:List Int) (y:Int):Int:=if h:∃ u∈m,u≤y∧∀ z∈m,z≤y→z≤u then Classical.choose h else 0
theorem p6 {m:List Int} {y:Int} (h:∃ z∈m,z≤y):ko m y∈m∧ko m y≤y∧∀ z∈m,z≤y→z≤ko m y:=by
  have h':=s6 y m h
  unfold ko
  rw [dif_pos h']
  exact Classical.choose_spec h'
def rm (nds:List Node) (v:List Int):Prop:=v.length=nds.length∧∀ (i:Nat) (h:i < nds.length) (h':i < v.length),(aM nds[i]).slo≤v[i]∧v[i]≤(aM nds[i]).shi
theorem ly {l:List Rule} {n:Net} {s:List UInt8} {v:List Int} (hv:rm n.nds v) (i:Nat) (h:i < n.nds.length) (h':i < v.length):ko (ee n.nds[i] s l) v[i]∈ee n.nds[i] s l∧ko (ee n.nds[i] s l) v[i]≤v[i]∧∀ z∈ee n.nds[i] s l,z≤v[i]→z≤ko (ee n.nds[i] s l) v[i] :=
  p6 ⟨(aM n.nds[i]).slo,((eG _ s l).2 _).2 (.inr rfl),(hv.2 i h h').1⟩
theorem lz {n:Net} (h:cz n=true):gQ n=true:=List.all_eq_true.2 fun x hx=>by
  have hb:=ra h x hx
  simp only [fe,Bool.and_eq_true] at hb
  obtain ⟨_,_,_,h4,h5,h6⟩:=hb
  simp only [iJ,Bool.and_eq_true]
  refine ⟨h4,h5,?_⟩
  cases h3:x.nk == 3 with
  | true=>rw [h3,cond_true] at h6; exact (Bool.and_eq_true_iff.1 h6).1
  | false =>
    rw [h3,cond_false] at h6
    cases h7:(x.nk == 1||x.nk == 2) with
    | false=>rw [h7] at h6; cases h6
    | true =>
      rw [h7,cond_true] at h6
      have:=(Bool.and_eq_true_iff.1 h6).1
      rw [Bool.not_eq_true'] at this
      have:=sP this
      exact b7 (by omega)
theorem oD (at_:List UInt32) (i:Nat) {x:Node} (h:iJ x=true):(aM x).slo≤lr at_ i x∧lr at_ i x≤(aM x).shi:=by
  simp only [iJ,inR,Bool.and_eq_true] at h
  have o5:=gJ h.2.2
  unfold aM lr
  cases h3:x.nk == 3 with
  | true =>
    have:(x.nk != 3)=false:=by simpa [bne] using h3
    rw [this]
    exact ⟨Int.le_refl _,Int.le_refl _⟩
  | false =>
    have:(x.nk != 3)=true:=by simpa [bne] using h3
    rw [this]
    cases ilt 0 (Int.ofNat at_.length) with
    | false=>exact ⟨Int.le_refl _,o5⟩
    | true =>
      have e6:=Int.tmod_nonneg (a:=Int.ofNat (UInt32.toNat (List.getD at_ (i%at_.length) iX))) (x.ng - x.ni+1) (by simp)
      have e7:=Int.tmod_lt_of_pos (Int.ofNat (UInt32.toNat (List.getD at_ (i%at_.length) iX))) (show 0 < x.ng - x.ni+1 by omega)
      simp only [Bool.and_true,cond_true,cond_false]
      omega
theorem p7 (at_:List UInt32):∀ (l:List Node) (i:Nat),(fS at_ i l).length=l.length:=by
  intro l
  induction l with
  | nil=>intro i; rfl
  | cons x l ih=>intro i; simp [fS,ih]
theorem p8 (at_:List UInt32):∀ (l:List Node) (i j:Nat) (h:j < l.length) (h':j < (fS at_ i l).length),(fS at_ i l)[j]=lr at_ (i+j) l[j]:=by
  intro l
  induction l with
  | nil=>intro i j h; simp at h
  | cons x l ih =>
    intro i j h h'
    cases j with
    | zero=>rfl
    | succ j =>
      have:=ih (i+1) j (by simpa using h) (by simpa [fS] using h')
      simp only [fS,List.getElem_cons_succ]
      rw [this,show i+1+j=i+(j+1) by omega]
theorem p9 {n:Net} (h:gQ n=true) (at_:List UInt32):rm n.nds (dj n.nds at_) :=
  ⟨p7 at_ n.nds 0,fun i hi hi'=>by
    have:=p8 at_ n.nds 0 i hi hi'
    unfold dj
    rw [this]
    exact oD at_ _ (List.all_eq_true.1 h _ (List.getElem_mem hi))⟩
theorem ro {l:List Rule} {n:Net} (h:fT l n=true):d5 l n=false∧okN n=true∧aV l n=0:=by
  simp only [fT,Bool.and_eq_true,Bool.not_eq_true'] at h
  exact ⟨h.1,nq h.1,by simpa using h.2⟩
theorem mg {l:List Rule} {n:Net} (h:d5 l n=false):dL l=true:=by
  simp only [d5,Bool.or_eq_false_iff] at h
  obtain ⟨_,_,_,h4,_,_,h5⟩:=h
  have a:=iw h4
  simp only [dL,Bool.and_eq_true]
  refine ⟨bE (by simp at a; omega),List.all_eq_true.2 fun x hx => ?_⟩
  have:=List.any_eq_false.1 h5 x hx
  simp only [dV,Bool.or_eq_true,not_or] at this
  have:=this.1
  exact bE (by simp [ilt] at this; omega)
end Go.Proofs.YthdimnlkcgchoaaGreat
