/- The law SchedulePlans: its own run comes to true. -/
import Derived.Test.YthdklallcljhlaaVZ
import Derived.Test.YthdklallcljhlaaVX
namespace Go.Proofs.Ythdklallcljhlaa
set_option linter.unusedSectionVars false
set_option linter.unusedSimpArgs false
set_option linter.unusedVariables false
set_option maxRecDepth 100000
noncomputable def ordG (p:List Slot):Nat→Nat→List Slot→List Slot
  | 0,_,out=>out
  | n+1,k,out=>ordG p n (k+1) (List.set out (Int.toNat (List.getD p k d_slot).sw) (List.getD p k d_slot))
noncomputable def ordL (p:List Slot):List Slot:=ordG p p.length 0 (List.replicate p.length d_slot)
namespace rordered
noncomputable def bd:Code:=(Try.f60.body).getD .skip
noncomputable def X:Ctx U El:=⟨E,tds,zeros,eqs,specOf [],100000,26,dspecOf [],fun _=>none⟩
noncomputable def nmR:Norm U:=⟨[(2,.slot)],[2],[2],[],[],[],[]⟩
noncomputable def RR:Kont U El:=fun st=>normK nmR st (retFin [2] [2])
noncomputable def nm1:Norm U:=⟨[(3,.slot)],[3],[3],[],[],[],[]⟩
noncomputable def nm2:Norm U:=⟨[(3,.slot)],[0,3,4],[3],[],[],[],[]⟩
abbrev Y1:=(List Slot)→R
abbrev Y2:=(List Slot)→(List Slot)→Int→R
noncomputable def fr0 (p:List Slot):St U El:=⟨[(0,(.lst .slot p))],[]⟩
noncomputable def fr1 (cA:List Slot):St U El:=⟨[(3,(.ful 3))],[(3,(.rows .slot cA))]⟩
noncomputable def fr2 (p0:List Slot) (cA:List Slot) (i4:Int):St U El:=⟨[(0,(.lst .slot p0)),(3,(.ful 3)),(4,(.int .i64 i4))],[(3,(.rows .slot cA))]⟩
noncomputable def sh0 (p:List Slot) (k2:Y2):R :=
  chk (ile 0 (Int.ofNat (List.length p))&&ile (Int.ofNat (List.length p)) (Int.ofNat (List.length p))&&ile ((Int.ofNat (List.length p)) * 24) 140737488355328) (k2 p (List.replicate (Int.toNat (Int.ofNat (List.length p))) d_slot) (0:Int))
noncomputable def sh1 (cA:List Slot):R :=
  some ((.ful 0),[(0,.rows .slot cA)])
noncomputable def sh2 (p0:List Slot) (cA:List Slot) (i4:Int) (k1:Y1) (k2:Y2):R :=
  condB (ilt i4 (Int.ofNat (List.length p0))) (chk (inb i4 (List.length p0)) (chk (inb i4 (List.length p0)) (chk (inb ((List.getD p0 (Int.toNat i4) d_slot).sw) (List.length cA)) (chk (nlt (Int.toNat ((List.getD p0 (Int.toNat i4) d_slot).sw)) (List.length cA)&&true) (k2 p0 (List.set cA (Int.toNat ((List.getD p0 (Int.toNat i4) d_slot).sw)) (List.getD p0 (Int.toNat i4) d_slot)) (IntKind.wrap .i64 (i4+(1:Int)))))))) (k1 cA)
noncomputable def it2 (Kb1:Kont U El) (n:Nat):Kont U El:=iter nm2 (fun st' K'=>exec X (cdp [1,1,0,1,0,0] bd) (.seq none .d (.seq none (.block (.region [(11,3)])) .d)) st' K' (Eblk 0 (cutK nm1 Kb1) (fun _ _=>none)) RR) n
noncomputable def ct1:Kont U El:=fun st=>exec X (cdp [1,1,1] bd) .d st RR (fun _ _=>none) RR
theorem P0 (p):exec X (cdp [] bd) (.seq none .d (.seq none .d (.seq (some nm1) (.seq none .d (.block (.loop nm2 (.seq none .d (.seq none (.block (.region [(11,3)])) .d))))) .d))) (fr0 p) RR (fun _ _=>none) RR=sh0 p (fun y0 y1 y2=>(hid (it2 (hid ct1) 100000)) (fr2 y0 y1 y2)):=by kernel_rfl
theorem P1 (cA):ct1 (fr1 cA)=sh1 cA:=by kernel_rfl
theorem P2 (p0 cA i4) (Kb1 Kb2:Kont U El):exec X (cdp [1,1,0,1,0,0] bd) (.seq none .d (.seq none (.block (.region [(11,3)])) .d)) (fr2 p0 cA i4) (cutK nm2 Kb2) (Eblk 0 (cutK nm1 Kb1) (fun _ _=>none)) RR=sh2 p0 cA i4 (fun y0=>Kb1 (fr1 y0)) (fun y0 y1 y2=>Kb2 (fr2 y0 y1 y2)):=by kernel_rfl
noncomputable def f1 (cA:List Slot):R:=sh1 cA
noncomputable def f2:Nat→Y2
  | 0=>fun _ _ _=>none
  | n+1=>fun p0 cA i4=>sh2 p0 cA i4 f1 (f2 n)
noncomputable def f0 (p:List Slot):R:=sh0 p (f2 100000)
theorem T1 (cA):(hid ct1) (fr1 cA)=f1 cA:=by
  refine (congrFun (hid_eq _) _).trans <| (P1 cA).trans ?_
  show _=sh1 cA
  rfl
theorem T2:∀ (n:Nat),∀ p0 cA i4,it2 (hid ct1) n (fr2 p0 cA i4)=f2 n p0 cA i4:=by
  intro n
  induction n with
  | zero=>intros; rfl
  | succ n ih =>
    intro p0 cA i4
    refine (P2 p0 cA i4 (hid ct1) (it2 (hid ct1) n)).trans ?_
    show _=sh2 p0 cA i4 f1 (f2 n)
    simp only [T1,ih]
theorem H2 (p0 cA i4):hid (it2 (hid ct1) 100000) (fr2 p0 cA i4)=f2 100000 p0 cA i4:=(congrFun (hid_eq _) _).trans (T2 100000 p0 cA i4)
theorem T0 (p):exec X bd (.seq none .d (.seq none .d (.seq (some nm1) (.seq none .d (.block (.loop nm2 (.seq none .d (.seq none (.block (.region [(11,3)])) .d))))) .d))) (fr0 p) RR (fun _ _=>none) RR=f0 p:=by
  refine (P0 p).trans ?_
  show _=sh0 p (f2 100000)
  simp only [H2]
theorem run (p):runFn X bd (.seq none .d (.seq none .d (.seq (some nm1) (.seq none .d (.block (.loop nm2 (.seq none .d (.seq none (.block (.region [(11,3)])) .d))))) .d))) nmR [2] [2] [(.lst .slot p)]=f0 p:=T0 p
theorem loop (p:List Slot) (hl:p.length≤90000) (hs:∀ s∈p,inb s.sw p.length=true):∀ (n k:Nat) (out:List Slot),p.length < n+k→k≤p.length→out.length=p.length→f2 n p out (k:Int)=some ((.ful 0),[(0,.rows .slot (ordG p (p.length - k) k out))]):=by
  intro n
  induction n with
  | zero=>intro k out h1 h2; omega
  | succ n ih =>
    intro k out h1 h2 h3
    show sh2 p out (k:Int) f1 (f2 n)=_
    unfold sh2
    by_cases hk:k < p.length
    · have hsw : inb (List.getD p k d_slot).sw p.length = true := by rw [getD_lt hk]; exact hs _ (List.getElem_mem hk)
      have hsw2:=hsw
      simp only [inb,Bool.and_eq_true] at hsw2
      have q1:=ileI hsw2.1
      have q2:=iltI hsw2.2
      rw [iltT (by simp; omega),inbT hk,toNat_nat,h3,hsw,nltT (show Int.toNat (List.getD p k d_slot).sw < p.length by omega),wrapS k (by omega),show p.length - k=(p.length - (k+1))+1 by omega]
      exact ih (k+1) _ (by omega) hk (by rw [List.length_set]; exact h3)
    · have : k = p.length := by omega
      subst this
      rw [iltF (by simp),Nat.sub_self,condF]
      rfl
theorem f0_eq (p:List Slot) (h:(nle (List.length p) 90000&&List.all p (fun s=>inb (Slot.sw s) (List.length p)))=true):f0 p=some ((.ful 0),[(0,.rows .slot (ordL p))]):=by
  rw [Bool.and_eq_true] at h
  have hl:=nleI h.1
  show sh0 p (f2 100000)=_
  unfold sh0
  rw [ileT (show (0:Int)≤Int.ofNat p.length by simp),ileT (Int.le_refl (Int.ofNat p.length)),ileT (show Int.ofNat p.length * 24≤140737488355328 by simp; omega)]
  exact loop p hl (List.all_eq_true.1 h.2) 100000 0 _ (by omega) (by omega) (by simp)
theorem ok:CtxOk Try.prog X:=ctxOk tab spN dpN
theorem okM:MOk Try.prog X:=fun g sp h=>by cases h
theorem spec (p:List Slot) (h:((nle (List.length p) 90000&&List.all p (fun s=>inb (Slot.sw s) (List.length p))))=true):CallSpec Try.prog E 60 [(.lst .slot p)] (.ful 0) [(0,.rows .slot (ordL p))] :=
  runFn_sound ok okM Try.call60 Try.func60 (by kernel_rfl) (by kernel_rfl) (by kernel_rfl) (by show 1≤26; decide) (by decide) (by rfl) ((run p).trans (f0_eq p h))
noncomputable def sp:Sp U El:=fun args k=>match args with
  | [.lst .slot p]=>chk ((nle (List.length p) 90000&&List.all p (fun s=>inb (Slot.sw s) (List.length p)))) (k (.ful 0) [(0,.rows .slot (ordL p))])
  | _=>none
theorem spOk:SpOk Try.prog E 60 sp where
  det:=fun vs=>by
    unfold sp
    split
    · exact det_c _ _ _
    · exact ⟨none,fun _=>rfl⟩
  ok:=fun vs k r h=>by
    unfold sp at h
    split at h
    · obtain ⟨h1, h2⟩ := chk_some h
      exact ⟨_,_,spec _ h1,h2⟩
    · cases h
end rordered
theorem ord_get {sl p : List Slot} : ∀ (n k : Nat) (out : List Slot), k + n = p.length → (∀ j, k ≤ j → j < p.length → Int.toNat (List.getD p j d_slot).sw < out.length ∧ List.getD p j d_slot = List.getD sl (Int.toNat (List.getD p j d_slot).sw) d_slot) → (ordG p n k out).length = out.length ∧ ∀ i, i < out.length → (List.getD out i d_slot = List.getD sl i d_slot ∨ ∃ j, k ≤ j ∧ j < p.length ∧ Int.toNat (List.getD p j d_slot).sw = i) → List.getD (ordG p n k out) i d_slot = List.getD sl i d_slot := by
  intro n
  induction n with
  | zero =>
    intro k out hk _
    refine ⟨rfl,fun i hi h => ?_⟩
    rcases h with h | ⟨j,h1,h2,_⟩
    · exact h
    · omega
  | succ n ih =>
    intro k out hk hp
    simp only [ordG]
    obtain ⟨g1,g2⟩:=hp k (Nat.le_refl _) (by omega)
    obtain ⟨a1,a2⟩:=ih (k+1) (List.set out (Int.toNat (List.getD p k d_slot).sw) (List.getD p k d_slot)) (by omega) (fun j h1 h2=>by rw [List.length_set]; exact hp j (by omega) h2)
    rw [List.length_set] at a1 a2
    refine ⟨a1,fun i hi h=>a2 i hi ?_⟩
    rw [getD_setS _ _ _ _ g1]
    by_cases e:Int.toNat (List.getD p k d_slot).sw=i
    · rw [if_pos e]
      exact .inl (by rw [← e]; exact g2)
    · rw [if_neg e]
      rcases h with h | ⟨j,h1,h2,h3⟩
      · exact .inl h
      · refine .inr ⟨j, ?_, h2, h3⟩
        by_cases ej:j=k
        · subst ej; exact absurd h3 e
        · omega
theorem rdyB_eq {l:List Work} {dn:List Bool} {k:Nat} (hk:k < l.length):rdyB l dn (k:Int)=(!(List.getD dn k d_bool)&&rdy dn l[k]):=by
  unfold rdyB rdy
  rw [toNat_nat,getD_lt hk]
  congr 1
  rw [Bool.eq_iff_iff]
  simp [undone]
theorem ready_step {l:List Work} {dn:List Bool} {k:Nat} (hk:k < l.length):readyZ l dn (k:Int)=bif rdyB l dn (k:Int) then (k:Int) else readyZ l dn ((k+1:Nat):Int):=by
  unfold readyZ
  rw [toNat_nat,toNat_nat,rdyB_eq hk,drop_lt hk]
  rfl
theorem ready_end (l:List Work) (dn:List Bool):readyZ l dn (l.length:Int) = -1:=by
  unfold readyZ
  rw [toNat_nat,List.drop_length]
  rfl
theorem next_skip {l:List Work} {dn:List Bool} {nx:Int} {n:Nat}:∀ (m k:Nat),(∀ j,k≤j→j < k+m→rdyB l dn (j:Int)=false)→nextG l dn (n+m) k nx=nextG l dn n (k+m) nx:=by
  intro m
  induction m with
  | zero=>intro k _; rfl
  | succ m ih =>
    intro k h
    show nextG l dn ((n+m)+1) k nx=_
    simp only [nextG]
    rw [h k (Nat.le_refl _) (by omega),cond_false,ih (k+1) fun j h1 h2=>h j (by omega) (by omega),show k+1+m=k+(m+1) by omega]
theorem cmp_lt (a b:Int):ilt (cmpZ a b) 0=ilt a b:=by
  unfold cmpZ
  cases ilt a b with
  | true=>rfl
  | false=>cases ilt b a<;>rfl
theorem PR_step {l:List Work} {sl:List Slot} {dn:List Bool} {pl:List Slot} {q:Nat} {v:Slot} (hq:q < l.length) (hsl:sl.length=l.length) (hdl:dn.length=l.length) (hd:List.getD dn q d_bool=false) (hR:PR l sl dn pl):PR l (sl.set q v) (dn.set q true) (pl++[v]):=by
  have hqs:q < sl.length:=by omega
  have hqd:q < dn.length:=by omega
  refine ⟨fun s hs => ?_,fun k hk hdk => ?_⟩
  · rcases List.mem_append.1 hs with hs | hs
    · obtain ⟨k, h1, h2, h3⟩ := hR.fro s hs
      have hne:q≠k:=fun e=>by rw [← e,hd] at h2; cases h2
      exact ⟨k,h1,by rw [getD_setB _ _ _ hqd,if_neg hne]; exact h2,by rw [getD_setS _ _ _ _ hqs,if_neg hne]; exact h3⟩
    · refine ⟨q, hq, by rw [getD_setB _ _ _ hqd, if_pos rfl], ?_⟩
      rw [getD_setS _ _ _ _ hqs,if_pos rfl]
      exact List.mem_singleton.1 hs
  · by_cases e : q = k
    · subst e
      rw [getD_setS _ _ _ _ hqs,if_pos rfl]
      exact List.mem_append_right _ (List.mem_singleton.2 rfl)
    · rw [getD_setB _ _ _ hqd, if_neg e] at hdk
      rw [getD_setS _ _ _ _ hqs,if_neg e]
      exact List.mem_append_left _ (hR.to k hk hdk)
namespace rgreedy
noncomputable def bd:Code:=(Try.f25.body).getD .skip
noncomputable def X:Ctx U El:=⟨E,tds,zeros,eqs,specOf [(41,rready.sp),(59,rplace.sp),(60,rordered.sp)],100000,95,dspecOf [],fun _=>none⟩
noncomputable def nmR:Norm U:=⟨[],[2],[],[(2,.slot)],[],[],[]⟩
noncomputable def RR:Kont U El:=fun st=>normK nmR st (retFin [2] [])
noncomputable def nm1:Norm U:=⟨[(4,.slot)],[4],[4],[],[],[],[]⟩
noncomputable def nm2:Norm U:=⟨[(3,.bool),(4,.slot)],[0,3,4,5],[3,4],[],[],[],[]⟩
noncomputable def nm3:Norm U:=⟨[(3,.bool),(4,.slot)],[0,3,4,5],[3,4],[],[],[],[]⟩
noncomputable def nm4:Norm U:=⟨[(3,.bool),(4,.slot)],[0,3,4,5,6],[3,4],[],[],[],[]⟩
noncomputable def nm5:Norm U:=⟨[(3,.bool),(4,.slot)],[0,3,4,5,6,7],[3,4],[],[],[],[]⟩
noncomputable def nm6:Norm U:=⟨[(3,.bool),(4,.slot)],[0,3,4,5,6,7],[3,4],[],[],[],[]⟩
noncomputable def nm7:Norm U:=⟨[(3,.bool),(4,.slot)],[0,3,4,5,6,8],[3,4,8],[],[],[],[]⟩
noncomputable def nm8:Norm U:=⟨[(3,.bool),(4,.slot)],[0,3,4,5,6,8,9],[3,4,8],[],[],[],[]⟩
noncomputable def nm9:Norm U:=⟨[(3,.bool),(4,.slot)],[0,3,4,5,6,8,9],[3,4,8],[],[],[],[]⟩
abbrev Y1:=(List Slot)→R
abbrev Y2:=(List Work)→(List Bool)→(List Slot)→Int→R
abbrev Y3:=(List Work)→(List Bool)→(List Slot)→Int→R
abbrev Y4:=(List Work)→(List Bool)→(List Slot)→Int→Int→R
abbrev Y5:=(List Work)→(List Bool)→(List Slot)→Int→Int→Int→R
abbrev Y6:=(List Work)→(List Bool)→(List Slot)→Int→Int→Int→R
abbrev Y7:=(List Work)→(List Bool)→(List Slot)→Int→Int→Slot→R
abbrev Y8:=(List Work)→(List Bool)→(List Slot)→Int→Int→Int→Slot→R
abbrev Y9:=(List Work)→(List Bool)→(List Slot)→Int→Int→Int→Slot→R
noncomputable def fr0 (l:List Work):St U El:=⟨[(0,(.lst .work l))],[]⟩
noncomputable def fr1 (aA:List Slot):St U El:=⟨[(4,(.ful 4))],[(4,(.rows .slot aA))]⟩
noncomputable def fr2 (l0:List Work) (bA:List Bool) (aA:List Slot) (n5:Int):St U El:=⟨[(0,(.lst .work l0)),(3,(.ful 3)),(4,(.ful 4)),(5,(.int .i64 n5))],[(3,(.rows .bool bA)),(4,(.rows .slot aA))]⟩
noncomputable def fr3 (l0:List Work) (bA:List Bool) (aA:List Slot) (n5:Int):St U El:=⟨[(0,(.lst .work l0)),(3,(.ful 3)),(4,(.ful 4)),(5,(.int .i64 n5))],[(3,(.rows .bool bA)),(4,(.rows .slot aA))]⟩
noncomputable def fr4 (l0:List Work) (bA:List Bool) (aA:List Slot) (n5:Int) (w6:Int):St U El:=⟨[(0,(.lst .work l0)),(3,(.ful 3)),(4,(.ful 4)),(5,(.int .i64 n5)),(6,(.int .i64 w6))],[(3,(.rows .bool bA)),(4,(.rows .slot aA))]⟩
noncomputable def fr5 (l0:List Work) (bA:List Bool) (aA:List Slot) (n5:Int) (w6:Int) (i7:Int):St U El:=⟨[(0,(.lst .work l0)),(3,(.ful 3)),(4,(.ful 4)),(5,(.int .i64 n5)),(6,(.int .i64 w6)),(7,(.int .i64 i7))],[(3,(.rows .bool bA)),(4,(.rows .slot aA))]⟩
noncomputable def fr6 (l0:List Work) (bA:List Bool) (aA:List Slot) (n5:Int) (w6:Int) (i7:Int):St U El:=⟨[(0,(.lst .work l0)),(3,(.ful 3)),(4,(.ful 4)),(5,(.int .i64 n5)),(6,(.int .i64 w6)),(7,(.int .i64 i7))],[(3,(.rows .bool bA)),(4,(.rows .slot aA))]⟩
noncomputable def fr7 (l0:List Work) (bA:List Bool) (aA:List Slot) (n5:Int) (w6:Int) (b8:Slot):St U El:=⟨[(0,(.lst .work l0)),(3,(.ful 3)),(4,(.ful 4)),(5,(.int .i64 n5)),(6,(.int .i64 w6)),(8,(.ptr 8 0))],[(3,(.rows .bool bA)),(4,(.rows .slot aA)),(8,(.box 0 [(.int .i64 b8.sw),(.int .i64 b8.sc),(.int .i64 b8.ss)]))]⟩
noncomputable def fr8 (l0:List Work) (bA:List Bool) (aA:List Slot) (n5:Int) (w6:Int) (dA:Int) (b8:Slot):St U El:=⟨[(0,(.lst .work l0)),(3,(.ful 3)),(4,(.ful 4)),(5,(.int .i64 n5)),(6,(.int .i64 w6)),(8,(.ptr 8 0)),(9,(.int .i64 dA))],[(3,(.rows .bool bA)),(4,(.rows .slot aA)),(8,(.box 0 [(.int .i64 b8.sw),(.int .i64 b8.sc),(.int .i64 b8.ss)]))]⟩
noncomputable def fr9 (l0:List Work) (bA:List Bool) (aA:List Slot) (n5:Int) (w6:Int) (dA:Int) (b8:Slot):St U El:=⟨[(0,(.lst .work l0)),(3,(.ful 3)),(4,(.ful 4)),(5,(.int .i64 n5)),(6,(.int .i64 w6)),(8,(.ptr 8 0)),(9,(.int .i64 dA))],[(3,(.rows .bool bA)),(4,(.rows .slot aA)),(8,(.box 0 [(.int .i64 b8.sw),(.int .i64 b8.sc),(.int .i64 b8.ss)]))]⟩
noncomputable def sh0 (l:List Work) (k2:Y2):R :=
  chk (ile 0 (Int.ofNat (List.length l))&&ile (Int.ofNat (List.length l)) (Int.ofNat (List.length l))&&ile ((Int.ofNat (List.length l)) * 1) 140737488355328) (k2 l (List.replicate (Int.toNat (Int.ofNat (List.length l))) d_bool) ([]:List Slot) (0:Int))
noncomputable def sh1 (aA:List Slot):R :=
  chk ((nle (List.length aA) 90000&&List.all aA (fun s=>inb (Slot.sw s) (List.length aA)))) (some ((.lst .slot (ordL aA)),[]))
noncomputable def sh2 (l0:List Work) (bA:List Bool) (aA:List Slot) (n5:Int) (k1:Y1) (k5:Y5):R :=
  condB (ilt n5 (Int.ofNat (List.length l0))) (chk ((okO l0&&(Nat.beq (List.length bA) (List.length l0)&&ile 0 (0:Int)))) (chk ((okO l0&&(Nat.beq (List.length bA) (List.length l0)&&ile 0 (IntKind.wrap .i64 ((readyZ l0 bA (0:Int))+(1:Int)))))) (k5 l0 bA aA n5 (readyZ l0 bA (0:Int)) (readyZ l0 bA (IntKind.wrap .i64 ((readyZ l0 bA (0:Int))+(1:Int))))))) (k1 aA)
noncomputable def sh3 (l0:List Work) (bA:List Bool) (aA:List Slot) (n5:Int) (k2:Y2):R :=
  k2 l0 bA aA (IntKind.wrap .i64 (n5+(1:Int)))
noncomputable def sh4 (l0:List Work) (bA:List Bool) (aA:List Slot) (n5:Int) (w6:Int) (k8:Y8):R :=
  chk (inb w6 (List.length l0)) (chk (inb (0:Int) (List.length ((List.getD l0 (Int.toNat w6) d_work).wc))) (chk (okP l0 aA w6) (k8 l0 bA aA n5 w6 (1:Int) (plcS l0 aA w6 (List.getD ((List.getD l0 (Int.toNat w6) d_work).wc) 0 d_int)))))
noncomputable def sh5 (l0:List Work) (bA:List Bool) (aA:List Slot) (n5:Int) (w6:Int) (i7:Int) (k4:Y4) (k6:Y6):R :=
  condB (ile (0:Int) i7) (chk (inb i7 (List.length l0)) (chk (inb w6 (List.length l0)) (condB (ilt ((List.getD l0 (Int.toNat i7) d_work).wd) ((List.getD l0 (Int.toNat w6) d_work).wd)) (k6 l0 bA aA n5 i7 i7) (k6 l0 bA aA n5 w6 i7)))) (k4 l0 bA aA n5 w6)
noncomputable def sh6 (l0:List Work) (bA:List Bool) (aA:List Slot) (n5:Int) (w6:Int) (i7:Int) (k5:Y5):R :=
  chk ((okO l0&&(Nat.beq (List.length bA) (List.length l0)&&ile 0 (IntKind.wrap .i64 (i7+(1:Int)))))) (k5 l0 bA aA n5 w6 (readyZ l0 bA (IntKind.wrap .i64 (i7+(1:Int)))))
noncomputable def sh7 (l0:List Work) (bA:List Bool) (aA:List Slot) (n5:Int) (w6:Int) (b8:Slot) (k3:Y3):R :=
  chk (nle ((List.length aA+List.length ([b8]:List Slot)) * 24) 140737488355328&&nle (List.length aA+List.length ([b8]:List Slot)) 9223372036854775807) (chk (inb w6 (List.length bA)) (chk (nlt (Int.toNat w6) (List.length bA)&&true) (k3 l0 (List.set bA (Int.toNat w6) true) (aA++([b8]:List Slot)) n5)))
noncomputable def sh8 (l0:List Work) (bA:List Bool) (aA:List Slot) (n5:Int) (w6:Int) (dA:Int) (b8:Slot) (k7:Y7) (k9:Y9):R :=
  chk (inb w6 (List.length l0)) (condB (ilt dA (Int.ofNat (List.length ((List.getD l0 (Int.toNat w6) d_work).wc)))) (chk (inb w6 (List.length l0)) (chk (inb dA (List.length ((List.getD l0 (Int.toNat w6) d_work).wc))) (chk (okP l0 aA w6) (condB (ilt ((plcS l0 aA w6 (List.getD ((List.getD l0 (Int.toNat w6) d_work).wc) (Int.toNat dA) d_int)).ss) b8.ss) (k9 l0 bA aA n5 w6 dA (plcS l0 aA w6 (List.getD ((List.getD l0 (Int.toNat w6) d_work).wc) (Int.toNat dA) d_int))) (k9 l0 bA aA n5 w6 dA b8))))) (k7 l0 bA aA n5 w6 b8))
noncomputable def sh9 (l0:List Work) (bA:List Bool) (aA:List Slot) (n5:Int) (w6:Int) (dA:Int) (b8:Slot) (k8:Y8):R :=
  k8 l0 bA aA n5 w6 (IntKind.wrap .i64 (dA+(1:Int))) b8
noncomputable def it2 (Kb1:Kont U El) (n:Nat):Kont U El:=iter nm2 (fun st' K'=>exec X (cdp [1,1,1,0,1,0,0] bd) (.seq none .d (.seq (some nm3) (.block (.seq none .d (.seq (some nm4) (.seq none .d (.block (.loop nm5 (.seq none .d (.seq (some nm6) .d .d))))) (.seq none .d (.seq (some nm7) (.seq none .d (.block (.loop nm8 (.seq none .d (.seq (some nm9) .d .d))))) .d))))) .d)) st' K' (Eblk 0 (cutK nm1 Kb1) (fun _ _=>none)) RR) n
noncomputable def it5 (Kb1 Kb3 Kb4:Kont U El) (n:Nat):Kont U El:=iter nm5 (fun st' K'=>exec X (cdp [1,1,1,0,1,0,0,1,0,0,1,0,1,0,0] bd) (.seq none .d (.seq (some nm6) .d .d)) st' K' (Eblk 2 (cutK nm4 Kb4) (Eblk 1 (cutK nm3 Kb3) (Eblk 0 (cutK nm1 Kb1) (fun _ _=>none)))) RR) n
noncomputable def it8 (Kb1 Kb3 Kb7:Kont U El) (n:Nat):Kont U El:=iter nm8 (fun st' K'=>exec X (cdp [1,1,1,0,1,0,0,1,0,0,1,1,1,0,1,0,0] bd) (.seq none .d (.seq (some nm9) .d .d)) st' K' (Eblk 4 (cutK nm7 Kb7) (Eblk 1 (cutK nm3 Kb3) (Eblk 0 (cutK nm1 Kb1) (fun _ _=>none)))) RR) n
noncomputable def ct1:Kont U El:=fun st=>exec X (cdp [1,1,1,1] bd) .d st RR (fun _ _=>none) RR
noncomputable def ct3 (Kb1 Kb2:Kont U El):Kont U El:=fun st=>exec X (cdp [1,1,1,0,1,0,0,1,1] bd) .d st (cutK nm2 Kb2) (Eblk 0 (cutK nm1 Kb1) (fun _ _=>none)) RR
noncomputable def ct4 (Kb1 Kb3:Kont U El):Kont U El:=fun st=>exec X (cdp [1,1,1,0,1,0,0,1,0,0,1,1] bd) (.seq none .d (.seq (some nm7) (.seq none .d (.block (.loop nm8 (.seq none .d (.seq (some nm9) .d .d))))) .d)) st (cutK nm3 Kb3) (Eblk 1 (cutK nm3 Kb3) (Eblk 0 (cutK nm1 Kb1) (fun _ _=>none))) RR
noncomputable def ct6 (Kb1 Kb3 Kb4 Kb5:Kont U El):Kont U El:=fun st=>exec X (cdp [1,1,1,0,1,0,0,1,0,0,1,0,1,0,0,1,1] bd) .d st (cutK nm5 Kb5) (Eblk 2 (cutK nm4 Kb4) (Eblk 1 (cutK nm3 Kb3) (Eblk 0 (cutK nm1 Kb1) (fun _ _=>none)))) RR
noncomputable def ct7 (Kb1 Kb3:Kont U El):Kont U El:=fun st=>exec X (cdp [1,1,1,0,1,0,0,1,0,0,1,1,1,1] bd) .d st (cutK nm3 Kb3) (Eblk 1 (cutK nm3 Kb3) (Eblk 0 (cutK nm1 Kb1) (fun _ _=>none))) RR
noncomputable def ct9 (Kb1 Kb3 Kb7 Kb8:Kont U El):Kont U El:=fun st=>exec X (cdp [1,1,1,0,1,0,0,1,0,0,1,1,1,0,1,0,0,1,1] bd) .d st (cutK nm8 Kb8) (Eblk 4 (cutK nm7 Kb7) (Eblk 1 (cutK nm3 Kb3) (Eblk 0 (cutK nm1 Kb1) (fun _ _=>none)))) RR
theorem P0 (l):exec X (cdp [] bd) (.seq none .d (.seq none .d (.seq none .d (.seq (some nm1) (.seq none .d (.block (.loop nm2 (.seq none .d (.seq (some nm3) (.block (.seq none .d (.seq (some nm4) (.seq none .d (.block (.loop nm5 (.seq none .d (.seq (some nm6) .d .d))))) (.seq none .d (.seq (some nm7) (.seq none .d (.block (.loop nm8 (.seq none .d (.seq (some nm9) .d .d))))) .d))))) .d))))) .d)))) (fr0 l) RR (fun _ _=>none) RR=sh0 l (fun y0 y1 y2 y3=>(hid (it2 (hid ct1) 100000)) (fr2 y0 y1 y2 y3)):=by kernel_rfl
theorem P1 (aA):ct1 (fr1 aA)=sh1 aA:=by kernel_rfl
theorem P2 (l0 bA aA n5) (Kb1 Kb2:Kont U El):exec X (cdp [1,1,1,0,1,0,0] bd) (.seq none .d (.seq (some nm3) (.block (.seq none .d (.seq (some nm4) (.seq none .d (.block (.loop nm5 (.seq none .d (.seq (some nm6) .d .d))))) (.seq none .d (.seq (some nm7) (.seq none .d (.block (.loop nm8 (.seq none .d (.seq (some nm9) .d .d))))) .d))))) .d)) (fr2 l0 bA aA n5) (cutK nm2 Kb2) (Eblk 0 (cutK nm1 Kb1) (fun _ _=>none)) RR=sh2 l0 bA aA n5 (fun y0=>Kb1 (fr1 y0)) (fun y0 y1 y2 y3 y4 y5=>(hid (it5 Kb1 (hid (ct3 Kb1 Kb2)) (hid (ct4 Kb1 (hid (ct3 Kb1 Kb2)))) 100000)) (fr5 y0 y1 y2 y3 y4 y5)):=by kernel_rfl
theorem P3 (l0 bA aA n5) (Kb1 Kb2:Kont U El):ct3 Kb1 Kb2 (fr3 l0 bA aA n5)=sh3 l0 bA aA n5 (fun y0 y1 y2 y3=>Kb2 (fr2 y0 y1 y2 y3)):=by kernel_rfl
theorem P4 (l0 bA aA n5 w6) (Kb1 Kb3:Kont U El):ct4 Kb1 Kb3 (fr4 l0 bA aA n5 w6)=sh4 l0 bA aA n5 w6 (fun y0 y1 y2 y3 y4 y5 y6=>(hid (it8 Kb1 Kb3 (hid (ct7 Kb1 Kb3)) 100000)) (fr8 y0 y1 y2 y3 y4 y5 y6)):=by kernel_rfl
theorem P5 (l0 bA aA n5 w6 i7) (Kb1 Kb3 Kb4 Kb5:Kont U El):exec X (cdp [1,1,1,0,1,0,0,1,0,0,1,0,1,0,0] bd) (.seq none .d (.seq (some nm6) .d .d)) (fr5 l0 bA aA n5 w6 i7) (cutK nm5 Kb5) (Eblk 2 (cutK nm4 Kb4) (Eblk 1 (cutK nm3 Kb3) (Eblk 0 (cutK nm1 Kb1) (fun _ _=>none)))) RR=sh5 l0 bA aA n5 w6 i7 (fun y0 y1 y2 y3 y4=>Kb4 (fr4 y0 y1 y2 y3 y4)) (fun y0 y1 y2 y3 y4 y5=>(hid (ct6 Kb1 Kb3 Kb4 Kb5)) (fr6 y0 y1 y2 y3 y4 y5)):=by kernel_rfl
theorem P6 (l0 bA aA n5 w6 i7) (Kb1 Kb3 Kb4 Kb5:Kont U El):ct6 Kb1 Kb3 Kb4 Kb5 (fr6 l0 bA aA n5 w6 i7)=sh6 l0 bA aA n5 w6 i7 (fun y0 y1 y2 y3 y4 y5=>Kb5 (fr5 y0 y1 y2 y3 y4 y5)):=by kernel_rfl
theorem P7 (l0 bA aA n5 w6 b8) (Kb1 Kb3:Kont U El):ct7 Kb1 Kb3 (fr7 l0 bA aA n5 w6 b8)=sh7 l0 bA aA n5 w6 b8 (fun y0 y1 y2 y3=>Kb3 (fr3 y0 y1 y2 y3)):=by kernel_rfl
theorem P8 (l0 bA aA n5 w6 dA b8) (Kb1 Kb3 Kb7 Kb8:Kont U El):exec X (cdp [1,1,1,0,1,0,0,1,0,0,1,1,1,0,1,0,0] bd) (.seq none .d (.seq (some nm9) .d .d)) (fr8 l0 bA aA n5 w6 dA b8) (cutK nm8 Kb8) (Eblk 4 (cutK nm7 Kb7) (Eblk 1 (cutK nm3 Kb3) (Eblk 0 (cutK nm1 Kb1) (fun _ _=>none)))) RR=sh8 l0 bA aA n5 w6 dA b8 (fun y0 y1 y2 y3 y4 y5=>Kb7 (fr7 y0 y1 y2 y3 y4 y5)) (fun y0 y1 y2 y3 y4 y5 y6=>(hid (ct9 Kb1 Kb3 Kb7 Kb8)) (fr9 y0 y1 y2 y3 y4 y5 y6)):=by kernel_rfl
theorem P9 (l0 bA aA n5 w6 dA b8) (Kb1 Kb3 Kb7 Kb8:Kont U El):ct9 Kb1 Kb3 Kb7 Kb8 (fr9 l0 bA aA n5 w6 dA b8)=sh9 l0 bA aA n5 w6 dA b8 (fun y0 y1 y2 y3 y4 y5 y6=>Kb8 (fr8 y0 y1 y2 y3 y4 y5 y6)):=by kernel_rfl
noncomputable def f1 (aA:List Slot):R:=sh1 aA
noncomputable def f3 (k2:Y2) (l0:List Work) (bA:List Bool) (aA:List Slot) (n5:Int):R:=sh3 l0 bA aA n5 k2
noncomputable def f7 (k2:Y2) (l0:List Work) (bA:List Bool) (aA:List Slot) (n5:Int) (w6:Int) (b8:Slot):R:=sh7 l0 bA aA n5 w6 b8 (f3 k2)
noncomputable def f9 (k2:Y2) (k8:Y8) (l0:List Work) (bA:List Bool) (aA:List Slot) (n5:Int) (w6:Int) (dA:Int) (b8:Slot):R:=sh9 l0 bA aA n5 w6 dA b8 k8
noncomputable def f8 (k2:Y2):Nat→Y8
  | 0=>fun _ _ _ _ _ _ _=>none
  | n+1=>fun l0 bA aA n5 w6 dA b8=>sh8 l0 bA aA n5 w6 dA b8 (f7 k2) (f9 k2 (f8 k2 n))
noncomputable def f4 (k2:Y2) (l0:List Work) (bA:List Bool) (aA:List Slot) (n5:Int) (w6:Int):R:=sh4 l0 bA aA n5 w6 (f8 k2 100000)
noncomputable def f6 (k2:Y2) (k5:Y5) (l0:List Work) (bA:List Bool) (aA:List Slot) (n5:Int) (w6:Int) (i7:Int):R:=sh6 l0 bA aA n5 w6 i7 k5
noncomputable def f5 (k2:Y2):Nat→Y5
  | 0=>fun _ _ _ _ _ _=>none
  | n+1=>fun l0 bA aA n5 w6 i7=>sh5 l0 bA aA n5 w6 i7 (f4 k2) (f6 k2 (f5 k2 n))
noncomputable def f2:Nat→Y2
  | 0=>fun _ _ _ _=>none
  | n+1=>fun l0 bA aA n5=>sh2 l0 bA aA n5 f1 (f5 (f2 n) 100000)
noncomputable def f0 (l:List Work):R:=sh0 l (f2 100000)
theorem T1 (aA):(hid ct1) (fr1 aA)=f1 aA:=by
  refine (congrFun (hid_eq _) _).trans <| (P1 aA).trans ?_
  show _=sh1 aA
  rfl
theorem T3 (KL2:Kont U El) (k2:Y2) (h2:∀ l0 bA aA n5,KL2 (fr2 l0 bA aA n5)=k2 l0 bA aA n5) (l0 bA aA n5):(hid (ct3 (hid ct1) KL2)) (fr3 l0 bA aA n5)=f3 k2 l0 bA aA n5:=by
  refine (congrFun (hid_eq _) _).trans <| (P3 l0 bA aA n5 (hid ct1) KL2).trans ?_
  show _=sh3 l0 bA aA n5 k2
  simp only [h2]
theorem T7 (KL2:Kont U El) (k2:Y2) (h2:∀ l0 bA aA n5,KL2 (fr2 l0 bA aA n5)=k2 l0 bA aA n5) (l0 bA aA n5 w6 b8):(hid (ct7 (hid ct1) (hid (ct3 (hid ct1) KL2)))) (fr7 l0 bA aA n5 w6 b8)=f7 k2 l0 bA aA n5 w6 b8:=by
  refine (congrFun (hid_eq _) _).trans <| (P7 l0 bA aA n5 w6 b8 (hid ct1) (hid (ct3 (hid ct1) KL2))).trans ?_
  show _=sh7 l0 bA aA n5 w6 b8 (f3 k2)
  simp only [T3 KL2 k2 h2]
theorem T9 (KL2:Kont U El) (KL8:Kont U El) (k2:Y2) (k8:Y8) (h2:∀ l0 bA aA n5,KL2 (fr2 l0 bA aA n5)=k2 l0 bA aA n5) (h8:∀ l0 bA aA n5 w6 dA b8,KL8 (fr8 l0 bA aA n5 w6 dA b8)=k8 l0 bA aA n5 w6 dA b8) (l0 bA aA n5 w6 dA b8):(hid (ct9 (hid ct1) (hid (ct3 (hid ct1) KL2)) (hid (ct7 (hid ct1) (hid (ct3 (hid ct1) KL2)))) KL8)) (fr9 l0 bA aA n5 w6 dA b8)=f9 k2 k8 l0 bA aA n5 w6 dA b8:=by
  refine (congrFun (hid_eq _) _).trans <| (P9 l0 bA aA n5 w6 dA b8 (hid ct1) (hid (ct3 (hid ct1) KL2)) (hid (ct7 (hid ct1) (hid (ct3 (hid ct1) KL2)))) KL8).trans ?_
  show _=sh9 l0 bA aA n5 w6 dA b8 k8
  simp only [h8]
theorem T8 (KL2:Kont U El) (k2:Y2) (h2:∀ l0 bA aA n5,KL2 (fr2 l0 bA aA n5)=k2 l0 bA aA n5):∀ (n:Nat),∀ l0 bA aA n5 w6 dA b8,it8 (hid ct1) (hid (ct3 (hid ct1) KL2)) (hid (ct7 (hid ct1) (hid (ct3 (hid ct1) KL2)))) n (fr8 l0 bA aA n5 w6 dA b8)=f8 k2 n l0 bA aA n5 w6 dA b8:=by
  intro n
  induction n with
  | zero=>intros; rfl
  | succ n ih =>
    intro l0 bA aA n5 w6 dA b8
    refine (P8 l0 bA aA n5 w6 dA b8 (hid ct1) (hid (ct3 (hid ct1) KL2)) (hid (ct7 (hid ct1) (hid (ct3 (hid ct1) KL2)))) (it8 (hid ct1) (hid (ct3 (hid ct1) KL2)) (hid (ct7 (hid ct1) (hid (ct3 (hid ct1) KL2)))) n)).trans ?_
    show _=sh8 l0 bA aA n5 w6 dA b8 (f7 k2) (f9 k2 (f8 k2 n))
    simp only [T7 KL2 k2 h2,T9 KL2 (it8 (hid ct1) (hid (ct3 (hid ct1) KL2)) (hid (ct7 (hid ct1) (hid (ct3 (hid ct1) KL2)))) n) k2 (f8 k2 n) h2 ih]
theorem H8 (KL2:Kont U El) (k2:Y2) (h2:∀ l0 bA aA n5,KL2 (fr2 l0 bA aA n5)=k2 l0 bA aA n5) (l0 bA aA n5 w6 dA b8):hid (it8 (hid ct1) (hid (ct3 (hid ct1) KL2)) (hid (ct7 (hid ct1) (hid (ct3 (hid ct1) KL2)))) 100000) (fr8 l0 bA aA n5 w6 dA b8)=f8 k2 100000 l0 bA aA n5 w6 dA b8:=(congrFun (hid_eq _) _).trans (T8 KL2 k2 h2 100000 l0 bA aA n5 w6 dA b8)
theorem T4 (KL2:Kont U El) (k2:Y2) (h2:∀ l0 bA aA n5,KL2 (fr2 l0 bA aA n5)=k2 l0 bA aA n5) (l0 bA aA n5 w6):(hid (ct4 (hid ct1) (hid (ct3 (hid ct1) KL2)))) (fr4 l0 bA aA n5 w6)=f4 k2 l0 bA aA n5 w6:=by
  refine (congrFun (hid_eq _) _).trans <| (P4 l0 bA aA n5 w6 (hid ct1) (hid (ct3 (hid ct1) KL2))).trans ?_
  show _=sh4 l0 bA aA n5 w6 (f8 k2 100000)
  simp only [H8 KL2 k2 h2]
theorem T6 (KL2:Kont U El) (KL5:Kont U El) (k2:Y2) (k5:Y5) (h2:∀ l0 bA aA n5,KL2 (fr2 l0 bA aA n5)=k2 l0 bA aA n5) (h5:∀ l0 bA aA n5 w6 i7,KL5 (fr5 l0 bA aA n5 w6 i7)=k5 l0 bA aA n5 w6 i7) (l0 bA aA n5 w6 i7):(hid (ct6 (hid ct1) (hid (ct3 (hid ct1) KL2)) (hid (ct4 (hid ct1) (hid (ct3 (hid ct1) KL2)))) KL5)) (fr6 l0 bA aA n5 w6 i7)=f6 k2 k5 l0 bA aA n5 w6 i7:=by
  refine (congrFun (hid_eq _) _).trans <| (P6 l0 bA aA n5 w6 i7 (hid ct1) (hid (ct3 (hid ct1) KL2)) (hid (ct4 (hid ct1) (hid (ct3 (hid ct1) KL2)))) KL5).trans ?_
  show _=sh6 l0 bA aA n5 w6 i7 k5
  simp only [h5]
theorem T5 (KL2:Kont U El) (k2:Y2) (h2:∀ l0 bA aA n5,KL2 (fr2 l0 bA aA n5)=k2 l0 bA aA n5):∀ (n:Nat),∀ l0 bA aA n5 w6 i7,it5 (hid ct1) (hid (ct3 (hid ct1) KL2)) (hid (ct4 (hid ct1) (hid (ct3 (hid ct1) KL2)))) n (fr5 l0 bA aA n5 w6 i7)=f5 k2 n l0 bA aA n5 w6 i7:=by
  intro n
  induction n with
  | zero=>intros; rfl
  | succ n ih =>
    intro l0 bA aA n5 w6 i7
    refine (P5 l0 bA aA n5 w6 i7 (hid ct1) (hid (ct3 (hid ct1) KL2)) (hid (ct4 (hid ct1) (hid (ct3 (hid ct1) KL2)))) (it5 (hid ct1) (hid (ct3 (hid ct1) KL2)) (hid (ct4 (hid ct1) (hid (ct3 (hid ct1) KL2)))) n)).trans ?_
    show _=sh5 l0 bA aA n5 w6 i7 (f4 k2) (f6 k2 (f5 k2 n))
    simp only [T4 KL2 k2 h2,T6 KL2 (it5 (hid ct1) (hid (ct3 (hid ct1) KL2)) (hid (ct4 (hid ct1) (hid (ct3 (hid ct1) KL2)))) n) k2 (f5 k2 n) h2 ih]
theorem H5 (KL2:Kont U El) (k2:Y2) (h2:∀ l0 bA aA n5,KL2 (fr2 l0 bA aA n5)=k2 l0 bA aA n5) (l0 bA aA n5 w6 i7):hid (it5 (hid ct1) (hid (ct3 (hid ct1) KL2)) (hid (ct4 (hid ct1) (hid (ct3 (hid ct1) KL2)))) 100000) (fr5 l0 bA aA n5 w6 i7)=f5 k2 100000 l0 bA aA n5 w6 i7:=(congrFun (hid_eq _) _).trans (T5 KL2 k2 h2 100000 l0 bA aA n5 w6 i7)
theorem T2:∀ (n:Nat),∀ l0 bA aA n5,it2 (hid ct1) n (fr2 l0 bA aA n5)=f2 n l0 bA aA n5:=by
  intro n
  induction n with
  | zero=>intros; rfl
  | succ n ih =>
    intro l0 bA aA n5
    refine (P2 l0 bA aA n5 (hid ct1) (it2 (hid ct1) n)).trans ?_
    show _=sh2 l0 bA aA n5 f1 (f5 (f2 n) 100000)
    simp only [T1,H5 (it2 (hid ct1) n) (f2 n) ih]
theorem H2 (l0 bA aA n5):hid (it2 (hid ct1) 100000) (fr2 l0 bA aA n5)=f2 100000 l0 bA aA n5:=(congrFun (hid_eq _) _).trans (T2 100000 l0 bA aA n5)
theorem T0 (l):exec X bd (.seq none .d (.seq none .d (.seq none .d (.seq (some nm1) (.seq none .d (.block (.loop nm2 (.seq none .d (.seq (some nm3) (.block (.seq none .d (.seq (some nm4) (.seq none .d (.block (.loop nm5 (.seq none .d (.seq (some nm6) .d .d))))) (.seq none .d (.seq (some nm7) (.seq none .d (.block (.loop nm8 (.seq none .d (.seq (some nm9) .d .d))))) .d))))) .d))))) .d)))) (fr0 l) RR (fun _ _=>none) RR=f0 l:=by
  refine (P0 l).trans ?_
  show _=sh0 l (f2 100000)
  simp only [H2]
theorem run (l):runFn X bd (.seq none .d (.seq none .d (.seq none .d (.seq (some nm1) (.seq none .d (.block (.loop nm2 (.seq none .d (.seq (some nm3) (.block (.seq none .d (.seq (some nm4) (.seq none .d (.block (.loop nm5 (.seq none .d (.seq (some nm6) .d .d))))) (.seq none .d (.seq (some nm7) (.seq none .d (.block (.loop nm8 (.seq none .d (.seq (some nm9) .d .d))))) .d))))) .d))))) .d)))) nmR [2] [] [(.lst .work l)]=f0 l:=T0 l
theorem selLoop (l : List Work) (hO : okO l = true) (hl : l.length ≤ 100) (k2 : Y2) (dn : List Bool) (hdl : dn.length = l.length) (pl : List Slot) (x : Int) : ∀ (m k w fuel : Nat), k + m = l.length → m < fuel → w < l.length → f5 k2 fuel l dn pl x (w : Int) (readyZ l dn (k : Int)) = f4 k2 l dn pl x (nextG l dn m k (w : Int)) := by
  intro m
  induction m with
  | zero =>
    intro k w fuel hk hf hw
    obtain ⟨n,rfl⟩:∃ n,fuel=n+1:=⟨fuel - 1,by omega⟩
    obtain rfl:k=l.length:=by omega
    rw [ready_end]
    show sh5 l dn pl x (w:Int) (-1) (f4 k2) (f6 k2 (f5 k2 n))=_
    unfold sh5
    rw [ileF (show ¬ (0:Int) ≤ -1 by omega),condF]
    rfl
  | succ m ih =>
    intro k w fuel hk hf hw
    have hkl:k < l.length:=by omega
    obtain ⟨n,rfl⟩:∃ n,fuel=n+1:=⟨fuel - 1,by omega⟩
    rw [ready_step hkl]
    simp only [nextG]
    cases hr:rdyB l dn (k:Int) with
    | false =>
      rw [cond_false,cond_false]
      exact ih (k+1) w (n+1) (by omega) (by omega) hw
    | true =>
      rw [cond_true,cond_true,iltF (show ¬ (w:Int) < 0 by omega),cond_false]
      have e6:∀ z:Nat,z < l.length→f6 k2 (f5 k2 n) l dn pl x (z:Int) (k:Int)=f4 k2 l dn pl x (nextG l dn m (k+1) (z:Int)):=fun z hz=>by
        show sh6 l dn pl x (z:Int) (k:Int) (f5 k2 n)=_
        unfold sh6
        rw [wrapS k (by omega),hO,show Nat.beq dn.length l.length=true by rw [hdl]; exact Nat.beq_refl _,ileT (show (0:Int)≤((k+1:Nat):Int) by omega)]
        exact ih (k+1) z n (by omega) (by omega) hz
      show sh5 l dn pl x (w:Int) (k:Int) (f4 k2) (f6 k2 (f5 k2 n))=_
      unfold sh5
      rw [ileT (show (0:Int)≤(k:Int) by omega),inbT hkl,inbT hw,toNat_nat,toNat_nat,e6 k hkl,e6 w hw,condT,chkT,chkT]
      cases ilt (List.getD l k d_work).wd (List.getD l w d_work).wd<;>rfl
theorem crewLoop (l : List Work) (k2 : Y2) (sl : List Slot) (dn : List Bool) (pl : List Slot) (x : Int) (q : Nat) (hq : q < l.length) (hwc : l[q].wc.length ≤ 90000) (hok : okP l pl (q : Int) = true) (hpe : ∀ c ∈ l[q].wc, plcZ l pl (q : Int) c = startZ l sl dn (q : Int) c) : ∀ (n j : Nat) (m : Int), l[q].wc.length < n + j → j ≤ l[q].wc.length → m ∈ l[q].wc →
    f8 k2 n l dn pl x (q:Int) (j:Int) (plcS l pl (q:Int) m)=f7 k2 l dn pl x (q:Int) (plcS l pl (q:Int) (minG l sl dn (q:Int) (l[q].wc.drop j) m)):=by
  intro n
  induction n with
  | zero=>intro j m h1 h2; omega
  | succ n ih =>
    intro j m h1 h2 hm
    show sh8 l dn pl x (q:Int) (j:Int) (plcS l pl (q:Int) m) (f7 k2) (f9 k2 (f8 k2 n))=_
    unfold sh8
    rw [inbT hq,chkT,toNat_nat,getD_lt hq]
    by_cases hj:j < l[q].wc.length
    · have e9 : ∀ b : Slot, f9 k2 (f8 k2 n) l dn pl x (q : Int) (j : Int) b = f8 k2 n l dn pl x (q : Int) ((j + 1 : Nat) : Int) b := fun b => by
        show f8 k2 n l dn pl x (q:Int) (IntKind.wrap .i64 ((j:Int)+1)) b=_
        rw [wrapS j (by omega)]
      have hmj:=List.getElem_mem hj
      have hlt:ilt (plcS l pl (q:Int) l[q].wc[j]).ss (plcS l pl (q:Int) m).ss=ilt (cmpZ (startZ l sl dn (q:Int) l[q].wc[j]) (startZ l sl dn (q:Int) m)) 0:=by
        rw [cmp_lt,← hpe _ hmj,← hpe _ hm]
        rfl
      rw [iltT (by simp; omega),inbT hj,hok,toNat_nat,getD_lt hj,hlt,e9,e9,drop_lt hj,condT,chkT,chkT,chkT]
      simp only [minG]
      cases ilt (cmpZ (startZ l sl dn (q:Int) l[q].wc[j]) (startZ l sl dn (q:Int) m)) 0 with
      | true=>exact ih (j+1) _ (by omega) hj hmj
      | false=>exact ih (j+1) _ (by omega) hj hm
    · have : j = l[q].wc.length := by omega
      subst this
      rw [iltF (by simp),List.drop_length,condF]
      rfl
theorem outer (l : List Work) (hk : VK l) : ∀ (n i : Nat) (sl : List Slot) (dn : List Bool) (pl : List Slot), l.length < n + i → i ≤ l.length → GS l sl dn → GJ l sl dn ((i : Int) * 1000) → PR l sl dn pl → pl.length = i → cntF dn + i = l.length →
    f2 n l dn pl (i:Int)=some ((.lst .slot (greedyS l (l.length - i) sl dn)),[]):=by
  have hV:=valid_of hk.v
  have hO:=good_okO hk.ok hV.good
  have hn12:=hk.n
  intro n
  induction n with
  | zero=>intro i sl dn pl h1 h2; omega
  | succ n ih =>
    intro i sl dn pl h1 h2 hg hJ hR hpl hc
    show sh2 l dn pl (i:Int) f1 (f5 (f2 n) 100000)=_
    unfold sh2
    have hdl:=hg.good.1
    by_cases hi:i < l.length
    · obtain ⟨w, hw, e1, e2, e3, e4⟩ := first_ready hk hg.good (by omega)
      have hNat:Nat.beq dn.length l.length=true:=by rw [hdl]; exact Nat.beq_refl _
      rw [iltT (by simp; omega),hO,hNat,show ile 0 (0:Int)=true from rfl,e1,wrapS w (by omega),ileT (show (0:Int)≤((w+1:Nat):Int) by omega)]
      have hnx:nextN l dn=nextG l dn (l.length - (w+1)) (w+1) (w:Int):=by
        unfold nextN
        have hs:∀ j,0≤j→j < 0+w→rdyB l dn (j:Int)=false:=fun j _ hj=>by
          rw [rdyB_eq (by omega)]
          rcases e4 j (by omega) with h | h
          · rw [h]; rfl
          · rw [h,Bool.and_false]
        have h5:=next_skip (l:=l) (dn:=dn) (nx := -1) (n:=(l.length - (w+1))+1) w 0 hs
        rw [show (l.length - (w+1))+1+w=l.length by omega,Nat.zero_add] at h5
        rw [h5]
        simp only [nextG]
        rw [rdyB_eq hw,e2,e3]
        rfl
      show f5 (f2 n) 100000 l dn pl (i:Int) (w:Int) (readyZ l dn ((w+1:Nat):Int))=_
      rw [selLoop l hO (by omega) (f2 n) dn hdl pl (i:Int) (l.length - (w+1)) (w+1) w 100000 (by omega) (by omega) hw,← hnx]
      obtain ⟨q,e,hq,hr⟩:=next_ok hk.ok hk.v hg (by omega)
      have hS:=SS_mk hk.ok hk.v hg hq hr
      have hwc:0 < l[q].wc.length:=goodW_wc hV.good _ (List.getElem_mem hq)
      have hwc9:=(okV_len hk.ok).2 _ (List.getElem_mem hq)
      have hany:∀ c∈l[q].wc,List.any (List.getD l q d_work).wc (eqInt c)=true:=fun c hc=>by
        rw [getD_lt hq]; exact List.any_eq_true.2 ⟨c,hc,by simp [eqInt]⟩
      have hpe:∀ c∈l[q].wc,plcZ l pl (q:Int) c=startZ l sl dn (q:Int) c:=fun c hc=>place_eq hS hJ hR (by omega) (by omega) (hany c hc)
      have hokP:okP l pl (q:Int)=true:=by
        simp only [okP,Bool.and_eq_true]
        refine ⟨inbT hq,nleT (by omega),List.all_eq_true.2 fun v hv => ?_,List.all_eq_true.2 fun s hs => ?_⟩
        · obtain ⟨g1, g2⟩ := goodW_wh hV.good v hv
          rw [nleT ((okV_len hk.ok).2 v hv).1,ileT (by omega),ileT g2]
          rfl
        · obtain ⟨k, hkl, hdk, rfl⟩ := hR.fro s hs
          have hK:=hJ k hkl hdk
          have h7:=hK.s0
          have h8:=hK.s9
          have h9:=(hS.ff.wh k hkl).1
          rw [hK.sw,inbT hkl,ileT h7,ileT (by omega)]
          rfl
      rw [e]
      show sh4 l dn pl (i:Int) (q:Int) (f8 (f2 n) 100000)=_
      unfold sh4
      rw [inbT hq,toNat_nat,getD_lt hq,inb0 hwc,hokP]
      show f8 (f2 n) 100000 l dn pl (i:Int) (q:Int) ((1:Nat):Int) (plcS l pl (q:Int) (List.getD l[q].wc 0 d_int))=_
      rw [crewLoop l (f2 n) sl dn pl (i:Int) q hq hwc9.2 hokP hpe 100000 1 _ (by omega) (by omega) (by rw [getD_lt hwc]; exact List.getElem_mem _)]
      have hmz:minG l sl dn (q:Int) (l[q].wc.drop 1) (List.getD l[q].wc 0 d_int)=minZ l sl dn (q:Int) l[q].wc:=rfl
      rw [hmz]
      have hmem:=minZ_mem (l:=l) (sl:=sl) (dn:=dn) (nx:=(q:Int)) hwc
      obtain ⟨v,s1,s2,s3,s4,s5⟩:=start_ok hS hJ (by omega) (by omega) (hany _ hmem)
      have ev:startZ l sl dn (q:Int) (minZ l sl dn (q:Int) l[q].wc)=v:=s1
      have eS:plcS l pl (q:Int) (minZ l sl dn (q:Int) l[q].wc)=⟨(q:Int),minZ l sl dn (q:Int) l[q].wc,v⟩:=by
        unfold plcS
        rw [hpe _ hmem,ev]
      have eg:greedyS l (l.length - i) sl dn=greedyS l (l.length - (i+1)) (sl.set q ⟨(q:Int),minZ l sl dn (q:Int) l[q].wc,v⟩) (dn.set q true):=by
        rw [show l.length - i=(l.length - (i+1))+1 by omega]
        simp only [greedyS,stepS,bestC]
        rw [e,toNat_nat,getD_lt hq,ev]
      rw [eS,eg]
      obtain ⟨k1,k2⟩:=GS_step hg hq hr (minZ l sl dn (q:Int) l[q].wc) v
      have hJ':=GJ_step hS hJ (hany _ hmem) s2 s3 (by omega) s4 s5
      show sh7 l dn pl (i:Int) (q:Int) _ (f3 (f2 n))=_
      unfold sh7
      have hqd:q < dn.length:=by omega
      rw [nleT (show (pl.length+[(⟨(q:Int),minZ l sl dn (q:Int) l[q].wc,v⟩:Slot)].length) * 24≤140737488355328 by rw [List.length_singleton]; omega),nleT (show pl.length+[(⟨(q:Int),minZ l sl dn (q:Int) l[q].wc,v⟩:Slot)].length≤9223372036854775807 by rw [List.length_singleton]; omega),inbT hqd,toNat_nat,nltT hqd]
      show f2 n l (dn.set q true) (pl++[(⟨(q:Int),minZ l sl dn (q:Int) l[q].wc,v⟩:Slot)]) (IntKind.wrap .i64 ((i:Int)+1))=_
      rw [wrapS i (by omega)]
      exact ih (i+1) _ _ _ (by omega) hi k1 (by rw [show (((i+1:Nat):Int)) * 1000=(i:Int) * 1000+1000 by omega]; exact hJ') (PR_step hq hg.len hdl hS.dq hR) (by rw [List.length_append,List.length_singleton,hpl]) (by omega)
    · have e : i = l.length := by omega
      subst e
      rw [iltF (by simp),Nat.sub_self,condF]
      show sh1 pl=_
      unfold sh1
      have hall:∀ k,k < l.length→List.getD dn k d_bool=true:=fun k hkl=>cnt_zero dn (by omega) k (by omega)
      have hsw:∀ k,k < l.length→(List.getD sl k d_slot).sw=(k:Int):=fun k hkl=>(hJ k hkl (hall k hkl)).sw
      have h1:List.all pl (fun s=>inb s.sw pl.length)=true:=List.all_eq_true.2 fun s hs=>by
        obtain ⟨k,hkl,_,rfl⟩:=hR.fro s hs
        rw [hsw k hkl,hpl]
        exact inbT hkl
      rw [nleT (show pl.length≤90000 by omega),h1]
      have hord:ordL pl=sl:=by
        unfold ordL
        obtain ⟨a1,a2⟩:=ord_get (sl:=sl) (p:=pl) pl.length 0 (List.replicate pl.length d_slot) (by omega) (fun j _ hj=>by
          obtain ⟨k,hkl,_,e⟩:=hR.fro _ (List.getElem_mem hj)
          rw [getD_lt hj,e,hsw k hkl,toNat_nat]
          exact ⟨by simp; omega,rfl⟩)
        rw [List.length_replicate] at a1 a2
        refine List.ext_getElem (by rw [a1,hpl,hg.len]) fun k g1 g2 => ?_
        have hkl:k < l.length:=by rw [← hg.len]; exact g2
        have:=a2 k (by omega) (.inr (by
          obtain ⟨j,hj,e⟩:=List.getElem_of_mem (hR.to k hkl (hall k hkl))
          exact ⟨j,by omega,hj,by rw [getD_lt hj,e,hsw k hkl,toNat_nat]⟩))
        rw [getD_lt g1,getD_lt g2] at this
        exact this
      rw [hord]
      rfl
theorem f0_eq (l:List Work) (h:(validB l 12&&(okV l&&nle (List.length l) 12))=true):f0 l=some ((.lst .slot (greedyL l 12)),[]):=by
  have hk:=vOk_of h
  have hn:=hk.n
  show sh0 l (f2 100000)=_
  unfold sh0
  rw [ileT (show (0:Int)≤Int.ofNat l.length by simp),ileT (Int.le_refl (Int.ofNat l.length)),ileT (show Int.ofNat l.length * 1≤140737488355328 by simp; omega)]
  have hg0:GS l (List.replicate l.length d_slot) (List.replicate l.length d_bool):=⟨by simp,fun s hs=>by
    have hs':=List.eq_of_mem_replicate hs
    subst hs'
    have:0 < l.length:=by
      rcases Nat.eq_zero_or_pos l.length with e | e
      · rw [e] at hs; cases hs
      · exact e
    exact inb0 this,good_new l⟩
  have hno:∀ k,k < l.length→List.getD (List.replicate l.length d_bool) k d_bool=true→False:=fun k hk hd=>by
    rw [getD_lt (by simpa using hk),List.getElem_replicate] at hd
    cases hd
  have e:greedyL l 12=greedyS l l.length (List.replicate l.length d_slot) (List.replicate l.length d_bool):=by unfold greedyL; rw [hk.v]; rfl
  rw [e]
  exact outer l hk 100000 0 _ _ [] (by omega) (by omega) hg0 (fun k hk hd=>(hno k hk hd).elim) ⟨(fun s hs=>by cases hs),fun k hk hd=>(hno k hk hd).elim⟩ rfl (cnt_rep _)
theorem ok:CtxOk Try.prog X:=ctxOk tab (spC rready.spOk (spC rplace.spOk (spC rordered.spOk spN))) dpN
theorem okM:MOk Try.prog X:=fun g sp h=>by cases h
theorem spec (l:List Work) (h:((validB l 12&&(okV l&&nle (List.length l) 12)))=true):CallSpec Try.prog E 25 [(.lst .work l)] (.lst .slot (greedyL l 12)) [] :=
  runFn_sound ok okM Try.call25 Try.func25 (by kernel_rfl) (by kernel_rfl) (by kernel_rfl) (by show 1≤95; decide) (by decide) (by rfl) ((run l).trans (f0_eq l h))
noncomputable def sp:Sp U El:=fun args k=>match args with
  | [.lst .work l]=>chk ((validB l 12&&(okV l&&nle (List.length l) 12))) (k (.lst .slot (greedyL l 12)) [])
  | _=>none
theorem spOk:SpOk Try.prog E 25 sp where
  det:=fun vs=>by
    unfold sp
    split
    · exact det_c _ _ _
    · exact ⟨none,fun _=>rfl⟩
  ok:=fun vs k r h=>by
    unfold sp at h
    split at h
    · obtain ⟨h1, h2⟩ := chk_some h
      exact ⟨_,_,spec _ h1,h2⟩
    · cases h
end rgreedy
namespace lawPlans
noncomputable def bd:Code:=(Try.f8.body).getD .skip
noncomputable def X:Ctx U El:=⟨E,tds,zeros,eqs,specOf [(9,awake.sp),(10,large.sp),(14,rvalid.sp),(17,equalS.sp),(18,greedy.sp),(19,bound.sp),(22,critical.sp),(25,rgreedy.sp),(26,rbound.sp),(27,rcritical.sp),(28,equalI.sp)],100000,121,dspecOf [],fun _=>none⟩
noncomputable def nmR:Norm U:=⟨[],[4],[],[],[],[],[]⟩
noncomputable def RR:Kont U El:=fun st=>normK nmR st (retFin [4] [])
noncomputable def nm1:Norm U:=⟨[],[0,9,10,11],[],[],[],[],[]⟩
abbrev Y1:=(List Work)→(List Int)→Int→Int→R
noncomputable def fr0 (l:List Work) (crews:Int):St U El:=⟨[(0,(.lst .work l)),(1,(.int .i64 crews))],[]⟩
noncomputable def fr1 (l0:List Work) (c9:List Int) (fA:Int) (eA:Int):St U El:=⟨[(0,(.lst .work l0)),(9,(.lst .int c9)),(10,(.int .i64 fA)),(11,(.int .i64 eA))],[]⟩
noncomputable def sh0 (l:List Work) (crews:Int) (k1:Y1):R :=
  condB (!(true)) (some ((.bool false),[])) (condB (largeB l) (some ((.bool true),[])) (chk (okV l) (chk (okV l) (chk (okV l) (chk (okV l) (condB (!(validB l crews)) (condB ((Int.ofNat (List.length (greedyL l crews))) != (0:Int)) (some ((.bool false),[])) (condB ((greedyE l crews) != (1:Int)) (some ((.bool false),[])) (condB ((boundZ l crews) != (0:Int)) (some ((.bool false),[])) (condB ((boundE l crews) != (1:Int)) (some ((.bool false),[])) (k1 l (critL l) (critN l) (critE l)))))) (condB ((greedyE l crews) != (0:Int)) (some ((.bool false),[])) (chk ((validB l 12&&(okV l&&nle (List.length l) 12))) (chk (nle (List.length (greedyL l crews)) 90000) (condB (!(eqS (greedyL l crews) (greedyL l 12))) (some ((.bool false),[])) (condB ((boundE l crews) != (0:Int)) (some ((.bool false),[])) (chk ((validB l 12&&(okV l&&nle (List.length l) 12))) (condB ((boundZ l crews) != (boundZ l 12)) (some ((.bool false),[])) (k1 l (critL l) (critN l) (critE l)))))))))))))))
noncomputable def sh1 (l0:List Work) (c9:List Int) (fA:Int) (eA:Int):R :=
  chk (okV l0) (condB (!(validB l0 (12:Int))) (condB ((Int.ofNat (List.length c9)) == (0:Int)) (condB (fA == (0:Int)) (some ((.bool (eA == (1:Int))),[])) (some ((.bool false),[]))) (some ((.bool false),[]))) (condB ((Int.ofNat (List.length l0)) == (0:Int)) (condB ((Int.ofNat (List.length c9)) == (0:Int)) (condB (fA == (0:Int)) (some ((.bool (eA == (14:Int))),[])) (some ((.bool false),[]))) (some ((.bool false),[]))) (chk (((validB l0 12&&(okV l0&&nle (List.length l0) 12))&&nlt 0 (List.length l0))) (condB (eA == (0:Int)) (condB (fA == (critN l0)) (chk (nle (List.length c9) 90000) (some ((.bool (eqI c9 (critL l0))),[]))) (some ((.bool false),[]))) (some ((.bool false),[]))))))
noncomputable def ct1:Kont U El:=fun st=>exec X (cdp [1,1,1,1,1,1,1] bd) .d st RR (fun _ _=>none) RR
theorem P0 (l crews):exec X (cdp [] bd) (.seq none .d (.seq none .d (.seq none .d (.seq none .d (.seq none .d (.seq none .d (.seq (some nm1) .d .d))))))) (fr0 l crews) RR (fun _ _=>none) RR=sh0 l crews (fun y0 y1 y2 y3=>(hid ct1) (fr1 y0 y1 y2 y3)):=by kernel_rfl
theorem P1 (l0 c9 fA eA):ct1 (fr1 l0 c9 fA eA)=sh1 l0 c9 fA eA:=by kernel_rfl
noncomputable def f1 (l0:List Work) (c9:List Int) (fA:Int) (eA:Int):R:=sh1 l0 c9 fA eA
noncomputable def f0 (l:List Work) (crews:Int):R:=sh0 l crews f1
theorem T1 (l0 c9 fA eA):(hid ct1) (fr1 l0 c9 fA eA)=f1 l0 c9 fA eA:=by
  refine (congrFun (hid_eq _) _).trans <| (P1 l0 c9 fA eA).trans ?_
  show _=sh1 l0 c9 fA eA
  rfl
theorem T0 (l crews):exec X bd (.seq none .d (.seq none .d (.seq none .d (.seq none .d (.seq none .d (.seq none .d (.seq (some nm1) .d .d))))))) (fr0 l crews) RR (fun _ _=>none) RR=f0 l crews:=by
  refine (P0 l crews).trans ?_
  show _=sh0 l crews f1
  simp only [T1]
theorem run (l crews):runFn X bd (.seq none .d (.seq none .d (.seq none .d (.seq none .d (.seq none .d (.seq none .d (.seq (some nm1) .d .d))))))) nmR [4] [] [(.lst .work l),(.int .i64 crews)]=f0 l crews:=T0 l crews
theorem f0_eq (l : List Work) (crews : Int) : f0 l crews = outB true := by
  show sh0 l crews f1=_
  unfold sh0
  cases hb:largeB l with
  | true=>rfl
  | false =>
    have hv:=large_okV hb
    have hlen:∀ c,validB l c=true→l.length≤12:=fun c hc=>by
      simp only [largeB,Bool.or_eq_false_iff,Bool.and_eq_false_iff] at hb
      have:=(valid_of hc).len
      rcases hb.1 with h | h
      · have:=iltN h; simp at this; omega
      · have:=ileN h; simp at this; omega
    have k1 : sh1 l (critL l) (critN l) (critE l) = outB true := by
      unfold sh1
      rw [hv,chkT]
      cases hval:validB l 12 with
      | false =>
        have e1:critE l=1:=by unfold critE; rw [hval]; rfl
        have e2:critL l=[]:=by unfold critL; rw [hval]; rfl
        have e3:critN l=0:=by unfold critN; rw [hval]; rfl
        rw [e1,e2,e3]
        rfl
      | true =>
        cases hz:(Int.ofNat l.length == (0:Int)) with
        | true =>
          have e1:critE l=14:=by unfold critE; rw [hval,hz]; rfl
          have e2:critL l=[]:=by unfold critL; rw [hval,hz]; rfl
          have e3:critN l=0:=by unfold critN; rw [hval,hz]; rfl
          rw [e1,e2,e3]
          rfl
        | false =>
          have hl0:0 < l.length:=by
            have:=beq_eq_false_iff_ne.1 hz
            simp at this
            exact List.length_pos_iff.2 this
          have hl:=hlen 12 hval
          have e1:critE l=0:=by unfold critE; rw [hval,hz]; rfl
          have hcl:(critL l).length≤90000:=by
            obtain ⟨hk,hd⟩:=valid_okE hv hval
            obtain ⟨q,hq,g1,g2⟩:=last_spec hl0
            have e2:critL l=List.reverse ((q:Int) :: chainF l (endsL l) l.length (q:Int)):=by unfold critL critOf; rw [hval,hz,g1]; rfl
            have:=(chain_ok (okE_of hk) l.length q hq (hd q hq)).2
            rw [e2]
            omega
          rw [nleT hl,nltT hl0,e1,beq_self_eq_true,beq_self_eq_true,nleT hcl,eqI_self]
          rfl
    rw [hv,condF,chkT,chkT,chkT,chkT]
    cases hval:validB l crews with
    | false =>
      have e1:greedyE l crews=1:=by unfold greedyE; rw [hval]; rfl
      have e2:greedyL l crews=[]:=by unfold greedyL; rw [hval]; rfl
      have e3:boundE l crews=1:=by unfold boundE; rw [hval]; rfl
      have e4:boundZ l crews=0:=by unfold boundZ; rw [hval]; rfl
      rw [e1,e2,e3,e4]
      exact k1
    | true =>
      have hval2:=valid_up hval
      have hl:=hlen crews hval
      have e1:greedyE l crews=0:=by unfold greedyE; rw [hval]; rfl
      have e2:greedyL l crews=greedyL l 12:=by unfold greedyL; rw [hval,hval2]
      have e3:boundE l crews=0:=by unfold boundE; rw [hval]; rfl
      have e4:boundZ l crews=boundZ l 12:=by unfold boundZ; rw [hval,hval2]
      have hgl:=(greedy_GP hv hval2).len
      rw [e1,e2,e3,e4,hval2,nleT hl,nleT (show (greedyL l 12).length≤90000 by omega),eqS_self,show (boundZ l 12 != boundZ l 12)=false by simp]
      exact k1
theorem ok:CtxOk Try.prog X:=ctxOk tab (spC awake.spOk (spC large.spOk (spC rvalid.spOk (spC equalS.spOk (spC greedy.spOk (spC bound.spOk (spC critical.spOk (spC rgreedy.spOk (spC rbound.spOk (spC rcritical.spOk (spC equalI.spOk spN))))))))))) dpN
theorem okM:MOk Try.prog X:=fun g sp h=>by cases h
theorem spec (l:List Work) (crews:Int):CallSpec Try.prog E 8 [(.lst .work l),(.int .i64 crews)] (.bool (true)) [] :=
  runFn_sound ok okM Try.call8 Try.func8 (by kernel_rfl) (by kernel_rfl) (by kernel_rfl) (by show 2≤121; decide) (by decide) (by rfl) ((run l crews).trans (f0_eq l crews))
noncomputable def sp:Sp U El:=fun args k=>match args with
  | [.lst .work l,.int .i64 crews]=>k (.bool (true)) []
  | _=>none
theorem spOk:SpOk Try.prog E 8 sp where
  det:=fun vs=>by
    unfold sp
    split
    · exact ⟨some (_,_),fun _=>rfl⟩
    · exact ⟨none,fun _=>rfl⟩
  ok:=fun vs k r h=>by
    unfold sp at h
    split at h
    · exact ⟨_,_,spec _ _,h⟩
    · cases h
end lawPlans
end Go.Proofs.Ythdklallcljhlaa
