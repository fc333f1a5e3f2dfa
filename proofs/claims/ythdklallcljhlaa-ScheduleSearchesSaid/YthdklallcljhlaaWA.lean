/- The law SchedulePlans: its own run comes to true. -/
import Derived.Test.YthdklallcljhlaaVZ
import Derived.Test.YthdklallcljhlaaVX
namespace Go.Proofs.Ythdklallcljhlaa
set_option linter.unusedSectionVars false
set_option linter.unusedSimpArgs false
set_option linter.unusedVariables false
set_option maxRecDepth 100000
noncomputable def pc (p:List Slot):Nat→Nat→List Slot→List Slot
  | 0,_,out=>out
  | n+1,k,out=>pc p n (k+1) (List.set out (Int.toNat (List.getD p k d_slot).sw) (List.getD p k d_slot))
noncomputable def j9 (p:List Slot):List Slot:=pc p p.length 0 (List.replicate p.length d_slot)
namespace rordered
noncomputable def bd:Code:=(Try.f60.body).getD .skip
noncomputable def X:Ctx U El:=⟨E,tds,zeros,eqs,aG [],100000,26,aD [],fun _=>none⟩
noncomputable def nmR:Norm U:=⟨[(2,.slot)],[2],[2],[],[],[],[]⟩
noncomputable def RR:ae U El:=fun st=>aM nmR st (aK [2] [2])
noncomputable def nm1:Norm U:=⟨[(3,.slot)],[3],[3],[],[],[],[]⟩
noncomputable def nm2:Norm U:=⟨[(3,.slot)],[0,3,4],[3],[],[],[],[]⟩
abbrev Y1:=(List Slot)→R
abbrev Y2:=(List Slot)→(List Slot)→Int→R
noncomputable def fr0 (p:List Slot):St U El:=⟨[(0,(.lst .slot p))],[]⟩
noncomputable def fr1 (cA:List Slot):St U El:=⟨[(3,(.ful 3))],[(3,(.rows .slot cA))]⟩
noncomputable def fr2 (p0:List Slot) (cA:List Slot) (i4:Int):St U El:=⟨[(0,(.lst .slot p0)),(3,(.ful 3)),(4,(.int .i64 i4))],[(3,(.rows .slot cA))]⟩
noncomputable def sh0 (p:List Slot) (k2:Y2):R :=
  chk (ile 0 (Int.ofNat (List.length p))&&ile (Int.ofNat (List.length p)) (Int.ofNat (List.length p))&&ile ((Int.ofNat (List.length p)) * 24) 140737488355328) (k2 p (List.replicate (Int.toNat (Int.ofNat (List.length p))) d_slot) (0:Int))
noncomputable def sh1 (cA:List Slot):R :=
  some ((.ful 0),[(0,.rows .slot cA)])
noncomputable def sh2 (p0:List Slot) (cA:List Slot) (i4:Int) (k1:Y1) (k2:Y2):R :=
  ah (ilt i4 (Int.ofNat (List.length p0))) (chk (inb i4 (List.length p0)) (chk (inb i4 (List.length p0)) (chk (inb ((List.getD p0 (Int.toNat i4) d_slot).sw) (List.length cA)) (chk (nlt (Int.toNat ((List.getD p0 (Int.toNat i4) d_slot).sw)) (List.length cA)&&true) (k2 p0 (List.set cA (Int.toNat ((List.getD p0 (Int.toNat i4) d_slot).sw)) (List.getD p0 (Int.toNat i4) d_slot)) (IntKind.wrap .i64 (i4+(1:Int)))))))) (k1 cA)
noncomputable def it2 (Kb1:ae U El) (n:Nat):ae U El:=bL nm2 (fun st' K'=>ak X (cdp [1,1,0,1,0,0] bd) (.seq none .d (.seq none (.block (.region [(11,3)])) .d)) st' K' (aw 0 (ap nm1 Kb1) (fun _ _=>none)) RR) n
noncomputable def ct1:ae U El:=fun st=>ak X (cdp [1,1,1] bd) .d st RR (fun _ _=>none) RR
theorem P0 (p):ak X (cdp [] bd) (.seq none .d (.seq none .d (.seq (some nm1) (.seq none .d (.block (.loop nm2 (.seq none .d (.seq none (.block (.region [(11,3)])) .d))))) .d))) (fr0 p) RR (fun _ _=>none) RR=sh0 p (fun y0 y1 y2=>(hid (it2 (hid ct1) 100000)) (fr2 y0 y1 y2)):=by kernel_rfl
theorem P1 (cA):ct1 (fr1 cA)=sh1 cA:=by kernel_rfl
theorem P2 (p0 cA i4) (Kb1 Kb2:ae U El):ak X (cdp [1,1,0,1,0,0] bd) (.seq none .d (.seq none (.block (.region [(11,3)])) .d)) (fr2 p0 cA i4) (ap nm2 Kb2) (aw 0 (ap nm1 Kb1) (fun _ _=>none)) RR=sh2 p0 cA i4 (fun y0=>Kb1 (fr1 y0)) (fun y0 y1 y2=>Kb2 (fr2 y0 y1 y2)):=by kernel_rfl
noncomputable def f1 (cA:List Slot):R:=sh1 cA
noncomputable def f2:Nat→Y2
  | 0=>fun _ _ _=>none
  | n+1=>fun p0 cA i4=>sh2 p0 cA i4 f1 (f2 n)
noncomputable def f0 (p:List Slot):R:=sh0 p (f2 100000)
theorem T1 (cA):(hid ct1) (fr1 cA)=f1 cA:=by
  refine (congrFun (am _) _).trans <| (P1 cA).trans ?_
  show _=sh1 cA
  rfl
theorem T2:∀ (n:Nat),∀ p0 cA i4,it2 (hid ct1) n (fr2 p0 cA i4)=f2 n p0 cA i4:=by
  intro n
  induction n with
  | zero=>intros; rfl
  | succ n ih =>
    intro p0 cA i4
    refine (P2 p0 cA i4 (hid ct1) (it2 (hid ct1) n)).trans ?_
    show _=sh2 p0 cA i4 f1 (f2 n)
    simp only [T1,ih]
theorem H2 (p0 cA i4):hid (it2 (hid ct1) 100000) (fr2 p0 cA i4)=f2 100000 p0 cA i4:=(congrFun (am _) _).trans (T2 100000 p0 cA i4)
theorem T0 (p):ak X bd (.seq none .d (.seq none .d (.seq (some nm1) (.seq none .d (.block (.loop nm2 (.seq none .d (.seq none (.block (.region [(11,3)])) .d))))) .d))) (fr0 p) RR (fun _ _=>none) RR=f0 p:=by
  refine (P0 p).trans ?_
  show _=sh0 p (f2 100000)
  simp only [H2]
theorem run (p):bg X bd (.seq none .d (.seq none .d (.seq (some nm1) (.seq none .d (.block (.loop nm2 (.seq none .d (.seq none (.block (.region [(11,3)])) .d))))) .d))) nmR [2] [2] [(.lst .slot p)]=f0 p:=T0 p
theorem loop (p:List Slot) (hl:p.length≤90000) (hs:∀ s∈p,inb s.sw p.length=true):∀ (n k:Nat) (out:List Slot),p.length < n+k→k≤p.length→out.length=p.length→f2 n p out (k:Int)=some ((.ful 0),[(0,.rows .slot (pc p (p.length - k) k out))]):=by
  intro n
  induction n with
  | zero=>intro k out h1 h2; omega
  | succ n ih =>
    intro k out h1 h2 h3
    show sh2 p out (k:Int) f1 (f2 n)=_
    unfold sh2
    by_cases hk:k < p.length
    · have hsw : inb (List.getD p k d_slot).sw p.length = true := by rw [al hk]; exact hs _ (List.getElem_mem hk)
      have hsw2:=hsw
      simp only [inb,Bool.and_eq_true] at hsw2
      have q1:=b7 hsw2.1
      have q2:=dJ hsw2.2
      rw [bw (by simp; omega),aZ hk,ac,h3,hsw,eb (show Int.toNat (List.getD p k d_slot).sw < p.length by omega),bo k (by omega),show p.length - k=(p.length - (k+1))+1 by omega]
      exact ih (k+1) _ (by omega) hk (by rw [List.length_set]; exact h3)
    · have : k = p.length := by omega
      subst this
      rw [bp (by simp),Nat.sub_self,bV]
      rfl
theorem f0_eq (p:List Slot) (h:(nle (List.length p) 90000&&List.all p (fun s=>inb (Slot.sw s) (List.length p)))=true):f0 p=some ((.ful 0),[(0,.rows .slot (j9 p))]):=by
  rw [Bool.and_eq_true] at h
  have hl:=cn h.1
  show sh0 p (f2 100000)=_
  unfold sh0
  rw [bD (show (0:Int)≤Int.ofNat p.length by simp),bD (Int.le_refl (Int.ofNat p.length)),bD (show Int.ofNat p.length * 24≤140737488355328 by simp; omega)]
  exact loop p hl (List.all_eq_true.1 h.2) 100000 0 _ (by omega) (by omega) (by simp)
theorem ok:CtxOk Try.prog X:=aU tab spN dpN
theorem okM:MOk Try.prog X:=fun g sp h=>by cases h
theorem spec (p:List Slot) (h:((nle (List.length p) 90000&&List.all p (fun s=>inb (Slot.sw s) (List.length p))))=true):az Try.prog E 60 [(.lst .slot p)] (.ful 0) [(0,.rows .slot (j9 p))] :=
  aq ok okM Try.call60 Try.func60 (by kernel_rfl) (by kernel_rfl) (by kernel_rfl) (by show 1≤26; decide) (by decide) (by rfl) ((run p).trans (f0_eq p h))
noncomputable def sp:Sp U El:=fun args k=>match args with
  | [.lst .slot p]=>chk ((nle (List.length p) 90000&&List.all p (fun s=>inb (Slot.sw s) (List.length p)))) (k (.ful 0) [(0,.rows .slot (j9 p))])
  | _=>none
theorem spOk:SpOk Try.prog E 60 sp where
  det:=fun vs=>by
    unfold sp
    split
    · exact bz _ _ _
    · exact ⟨none,fun _=>rfl⟩
  ok:=fun vs k r h=>by
    unfold sp at h
    split at h
    · obtain ⟨h1, h2⟩ := ab h
      exact ⟨_,_,spec _ h1,h2⟩
    · cases h
end rordered
theorem rh {sl p : List Slot} : ∀ (n k : Nat) (out : List Slot), k + n = p.length → (∀ j, k ≤ j → j < p.length → Int.toNat (List.getD p j d_slot).sw < out.length ∧ List.getD p j d_slot = List.getD sl (Int.toNat (List.getD p j d_slot).sw) d_slot) → (pc p n k out).length = out.length ∧ ∀ i, i < out.length → (List.getD out i d_slot = List.getD sl i d_slot ∨ ∃ j, k ≤ j ∧ j < p.length ∧ Int.toNat (List.getD p j d_slot).sw = i) → List.getD (pc p n k out) i d_slot = List.getD sl i d_slot := by
  intro n
  induction n with
  | zero =>
    intro k out hk _
    refine ⟨rfl,fun i hi h => ?_⟩
    rcases h with h | ⟨j,h1,h2,_⟩
    · exact h
    · omega
  | succ n ih =>
    intro k out hk hp
    simp only [pc]
    obtain ⟨g1,g2⟩:=hp k (Nat.le_refl _) (by omega)
    obtain ⟨a1,a2⟩:=ih (k+1) (List.set out (Int.toNat (List.getD p k d_slot).sw) (List.getD p k d_slot)) (by omega) (fun j h1 h2=>by rw [List.length_set]; exact hp j (by omega) h2)
    rw [List.length_set] at a1 a2
    refine ⟨a1,fun i hi h=>a2 i hi ?_⟩
    rw [aX _ _ _ _ g1]
    by_cases e:Int.toNat (List.getD p k d_slot).sw=i
    · rw [if_pos e]
      exact .inl (by rw [← e]; exact g2)
    · rw [if_neg e]
      rcases h with h | ⟨j,h1,h2,h3⟩
      · exact .inl h
      · refine .inr ⟨j, ?_, h2, h3⟩
        by_cases ej:j=k
        · subst ej; exact absurd h3 e
        · omega
theorem ri {l:List Work} {dn:List Bool} {k:Nat} (hk:k < l.length):bx l dn (k:Int)=(!(List.getD dn k d_bool)&&rdy dn l[k]):=by
  unfold bx rdy
  rw [ac,al hk]
  congr 1
  rw [Bool.eq_iff_iff]
  simp [aW]
theorem jS {l:List Work} {dn:List Bool} {k:Nat} (hk:k < l.length):bM l dn (k:Int)=bif bx l dn (k:Int) then (k:Int) else bM l dn ((k+1:Nat):Int):=by
  unfold bM
  rw [ac,ac,ri hk,bl hk]
  rfl
theorem ku (l:List Work) (dn:List Bool):bM l dn (l.length:Int) = -1:=by
  unfold bM
  rw [ac,List.drop_length]
  rfl
theorem n6 {l:List Work} {sl:List Slot} {dn:List Bool} {pl:List Slot} {q:Nat} {v:Slot} (hq:q < l.length) (hsl:sl.length=l.length) (hdl:dn.length=l.length) (hd:List.getD dn q d_bool=false) (hR:PR l sl dn pl):PR l (sl.set q v) (dn.set q true) (pl++[v]):=by
  have hqs:q < sl.length:=by omega
  have hqd:q < dn.length:=by omega
  refine ⟨fun s hs => ?_,fun k hk hdk => ?_⟩
  · rcases List.mem_append.1 hs with hs | hs
    · obtain ⟨k, h1, h2, h3⟩ := hR.fro s hs
      have hne:q≠k:=fun e=>by rw [← e,hd] at h2; cases h2
      exact ⟨k,h1,by rw [bN _ _ _ hqd,if_neg hne]; exact h2,by rw [aX _ _ _ _ hqs,if_neg hne]; exact h3⟩
    · refine ⟨q, hq, by rw [bN _ _ _ hqd, if_pos rfl], ?_⟩
      rw [aX _ _ _ _ hqs,if_pos rfl]
      exact List.mem_singleton.1 hs
  · by_cases e : q = k
    · subst e
      rw [aX _ _ _ _ hqs,if_pos rfl]
      exact List.mem_append_right _ (List.mem_singleton.2 rfl)
    · rw [bN _ _ _ hqd, if_neg e] at hdk
      rw [aX _ _ _ _ hqs,if_neg e]
      exact List.mem_append_left _ (hR.to k hk hdk)
end Go.Proofs.Ythdklallcljhlaa
