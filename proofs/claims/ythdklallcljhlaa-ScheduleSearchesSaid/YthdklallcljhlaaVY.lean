/- The document's ends, bound, chain; equality of lists. -/
import Derived.Test.YthdklallcljhlaaVU
namespace Go.Proofs.Ythdklallcljhlaa
set_option linter.unusedSectionVars false
set_option linter.unusedSimpArgs false
set_option linter.unusedVariables false
set_option maxRecDepth 100000
noncomputable def o9:List Slot→List Slot→Bool
  | [],_=>true
  | x :: a,y :: b=>(x.sw == y.sw&&(x.sc == y.sc&&(x.ss == y.ss&&true)))&&o9 a b
  | _,_=>false
noncomputable def eqS (a b:List Slot):Bool:=bif (Int.ofNat a.length) != (Int.ofNat b.length) then false else o9 a b
theorem pa:∀ a,o9 a a=true:=by
  intro a
  induction a with
  | nil=>rfl
  | cons x a ih=>simp [o9,ih]
theorem qs (a:List Slot):eqS a a=true:=by
  unfold eqS
  rw [bne_self_eq_false]
  exact pa a
namespace equalS
noncomputable def bd:Code:=(Try.f17.body).getD .skip
noncomputable def X:Ctx U El:=⟨E,tds,zeros,eqs,aG [],100000,26,aD [],fun _=>none⟩
noncomputable def nmR:Norm U:=⟨[],[4],[],[],[],[],[]⟩
noncomputable def RR:ae U El:=fun st=>aM nmR st (aK [4] [])
noncomputable def nm1:Norm U:=⟨[],[],[],[],[],[],[]⟩
noncomputable def nm2:Norm U:=⟨[],[0,1,12,13],[],[],[],[],[]⟩
abbrev Y1:=R
abbrev Y2:=(List Slot)→(List Slot)→Int→Int→R
noncomputable def fr0 (a:List Slot) (b:List Slot):St U El:=⟨[(0,(.lst .slot a)),(1,(.lst .slot b))],[]⟩
noncomputable def fr1:St U El:=⟨[],[]⟩
noncomputable def fr2 (iA:List Slot) (jA:List Slot) (lA:Int) (hA:Int):St U El:=⟨[(0,(.lst .slot iA)),(1,(.lst .slot jA)),(12,(.int .i64 lA)),(13,(.int .i64 hA))],[]⟩
noncomputable def sh0 (a:List Slot) (b:List Slot) (k2:Y2):R :=
  ah ((Int.ofNat (List.length a)) != (Int.ofNat (List.length b))) (some ((.bool false),[])) (k2 a b (Int.ofNat (List.length a)) (0:Int))
noncomputable def sh1:R :=
  some ((.bool true),[])
noncomputable def sh2 (iA:List Slot) (jA:List Slot) (lA:Int) (hA:Int) (k1:Y1) (k2:Y2):R :=
  ah (ilt hA lA) (chk (inb hA (List.length iA)) (chk (inb hA (List.length jA)) (ah (!(((List.getD iA (Int.toNat hA) d_slot).sw == (List.getD jA (Int.toNat hA) d_slot).sw)&&(((List.getD iA (Int.toNat hA) d_slot).sc == (List.getD jA (Int.toNat hA) d_slot).sc)&&(((List.getD iA (Int.toNat hA) d_slot).ss == (List.getD jA (Int.toNat hA) d_slot).ss)&&true)))) (some ((.bool false),[])) (k2 iA jA lA (IntKind.wrap .i64 (hA+(1:Int))))))) (k1)
noncomputable def it2 (Kb1:ae U El) (n:Nat):ae U El:=bL nm2 (fun st' K'=>ak X (cdp [1,1,0,1,0,0] bd) .d st' K' (aw 0 (ap nm1 Kb1) (fun _ _=>none)) RR) n
noncomputable def ct1:ae U El:=fun st=>ak X (cdp [1,1,1] bd) .d st RR (fun _ _=>none) RR
theorem P0 (a b):ak X (cdp [] bd) (.seq none .d (.seq none .d (.seq (some nm1) (.seq none .d (.block (.loop nm2 .d))) .d))) (fr0 a b) RR (fun _ _=>none) RR=sh0 a b (fun y0 y1 y2 y3=>(hid (it2 (hid ct1) 100000)) (fr2 y0 y1 y2 y3)):=by kernel_rfl
theorem P1:ct1 (fr1)=sh1:=by kernel_rfl
theorem P2 (iA jA lA hA) (Kb1 Kb2:ae U El):ak X (cdp [1,1,0,1,0,0] bd) .d (fr2 iA jA lA hA) (ap nm2 Kb2) (aw 0 (ap nm1 Kb1) (fun _ _=>none)) RR=sh2 iA jA lA hA (Kb1 (fr1)) (fun y0 y1 y2 y3=>Kb2 (fr2 y0 y1 y2 y3)):=by kernel_rfl
noncomputable def f1:R:=sh1
noncomputable def f2:Nat→Y2
  | 0=>fun _ _ _ _=>none
  | n+1=>fun iA jA lA hA=>sh2 iA jA lA hA f1 (f2 n)
noncomputable def f0 (a:List Slot) (b:List Slot):R:=sh0 a b (f2 100000)
theorem T1:(hid ct1) (fr1)=f1:=by
  refine (congrFun (am _) _).trans <| (P1).trans ?_
  show _=sh1
  rfl
theorem T2:∀ (n:Nat),∀ iA jA lA hA,it2 (hid ct1) n (fr2 iA jA lA hA)=f2 n iA jA lA hA:=by
  intro n
  induction n with
  | zero=>intros; rfl
  | succ n ih =>
    intro iA jA lA hA
    refine (P2 iA jA lA hA (hid ct1) (it2 (hid ct1) n)).trans ?_
    show _=sh2 iA jA lA hA f1 (f2 n)
    simp only [T1,ih]
theorem H2 (iA jA lA hA):hid (it2 (hid ct1) 100000) (fr2 iA jA lA hA)=f2 100000 iA jA lA hA:=(congrFun (am _) _).trans (T2 100000 iA jA lA hA)
theorem T0 (a b):ak X bd (.seq none .d (.seq none .d (.seq (some nm1) (.seq none .d (.block (.loop nm2 .d))) .d))) (fr0 a b) RR (fun _ _=>none) RR=f0 a b:=by
  refine (P0 a b).trans ?_
  show _=sh0 a b (f2 100000)
  simp only [H2]
theorem run (a b):bg X bd (.seq none .d (.seq none .d (.seq (some nm1) (.seq none .d (.block (.loop nm2 .d))) .d))) nmR [4] [] [(.lst .slot a),(.lst .slot b)]=f0 a b:=T0 a b
theorem loop (a b:List Slot) (hl:a.length≤90000) (he:a.length=b.length):∀ (n i:Nat),a.length < n+i→i≤a.length→f2 n a b (Int.ofNat a.length) (i:Int)=bm (o9 (a.drop i) (b.drop i)):=by
  intro n
  induction n with
  | zero=>intro i h1 h2; omega
  | succ n ih =>
    intro i h1 h2
    show sh2 a b (Int.ofNat a.length) i f1 (f2 n)=_
    unfold sh2
    by_cases hi:i < a.length
    · have hi' : i < b.length := by omega
      rw [bw (by simp; omega),aZ hi,aZ hi',ac,al hi,al hi',bl hi,bl hi',bo i (by omega)]
      simp only [o9]
      cases (a[i].sw == b[i].sw&&(a[i].sc == b[i].sc&&(a[i].ss == b[i].ss&&true)))
      · rfl
      · exact ih (i+1) (by omega) hi
    · have : i = a.length := by omega
      subst this
      rw [bp (by simp),List.drop_length,he,List.drop_length]
      rfl
theorem f0_eq (a b:List Slot) (h:nle (List.length a) 90000=true):f0 a b=bm (eqS a b):=by
  have hl:a.length≤90000:=cn h
  unfold f0 sh0 eqS
  cases hb:(Int.ofNat a.length) != (Int.ofNat b.length)
  · have he : a.length = b.length := Int.ofNat.inj (by simpa only [bne_eq_false_iff_eq] using hb)
    exact loop a b hl he 100000 0 (by omega) (by omega)
  · rfl
theorem ok:CtxOk Try.prog X:=aU tab spN dpN
theorem okM:MOk Try.prog X:=fun g sp h=>by cases h
theorem spec (a:List Slot) (b:List Slot) (h:(nle (List.length a) 90000)=true):az Try.prog E 17 [(.lst .slot a),(.lst .slot b)] (.bool (eqS a b)) [] :=
  aq ok okM Try.call17 Try.func17 (by kernel_rfl) (by kernel_rfl) (by kernel_rfl) (by show 2≤26; decide) (by decide) (by rfl) ((run a b).trans (f0_eq a b h))
noncomputable def sp:Sp U El:=fun args k=>match args with
  | [.lst .slot a,.lst .slot b]=>chk (nle (List.length a) 90000) (k (.bool (eqS a b)) [])
  | _=>none
theorem spOk:SpOk Try.prog E 17 sp where
  det:=fun vs=>by
    unfold sp
    split
    · exact bz _ _ _
    · exact ⟨none,fun _=>rfl⟩
  ok:=fun vs k r h=>by
    unfold sp at h
    split at h
    · obtain ⟨h1, h2⟩ := ab h
      exact ⟨_,_,spec _ _ h1,h2⟩
    · cases h
end equalS
noncomputable def rcT (l:List Work) (s:Slot) (sum:Int):Int:=bif ilt (0:Int) (IntKind.wrap .i64 (aE l s - (List.getD l (Int.toNat s.sw) aa).wd)) then (IntKind.wrap .i64 (sum+(IntKind.wrap .i64 ((IntKind.wrap .i64 (aE l s - (List.getD l (Int.toNat s.sw) aa).wd)) * (List.getD l (Int.toNat s.sw) aa).wp)))) else sum
noncomputable def rcG (l:List Work) (p:List Slot):Nat→Nat→Int→Int
  | 0,_,s=>s
  | n+1,k,s=>rcG l p n (k+1) (rcT l (List.getD p k d_slot) s)
noncomputable def b8 (l:List Work) (p:List Slot):Int:=rcG l p p.length 0 0
namespace rcost
noncomputable def bd:Code:=(Try.f62.body).getD .skip
noncomputable def X:Ctx U El:=⟨E,tds,zeros,eqs,aG [(77,rend.sp)],100000,46,aD [],fun _=>none⟩
noncomputable def nmR:Norm U:=⟨[],[4],[],[],[],[],[]⟩
noncomputable def RR:ae U El:=fun st=>aM nmR st (aK [4] [])
noncomputable def nm1:Norm U:=⟨[],[5],[],[],[],[],[]⟩
noncomputable def nm2:Norm U:=⟨[],[0,1,5,6],[],[],[],[],[]⟩
noncomputable def nm3:Norm U:=⟨[],[0,1,5,6],[],[],[],[],[]⟩
abbrev Y1:=Int→R
abbrev Y2:=(List Work)→(List Slot)→Int→Int→R
abbrev Y3:=(List Work)→(List Slot)→Int→Int→R
noncomputable def fr0 (l:List Work) (p:List Slot):St U El:=⟨[(0,(.lst .work l)),(1,(.lst .slot p))],[]⟩
noncomputable def fr1 (fA:Int):St U El:=⟨[(5,(.int .i64 fA))],[]⟩
noncomputable def fr2 (l0:List Work) (p1:List Slot) (fA:Int) (i6:Int):St U El:=⟨[(0,(.lst .work l0)),(1,(.lst .slot p1)),(5,(.int .i64 fA)),(6,(.int .i64 i6))],[]⟩
noncomputable def fr3 (l0:List Work) (p1:List Slot) (fA:Int) (i6:Int):St U El:=⟨[(0,(.lst .work l0)),(1,(.lst .slot p1)),(5,(.int .i64 fA)),(6,(.int .i64 i6))],[]⟩
noncomputable def sh0 (l:List Work) (p:List Slot) (k2:Y2):R :=
  k2 l p (0:Int) (0:Int)
noncomputable def sh1 (fA:Int):R :=
  some ((.int .i64 fA),[])
noncomputable def sh2 (l0:List Work) (p1:List Slot) (fA:Int) (i6:Int) (k1:Y1) (k3:Y3):R :=
  ah (ilt i6 (Int.ofNat (List.length p1))) (chk (inb i6 (List.length p1)) (chk (inb (Slot.sw (List.getD p1 (Int.toNat i6) d_slot)) (List.length l0)) (chk (inb i6 (List.length p1)) (chk (inb ((List.getD p1 (Int.toNat i6) d_slot).sw) (List.length l0)) (ah (ilt (0:Int) (IntKind.wrap .i64 ((aE l0 (List.getD p1 (Int.toNat i6) d_slot)) - (List.getD l0 (Int.toNat ((List.getD p1 (Int.toNat i6) d_slot).sw)) aa).wd))) (chk (inb i6 (List.length p1)) (chk (inb ((List.getD p1 (Int.toNat i6) d_slot).sw) (List.length l0)) (k3 l0 p1 (IntKind.wrap .i64 (fA+(IntKind.wrap .i64 ((IntKind.wrap .i64 ((aE l0 (List.getD p1 (Int.toNat i6) d_slot)) - (List.getD l0 (Int.toNat ((List.getD p1 (Int.toNat i6) d_slot).sw)) aa).wd)) * (List.getD l0 (Int.toNat ((List.getD p1 (Int.toNat i6) d_slot).sw)) aa).wp)))) i6))) (k3 l0 p1 fA i6)))))) (k1 fA)
noncomputable def sh3 (l0:List Work) (p1:List Slot) (fA:Int) (i6:Int) (k2:Y2):R :=
  k2 l0 p1 fA (IntKind.wrap .i64 (i6+(1:Int)))
noncomputable def it2 (Kb1:ae U El) (n:Nat):ae U El:=bL nm2 (fun st' K'=>ak X (cdp [1,1,0,1,0,0] bd) (.seq none .d (.seq (some nm3) .d .d)) st' K' (aw 0 (ap nm1 Kb1) (fun _ _=>none)) RR) n
noncomputable def ct1:ae U El:=fun st=>ak X (cdp [1,1,1] bd) .d st RR (fun _ _=>none) RR
noncomputable def ct3 (Kb1 Kb2:ae U El):ae U El:=fun st=>ak X (cdp [1,1,0,1,0,0,1,1] bd) .d st (ap nm2 Kb2) (aw 0 (ap nm1 Kb1) (fun _ _=>none)) RR
theorem P0 (l p):ak X (cdp [] bd) (.seq none .d (.seq none .d (.seq (some nm1) (.seq none .d (.block (.loop nm2 (.seq none .d (.seq (some nm3) .d .d))))) .d))) (fr0 l p) RR (fun _ _=>none) RR=sh0 l p (fun y0 y1 y2 y3=>(hid (it2 (hid ct1) 100000)) (fr2 y0 y1 y2 y3)):=by kernel_rfl
theorem P1 (fA):ct1 (fr1 fA)=sh1 fA:=by kernel_rfl
theorem P2 (l0 p1 fA i6) (Kb1 Kb2:ae U El):ak X (cdp [1,1,0,1,0,0] bd) (.seq none .d (.seq (some nm3) .d .d)) (fr2 l0 p1 fA i6) (ap nm2 Kb2) (aw 0 (ap nm1 Kb1) (fun _ _=>none)) RR=sh2 l0 p1 fA i6 (fun y0=>Kb1 (fr1 y0)) (fun y0 y1 y2 y3=>(hid (ct3 Kb1 Kb2)) (fr3 y0 y1 y2 y3)):=by kernel_rfl
theorem P3 (l0 p1 fA i6) (Kb1 Kb2:ae U El):ct3 Kb1 Kb2 (fr3 l0 p1 fA i6)=sh3 l0 p1 fA i6 (fun y0 y1 y2 y3=>Kb2 (fr2 y0 y1 y2 y3)):=by kernel_rfl
noncomputable def f1 (fA:Int):R:=sh1 fA
noncomputable def f3 (k2:Y2) (l0:List Work) (p1:List Slot) (fA:Int) (i6:Int):R:=sh3 l0 p1 fA i6 k2
noncomputable def f2:Nat→Y2
  | 0=>fun _ _ _ _=>none
  | n+1=>fun l0 p1 fA i6=>sh2 l0 p1 fA i6 f1 (f3 (f2 n))
noncomputable def f0 (l:List Work) (p:List Slot):R:=sh0 l p (f2 100000)
theorem T1 (fA):(hid ct1) (fr1 fA)=f1 fA:=by
  refine (congrFun (am _) _).trans <| (P1 fA).trans ?_
  show _=sh1 fA
  rfl
theorem T3 (KL2:ae U El) (k2:Y2) (h2:∀ l0 p1 fA i6,KL2 (fr2 l0 p1 fA i6)=k2 l0 p1 fA i6) (l0 p1 fA i6):(hid (ct3 (hid ct1) KL2)) (fr3 l0 p1 fA i6)=f3 k2 l0 p1 fA i6:=by
  refine (congrFun (am _) _).trans <| (P3 l0 p1 fA i6 (hid ct1) KL2).trans ?_
  show _=sh3 l0 p1 fA i6 k2
  simp only [h2]
theorem T2:∀ (n:Nat),∀ l0 p1 fA i6,it2 (hid ct1) n (fr2 l0 p1 fA i6)=f2 n l0 p1 fA i6:=by
  intro n
  induction n with
  | zero=>intros; rfl
  | succ n ih =>
    intro l0 p1 fA i6
    refine (P2 l0 p1 fA i6 (hid ct1) (it2 (hid ct1) n)).trans ?_
    show _=sh2 l0 p1 fA i6 f1 (f3 (f2 n))
    simp only [T1,T3 (it2 (hid ct1) n) (f2 n) ih]
theorem H2 (l0 p1 fA i6):hid (it2 (hid ct1) 100000) (fr2 l0 p1 fA i6)=f2 100000 l0 p1 fA i6:=(congrFun (am _) _).trans (T2 100000 l0 p1 fA i6)
theorem T0 (l p):ak X bd (.seq none .d (.seq none .d (.seq (some nm1) (.seq none .d (.block (.loop nm2 (.seq none .d (.seq (some nm3) .d .d))))) .d))) (fr0 l p) RR (fun _ _=>none) RR=f0 l p:=by
  refine (P0 l p).trans ?_
  show _=sh0 l p (f2 100000)
  simp only [H2]
theorem run (l p):bg X bd (.seq none .d (.seq none .d (.seq (some nm1) (.seq none .d (.block (.loop nm2 (.seq none .d (.seq (some nm3) .d .d))))) .d))) nmR [4] [] [(.lst .work l),(.lst .slot p)]=f0 l p:=T0 l p
theorem loop (l : List Work) (p : List Slot) (hl : p.length ≤ 90000) (hs : ∀ s ∈ p, inb s.sw l.length = true) : ∀ (n k : Nat) (s : Int), p.length < n + k → k ≤ p.length → f2 n l p s (k : Int) = dK (rcG l p (p.length - k) k s) := by
  intro n
  induction n with
  | zero=>intro i m h1 h2; omega
  | succ n ih =>
    intro k s h1 h2
    show sh2 l p s (k:Int) f1 (f3 (f2 n))=_
    unfold sh2
    by_cases hk:k < p.length
    · have e3 : ∀ z : Int, f3 (f2 n) l p z (k : Int) = f2 n l p z ((k + 1 : Nat) : Int) := fun z => by
        show f2 n l p z (IntKind.wrap .i64 ((k:Int)+1))=_
        rw [bo k (by omega)]
      have hin:inb (Slot.sw (List.getD p k d_slot)) l.length=true:=by rw [al hk]; exact hs _ (List.getElem_mem hk)
      rw [bw (by simp; omega),aZ hk,ac,hin,e3,e3,show p.length - k=(p.length - (k+1))+1 by omega]
      simp only [rcG,rcT]
      cases ilt (0:Int) (IntKind.wrap .i64 (aE l (List.getD p k d_slot) - (List.getD l (Int.toNat (List.getD p k d_slot).sw) aa).wd)) with
      | true=>exact ih (k+1) _ (by omega) hk
      | false=>exact ih (k+1) _ (by omega) hk
    · have : k = p.length := by omega
      subst this
      rw [bp (by simp),Nat.sub_self,bV]
      rfl
theorem f0_eq (l:List Work) (p:List Slot) (h:d3 l p=true):f0 l p=dK (b8 l p):=by
  simp only [d3,Bool.and_eq_true] at h
  exact loop l p (cn h.1) (List.all_eq_true.1 h.2.2) 100000 0 0 (by have:=cn h.1; omega) (by omega)
theorem ok:CtxOk Try.prog X:=aU tab (spC rend.spOk spN) dpN
theorem okM:MOk Try.prog X:=fun g sp h=>by cases h
theorem spec (l:List Work) (p:List Slot) (h:(d3 l p)=true):az Try.prog E 62 [(.lst .work l),(.lst .slot p)] (.int .i64 (b8 l p)) [] :=
  aq ok okM Try.call62 Try.func62 (by kernel_rfl) (by kernel_rfl) (by kernel_rfl) (by show 2≤46; decide) (by decide) (by rfl) ((run l p).trans (f0_eq l p h))
noncomputable def sp:Sp U El:=fun args k=>match args with
  | [.lst .work l,.lst .slot p]=>chk (d3 l p) (k (.int .i64 (b8 l p)) [])
  | _=>none
theorem spOk:SpOk Try.prog E 62 sp where
  det:=fun vs=>by
    unfold sp
    split
    · exact bz _ _ _
    · exact ⟨none,fun _=>rfl⟩
  ok:=fun vs k r h=>by
    unfold sp at h
    split at h
    · obtain ⟨h1, h2⟩ := ab h
      exact ⟨_,_,spec _ _ h1,h2⟩
    · cases h
end rcost
structure VK (l:List Work):Prop where
  v:aQ l 12=true
  ok:okV l=true
  n:l.length≤12
theorem se {l:List Work} (h:(aQ l 12&&(okV l&&nle (List.length l) 12))=true):VK l:=by
  simp only [Bool.and_eq_true] at h
  exact ⟨h.1,h.2.1,cn h.2.2⟩
end Go.Proofs.Ythdklallcljhlaa
