/- The document's greedy plan is the code's. -/
import Derived.Test.YthdklallcljhlaaVU
import Derived.Test.YthdklallcljhlaaVY
namespace Go.Proofs.Ythdklallcljhlaa
set_option linter.unusedSectionVars false
set_option linter.unusedSimpArgs false
set_option linter.unusedVariables false
set_option maxRecDepth 100000
noncomputable def d4 (l:List Work) (a b:Slot):Bool:=ilt a.ss (aE l b)&&ilt b.ss (aE l a)
noncomputable def b9 (l:List Work) (a b:Slot):Int:=bif !(d4 l a b) then 0 else bif a.sc == b.sc then 10 else bif !((List.getD l (Int.toNat a.sw) aa).ws == ([]:List UInt8))&&((List.getD l (Int.toNat a.sw) aa).ws == (List.getD l (Int.toNat b.sw) aa).ws) then 15 else 0
namespace clash
noncomputable def bd:Code:=(Try.f78.body).getD .skip
noncomputable def X:Ctx U El:=⟨E,tds,zeros,eqs,aG [(65,rmeets.sp)],100000,39,aD [],fun _=>none⟩
noncomputable def nmR:Norm U:=⟨[],[6],[],[],[],[],[]⟩
noncomputable def RR:ae U El:=fun st=>aM nmR st (aK [6] [])
noncomputable def nm1:Norm U:=⟨[],[],[],[],[],[],[]⟩
abbrev Y1:=R
noncomputable def fr0 (l:List Work) (a:Slot) (b:Slot):St U El:=⟨[(0,(.lst .work l)),(1,(.agg [(.int .i64 a.sw),(.int .i64 a.sc),(.int .i64 a.ss)])),(2,(.agg [(.int .i64 b.sw),(.int .i64 b.sc),(.int .i64 b.ss)]))],[]⟩
noncomputable def fr1:St U El:=⟨[],[]⟩
noncomputable def sh0 (l:List Work) (a:Slot) (b:Slot) (k1:Y1):R :=
  chk ((inb (Slot.sw a) (List.length l)&&inb (Slot.sw b) (List.length l))) (ah (!((ilt (Slot.ss a) (aE l b)&&ilt (Slot.ss b) (aE l a)))) (some ((.int .i64 (0:Int)),[])) (ah (a.sc == b.sc) (some ((.int .i64 (10:Int)),[])) (chk (inb a.sw (List.length l)) (ah (!(((List.getD l (Int.toNat a.sw) aa).ws) == ([]:List UInt8))) (chk (inb a.sw (List.length l)) (chk (inb b.sw (List.length l)) (ah (((List.getD l (Int.toNat a.sw) aa).ws) == ((List.getD l (Int.toNat b.sw) aa).ws)) (some ((.int .i64 (15:Int)),[])) (k1)))) (k1)))))
noncomputable def sh1:R :=
  some ((.int .i64 (0:Int)),[])
noncomputable def ct1:ae U El:=fun st=>ak X (cdp [1,1,1,1] bd) .d st RR (fun _ _=>none) RR
theorem P0 (l a b):ak X (cdp [] bd) (.seq none .d (.seq none .d (.seq none .d (.seq (some nm1) .d .d)))) (fr0 l a b) RR (fun _ _=>none) RR=sh0 l a b ((hid ct1) (fr1)):=by kernel_rfl
theorem P1:ct1 (fr1)=sh1:=by kernel_rfl
noncomputable def f1:R:=sh1
noncomputable def f0 (l:List Work) (a:Slot) (b:Slot):R:=sh0 l a b f1
theorem T1:(hid ct1) (fr1)=f1:=by
  refine (congrFun (am _) _).trans <| (P1).trans ?_
  show _=sh1
  rfl
theorem T0 (l a b):ak X bd (.seq none .d (.seq none .d (.seq none .d (.seq (some nm1) .d .d)))) (fr0 l a b) RR (fun _ _=>none) RR=f0 l a b:=by
  refine (P0 l a b).trans ?_
  show _=sh0 l a b f1
  simp only [T1]
theorem run (l a b):bg X bd (.seq none .d (.seq none .d (.seq none .d (.seq (some nm1) .d .d)))) nmR [6] [] [(.lst .work l),(.agg [(.int .i64 a.sw),(.int .i64 a.sc),(.int .i64 a.ss)]),(.agg [(.int .i64 b.sw),(.int .i64 b.sc),(.int .i64 b.ss)])]=f0 l a b:=T0 l a b
theorem f0_eq (l:List Work) (a b:Slot) (h:(inb (Slot.sw a) (List.length l)&&inb (Slot.sw b) (List.length l))=true):f0 l a b=dK (b9 l a b):=by
  have h':=h
  rw [Bool.and_eq_true] at h'
  show sh0 l a b f1=_
  unfold sh0 b9 d4
  rw [h,h'.1,h'.2]
  cases (ilt a.ss (aE l b)&&ilt b.ss (aE l a))
  · rfl
  cases (a.sc == b.sc)
  case true=>rfl
  cases ((List.getD l (Int.toNat a.sw) aa).ws == ([]:List UInt8))
  case true=>rfl
  cases ((List.getD l (Int.toNat a.sw) aa).ws == (List.getD l (Int.toNat b.sw) aa).ws)<;>rfl
theorem ok:CtxOk Try.prog X:=aU tab (spC rmeets.spOk spN) dpN
theorem okM:MOk Try.prog X:=fun g sp h=>by cases h
theorem spec (l:List Work) (a:Slot) (b:Slot) (h:((inb (Slot.sw a) (List.length l)&&inb (Slot.sw b) (List.length l)))=true):az Try.prog E 78 [(.lst .work l),(.agg [(.int .i64 a.sw),(.int .i64 a.sc),(.int .i64 a.ss)]),(.agg [(.int .i64 b.sw),(.int .i64 b.sc),(.int .i64 b.ss)])] (.int .i64 (b9 l a b)) [] :=
  aq ok okM Try.call78 Try.func78 (by kernel_rfl) (by kernel_rfl) (by kernel_rfl) (by show 3≤39; decide) (by decide) (by rfl) ((run l a b).trans (f0_eq l a b h))
noncomputable def sp:Sp U El:=fun args k=>match args with
  | [.lst .work l,.agg [.int .i64 a_sw,.int .i64 a_sc,.int .i64 a_ss],.agg [.int .i64 b_sw,.int .i64 b_sc,.int .i64 b_ss]]=>chk ((inb (Slot.sw (⟨a_sw,a_sc,a_ss⟩:Slot)) (List.length l)&&inb (Slot.sw (⟨b_sw,b_sc,b_ss⟩:Slot)) (List.length l))) (k (.int .i64 (b9 l (⟨a_sw,a_sc,a_ss⟩:Slot) (⟨b_sw,b_sc,b_ss⟩:Slot))) [])
  | _=>none
theorem spOk:SpOk Try.prog E 78 sp where
  det:=fun vs=>by
    unfold sp
    split
    · exact bz _ _ _
    · exact ⟨none,fun _=>rfl⟩
  ok:=fun vs k r h=>by
    unfold sp at h
    split at h
    · obtain ⟨h1, h2⟩ := ab h
      exact ⟨_,_,spec _ ⟨_,_,_⟩ ⟨_,_,_⟩ h1,h2⟩
    · cases h
end clash
noncomputable def okP (l:List Work) (pl:List Slot) (w:Int):Bool:=inb w l.length&&(nle pl.length 90000&&(List.all l (fun v=>nle v.wa.length 90000&&(ile 0 v.wh&&ile v.wh 1000))&&List.all pl (fun s=>inb s.sw l.length&&(ile 0 s.ss&&ile s.ss 90000))))
noncomputable def pfG (l:List Work) (pl:List Slot) (q:Nat):Nat→Nat→Int→Int
  | 0,_,s=>s
  | n+1,k,s=>pfG l pl q n (k+1) (bif List.any (List.getD l q aa).wa (bc (List.getD pl k d_slot).sw)&&ilt s (aE l (List.getD pl k d_slot)) then aE l (List.getD pl k d_slot) else s)
noncomputable def pnG (l:List Work) (pl:List Slot) (a:Slot):Nat→Nat→Int→Int
  | 0,_,s=>s
  | n+1,k,s=>pnG l pl a n (k+1) (bif (b9 l a (List.getD pl k d_slot) != 0)&&ilt s (aE l (List.getD pl k d_slot)) then aE l (List.getD pl k d_slot) else s)
noncomputable def plI (l:List Work) (pl:List Slot) (w c:Int):Nat→Int→Int
  | 0,s=>s
  | n+1,s=>bif pnG l pl ⟨w,c,s⟩ pl.length 0 s == s then s else plI l pl w c n (pnG l pl ⟨w,c,s⟩ pl.length 0 s)
noncomputable def sg (l:List Work) (pl:List Slot) (w c:Int):Int:=plI l pl w c 100000 (pfG l pl (Int.toNat w) pl.length 0 0)
noncomputable def ch (l:List Work) (pl:List Slot) (w c:Int):Slot:=⟨w,c,sg l pl w c⟩
structure OP (l:List Work) (pl:List Slot) (q:Nat):Prop where
  hq:q < l.length
  pn:pl.length≤90000
  wa:(List.getD l q aa).wa.length≤90000
  sw:∀ s∈pl,inb s.sw l.length=true
  en:∀ s∈pl,0≤s.ss∧s.ss≤90000∧aE l s=s.ss+(List.getD l (Int.toNat s.sw) aa).wh∧0≤aE l s∧aE l s≤91000
theorem sh {l:List Work} {pl:List Slot} {w:Int} (h:okP l pl w=true):∃ q:Nat,w=(q:Int)∧OP l pl q:=by
  simp only [okP,Bool.and_eq_true] at h
  obtain ⟨h1,h2,h3,h4⟩:=h
  simp only [inb,Bool.and_eq_true] at h1
  obtain ⟨q,rfl⟩:=Int.eq_ofNat_of_zero_le (b7 h1.1)
  have hq:q < l.length:=by have:=dJ h1.2; simp at this; omega
  have g3:=List.all_eq_true.1 h3
  have g4:=List.all_eq_true.1 h4
  have m3:=g3 _ (List.getElem_mem hq)
  simp only [Bool.and_eq_true] at m3
  refine ⟨q,rfl,hq,cn h2,by rw [al hq]; exact cn m3.1,fun s hs => ?_,fun s hs => ?_⟩
  · have := g4 s hs
    rw [Bool.and_eq_true] at this
    exact this.1
  · have h5 := g4 s hs
    simp only [Bool.and_eq_true] at h5
    obtain ⟨h6,h7,h8⟩:=h5
    have h7:=b7 h7; have h8:=b7 h8
    simp only [inb,Bool.and_eq_true] at h6
    obtain ⟨u,hu⟩:=Int.eq_ofNat_of_zero_le (b7 h6.1)
    have hul:u < l.length:=by have:=dJ h6.2; rw [hu] at this; simp at this; omega
    have m4:=g3 _ (List.getElem_mem hul)
    simp only [Bool.and_eq_true] at m4
    have a1:=b7 m4.2.1; have a2:=b7 m4.2.2
    have e:aE l s=s.ss+(List.getD l (Int.toNat s.sw) aa).wh:=by
      unfold aE
      rw [hu,ac,al hul]
      exact bU (by omega) (by omega)
    have e2:(List.getD l (Int.toNat s.sw) aa).wh=l[u].wh:=by rw [hu,ac,al hul]
    refine ⟨h7,h8,e,?_,?_⟩<;>rw [e,e2]<;>omega
theorem n5 (l : List Work) (pl : List Slot) (a : Slot) (hen : ∀ s ∈ pl, aE l s ≤ 91000) : ∀ (n k : Nat) (s : Int), k + n = pl.length → s ≤ pnG l pl a n k s ∧ (s ≤ 91000 → pnG l pl a n k s ≤ 91000) ∧ (pnG l pl a n k s = s ∨ ∃ b ∈ pl, b9 l a b ≠ 0 ∧ pnG l pl a n k s = aE l b) ∧ ∀ j, k ≤ j → j < pl.length → b9 l a (List.getD pl j d_slot) ≠ 0 → aE l (List.getD pl j d_slot) ≤ pnG l pl a n k s := by
  intro n
  induction n with
  | zero=>intro k s hk; exact ⟨Int.le_refl _,fun h=>h,.inl rfl,fun j h1 h2=>by omega⟩
  | succ n ih =>
    intro k s hk
    simp only [pnG]
    have hkl:k < pl.length:=by omega
    have hmem:List.getD pl k d_slot∈pl:=by rw [al hkl]; exact List.getElem_mem _
    cases hb:((b9 l a (List.getD pl k d_slot) != 0)&&ilt s (aE l (List.getD pl k d_slot))) with
    | true =>
      rw [cond_true]
      rw [Bool.and_eq_true] at hb
      have hlt:=dJ hb.2
      have hne:b9 l a (List.getD pl k d_slot)≠0:=by simpa using hb.1
      obtain ⟨a1,a2,a3,a4⟩:=ih (k+1) (aE l (List.getD pl k d_slot)) (by omega)
      refine ⟨by omega,fun _=>a2 (hen _ hmem),?_,fun j h1 h2 h3 => ?_⟩
      · rcases a3 with e | e
        · exact .inr ⟨_,hmem,hne,e⟩
        · exact .inr e
      · by_cases e : j = k
        · subst e; exact a1
        · exact a4 j (by omega) h2 h3
    | false =>
      rw [cond_false]
      obtain ⟨a1,a2,a3,a4⟩:=ih (k+1) s (by omega)
      refine ⟨a1,a2,a3,fun j h1 h2 h3 => ?_⟩
      by_cases e:j=k
      · subst e
        rw [Bool.and_eq_false_iff] at hb
        rcases hb with hb | hb
        · exact absurd (by simpa using hb) h3
        · have:=iI hb; omega
      · exact a4 j (by omega) h2 h3
theorem rE {l : List Work} {pl : List Slot} (q : Nat) (hen : ∀ s ∈ pl, aE l s ≤ 91000) : ∀ (n k : Nat) (s : Int), k + n = pl.length → s ≤ pfG l pl q n k s ∧ (s ≤ 91000 → pfG l pl q n k s ≤ 91000) ∧ (∀ m : Int, s ≤ m → (∀ j, k ≤ j → j < pl.length → List.any (List.getD l q aa).wa (bc (List.getD pl j d_slot).sw) = true → aE l (List.getD pl j d_slot) ≤ m) → pfG l pl q n k s ≤ m) ∧ ∀ j, k ≤ j → j < pl.length → List.any (List.getD l q aa).wa (bc (List.getD pl j d_slot).sw) = true → aE l (List.getD pl j d_slot) ≤ pfG l pl q n k s := by
  intro n
  induction n with
  | zero=>intro k s hk; exact ⟨Int.le_refl _,fun h=>h,fun m hm _=>hm,fun j h1 h2=>by omega⟩
  | succ n ih =>
    intro k s hk
    simp only [pfG]
    have hkl:k < pl.length:=by omega
    have hmem:List.getD pl k d_slot∈pl:=by rw [al hkl]; exact List.getElem_mem _
    cases hb:(List.any (List.getD l q aa).wa (bc (List.getD pl k d_slot).sw)&&ilt s (aE l (List.getD pl k d_slot))) with
    | true =>
      rw [cond_true]
      rw [Bool.and_eq_true] at hb
      have hlt:=dJ hb.2
      obtain ⟨a1,a2,a3,a4⟩:=ih (k+1) (aE l (List.getD pl k d_slot)) (by omega)
      refine ⟨by omega,fun _=>a2 (hen _ hmem),fun m hm h=>a3 m (h k (Nat.le_refl _) hkl hb.1) fun j h1 h2=>h j (by omega) h2,fun j h1 h2 h3 => ?_⟩
      by_cases e:j=k
      · subst e; exact a1
      · exact a4 j (by omega) h2 h3
    | false =>
      rw [cond_false]
      obtain ⟨a1,a2,a3,a4⟩:=ih (k+1) s (by omega)
      refine ⟨a1,a2,fun m hm h=>a3 m hm fun j h1 h2=>h j (by omega) h2,fun j h1 h2 h3 => ?_⟩
      by_cases e:j=k
      · subst e
        rw [h3,Bool.true_and] at hb
        have:=iI hb; omega
      · exact a4 j (by omega) h2 h3
noncomputable def rF (s:Slot):R:=some ((.agg [(.int .i64 s.sw),(.int .i64 s.sc),(.int .i64 s.ss)]),[])
namespace rplace
noncomputable def bd:Code:=(Try.f59.body).getD .skip
noncomputable def X:Ctx U El:=⟨E,tds,zeros,eqs,aG [(64,rhas.sp),(77,rend.sp),(78,clash.sp)],100000,90,aD [],fun _=>none⟩
noncomputable def nmR:Norm U:=⟨[],[90],[],[],[],[],[]⟩
noncomputable def RR:ae U El:=fun st=>ca X 90 [(8,39)] 90 st fun st=>aM nmR st (aK [90] [])
noncomputable def nm1:Norm U:=⟨[],[0,1,8,9],[8,9],[],[],[],[]⟩
noncomputable def nm2:Norm U:=⟨[],[0,1,2,8,9,10],[8,9],[],[],[],[]⟩
noncomputable def nm3:Norm U:=⟨[],[0,1,2,8,9,10],[8,9],[],[],[],[]⟩
noncomputable def nm4:Norm U:=⟨[],[0,1,8,9],[8,9],[],[],[],[]⟩
noncomputable def nm5:Norm U:=⟨[],[0,1,8,9,11],[8,9],[],[],[],[]⟩
noncomputable def nm6:Norm U:=⟨[],[0,1,8,9,11,12],[8,9],[],[],[],[]⟩
noncomputable def nm7:Norm U:=⟨[],[0,1,8,9,11,12],[8,9],[],[],[],[]⟩
abbrev Y1:=(List Work)→(List Slot)→Int→Int→Int→Int→Int→Int→R
abbrev Y2:=(List Work)→(List Slot)→Int→Int→Int→Int→Int→Int→Int→Int→R
abbrev Y3:=(List Work)→(List Slot)→Int→Int→Int→Int→Int→Int→Int→Int→R
abbrev Y4:=(List Work)→(List Slot)→Int→Int→Int→Int→Int→Int→R
abbrev Y5:=(List Work)→(List Slot)→Int→Int→Int→Int→Int→Int→Int→R
abbrev Y6:=(List Work)→(List Slot)→Int→Int→Int→Int→Int→Int→Int→Int→R
abbrev Y7:=(List Work)→(List Slot)→Int→Int→Int→Int→Int→Int→Int→Int→R
noncomputable def fr0 (l:List Work) (pl:List Slot) (w:Int) (c:Int):St U El:=⟨[(0,(.lst .work l)),(1,(.lst .slot pl)),(2,(.int .i64 w)),(3,(.int .i64 c))],[]⟩
noncomputable def fr1 (l0:List Work) (aA:List Slot) (eA:Int) (fA:Int) (gA:Int) (cA:Int) (dA:Int) (bA:Int):St U El:=⟨[(0,(.lst .work l0)),(1,(.lst .slot aA)),(8,(.ptr 8 0)),(9,(.ptr 9 0))],[(8,(.box 0 [(.int .i64 eA),(.int .i64 fA),(.int .i64 gA)])),(9,(.box 0 [(.int .i64 cA),(.int .i64 dA),(.int .i64 bA)]))]⟩
noncomputable def fr2 (l0:List Work) (aA:List Slot) (iA:Int) (kA:Int) (eA:Int) (fA:Int) (gA:Int) (cA:Int) (dA:Int) (bA:Int):St U El:=⟨[(0,(.lst .work l0)),(1,(.lst .slot aA)),(2,(.int .i64 iA)),(8,(.ptr 8 0)),(9,(.ptr 9 0)),(10,(.int .i64 kA))],[(8,(.box 0 [(.int .i64 eA),(.int .i64 fA),(.int .i64 gA)])),(9,(.box 0 [(.int .i64 cA),(.int .i64 dA),(.int .i64 bA)]))]⟩
noncomputable def fr3 (l0:List Work) (aA:List Slot) (iA:Int) (kA:Int) (eA:Int) (fA:Int) (gA:Int) (cA:Int) (dA:Int) (bA:Int):St U El:=⟨[(0,(.lst .work l0)),(1,(.lst .slot aA)),(2,(.int .i64 iA)),(8,(.ptr 8 0)),(9,(.ptr 9 0)),(10,(.int .i64 kA))],[(8,(.box 0 [(.int .i64 eA),(.int .i64 fA),(.int .i64 gA)])),(9,(.box 0 [(.int .i64 cA),(.int .i64 dA),(.int .i64 bA)]))]⟩
noncomputable def fr4 (l0:List Work) (aA:List Slot) (eA:Int) (fA:Int) (gA:Int) (cA:Int) (dA:Int) (bA:Int):St U El:=⟨[(0,(.lst .work l0)),(1,(.lst .slot aA)),(8,(.ptr 8 0)),(9,(.ptr 9 0))],[(8,(.box 0 [(.int .i64 eA),(.int .i64 fA),(.int .i64 gA)])),(9,(.box 0 [(.int .i64 cA),(.int .i64 dA),(.int .i64 bA)]))]⟩
noncomputable def fr5 (l0:List Work) (aA:List Slot) (hA:Int) (eA:Int) (fA:Int) (gA:Int) (cA:Int) (dA:Int) (bA:Int):St U El:=⟨[(0,(.lst .work l0)),(1,(.lst .slot aA)),(8,(.ptr 8 0)),(9,(.ptr 9 0)),(11,(.int .i64 hA))],[(8,(.box 0 [(.int .i64 eA),(.int .i64 fA),(.int .i64 gA)])),(9,(.box 0 [(.int .i64 cA),(.int .i64 dA),(.int .i64 bA)]))]⟩
noncomputable def fr6 (l0:List Work) (aA:List Slot) (hA:Int) (jA:Int) (eA:Int) (fA:Int) (gA:Int) (cA:Int) (dA:Int) (bA:Int):St U El:=⟨[(0,(.lst .work l0)),(1,(.lst .slot aA)),(8,(.ptr 8 0)),(9,(.ptr 9 0)),(11,(.int .i64 hA)),(12,(.int .i64 jA))],[(8,(.box 0 [(.int .i64 eA),(.int .i64 fA),(.int .i64 gA)])),(9,(.box 0 [(.int .i64 cA),(.int .i64 dA),(.int .i64 bA)]))]⟩
noncomputable def fr7 (l0:List Work) (aA:List Slot) (hA:Int) (jA:Int) (eA:Int) (fA:Int) (gA:Int) (cA:Int) (dA:Int) (bA:Int):St U El:=⟨[(0,(.lst .work l0)),(1,(.lst .slot aA)),(8,(.ptr 8 0)),(9,(.ptr 9 0)),(11,(.int .i64 hA)),(12,(.int .i64 jA))],[(8,(.box 0 [(.int .i64 eA),(.int .i64 fA),(.int .i64 gA)])),(9,(.box 0 [(.int .i64 cA),(.int .i64 dA),(.int .i64 bA)]))]⟩
noncomputable def sh0 (l:List Work) (pl:List Slot) (w:Int) (c:Int) (k2:Y2):R :=
  k2 l pl w (0:Int) (0:Int) (0:Int) (0:Int) w c (0:Int)
noncomputable def sh1 (l0:List Work) (aA:List Slot) (eA:Int) (fA:Int) (gA:Int) (cA:Int) (dA:Int) (bA:Int) (k4:Y4):R :=
  k4 l0 aA eA fA gA cA dA bA
noncomputable def sh2 (l0:List Work) (aA:List Slot) (iA:Int) (kA:Int) (eA:Int) (fA:Int) (gA:Int) (cA:Int) (dA:Int) (bA:Int) (k1:Y1) (k3:Y3):R :=
  ah (ilt kA (Int.ofNat (List.length aA))) (chk (inb iA (List.length l0)) (chk (inb kA (List.length aA)) (chk (nle (List.length ((List.getD l0 (Int.toNat iA) aa).wa)) 90000) (ah (List.any ((List.getD l0 (Int.toNat iA) aa).wa) (bc ((List.getD aA (Int.toNat kA) d_slot).sw))) (chk (inb kA (List.length aA)) (chk (inb (Slot.sw (List.getD aA (Int.toNat kA) d_slot)) (List.length l0)) (ah (ilt bA (aE l0 (List.getD aA (Int.toNat kA) d_slot))) (chk (inb kA (List.length aA)) (chk (inb (Slot.sw (List.getD aA (Int.toNat kA) d_slot)) (List.length l0)) (k3 l0 aA iA kA eA fA gA cA dA (aE l0 (List.getD aA (Int.toNat kA) d_slot))))) (k3 l0 aA iA kA eA fA gA cA dA bA)))) (k3 l0 aA iA kA eA fA gA cA dA bA))))) (k1 l0 aA eA fA gA cA dA bA)
noncomputable def sh3 (l0:List Work) (aA:List Slot) (iA:Int) (kA:Int) (eA:Int) (fA:Int) (gA:Int) (cA:Int) (dA:Int) (bA:Int) (k2:Y2):R :=
  k2 l0 aA iA (IntKind.wrap .i64 (kA+(1:Int))) eA fA gA cA dA bA
noncomputable def sh4 (l0:List Work) (aA:List Slot) (eA:Int) (fA:Int) (gA:Int) (cA:Int) (dA:Int) (bA:Int) (k6:Y6):R :=
  k6 l0 aA bA (0:Int) eA fA gA cA dA bA
noncomputable def sh5 (l0:List Work) (aA:List Slot) (hA:Int) (eA:Int) (fA:Int) (gA:Int) (cA:Int) (dA:Int) (bA:Int) (k4:Y4):R :=
  ah (hA == bA) (some ((.agg [(.int .i64 cA),(.int .i64 dA),(.int .i64 bA)]),[])) (k4 l0 aA eA fA gA cA dA hA)
noncomputable def sh6 (l0:List Work) (aA:List Slot) (hA:Int) (jA:Int) (eA:Int) (fA:Int) (gA:Int) (cA:Int) (dA:Int) (bA:Int) (k5:Y5) (k7:Y7):R :=
  ah (ilt jA (Int.ofNat (List.length aA))) (chk (inb jA (List.length aA)) (chk ((inb (Slot.sw (⟨cA,dA,bA⟩:Slot)) (List.length l0)&&inb (Slot.sw (List.getD aA (Int.toNat jA) d_slot)) (List.length l0))) (ah ((b9 l0 (⟨cA,dA,bA⟩:Slot) (List.getD aA (Int.toNat jA) d_slot)) != (0:Int)) (chk (inb jA (List.length aA)) (chk (inb (Slot.sw (List.getD aA (Int.toNat jA) d_slot)) (List.length l0)) (ah (ilt hA (aE l0 (List.getD aA (Int.toNat jA) d_slot))) (chk (inb jA (List.length aA)) (chk (inb (Slot.sw (List.getD aA (Int.toNat jA) d_slot)) (List.length l0)) (k7 l0 aA (aE l0 (List.getD aA (Int.toNat jA) d_slot)) jA eA fA gA cA dA bA))) (k7 l0 aA hA jA eA fA gA cA dA bA)))) (k7 l0 aA hA jA eA fA gA cA dA bA)))) (k5 l0 aA hA eA fA gA cA dA bA)
noncomputable def sh7 (l0:List Work) (aA:List Slot) (hA:Int) (jA:Int) (eA:Int) (fA:Int) (gA:Int) (cA:Int) (dA:Int) (bA:Int) (k6:Y6):R :=
  k6 l0 aA hA (IntKind.wrap .i64 (jA+(1:Int))) eA fA gA cA dA bA
noncomputable def it2 (Kb1:ae U El) (n:Nat):ae U El:=bL nm2 (fun st' K'=>ak X (cdp [1,1,0,1,0,0] bd) (.seq none .d (.seq (some nm3) .d .d)) st' K' (aw 0 (ap nm1 Kb1) (fun _ _=>none)) RR) n
noncomputable def it4 (n:Nat):ae U El:=bL nm4 (fun st' K'=>ak X (cdp [1,1,1,0,0] bd) (.block (.seq none .d (.seq (some nm5) (.seq none .d (.block (.loop nm6 (.seq none .d (.seq (some nm7) .d .d))))) .d))) st' K' (aw 2 RR (fun _ _=>none)) RR) n
noncomputable def it6 (Kb4 Kb5:ae U El) (n:Nat):ae U El:=bL nm6 (fun st' K'=>ak X (cdp [1,1,1,0,0,0,1,0,1,0,0] bd) (.seq none .d (.seq (some nm7) .d .d)) st' K' (aw 4 (ap nm5 Kb5) (aw 3 (ap nm4 Kb4) (aw 2 RR (fun _ _=>none)))) RR) n
noncomputable def ct1:ae U El:=fun st=>ak X (cdp [1,1,1] bd) (.block (.loop nm4 (.block (.seq none .d (.seq (some nm5) (.seq none .d (.block (.loop nm6 (.seq none .d (.seq (some nm7) .d .d))))) .d))))) st RR (fun _ _=>none) RR
noncomputable def ct3 (Kb1 Kb2:ae U El):ae U El:=fun st=>ak X (cdp [1,1,0,1,0,0,1,1] bd) .d st (ap nm2 Kb2) (aw 0 (ap nm1 Kb1) (fun _ _=>none)) RR
noncomputable def ct5 (Kb4:ae U El):ae U El:=fun st=>ak X (cdp [1,1,1,0,0,0,1,1] bd) .d st (ap nm4 Kb4) (aw 3 (ap nm4 Kb4) (aw 2 RR (fun _ _=>none))) RR
noncomputable def ct7 (Kb4 Kb5 Kb6:ae U El):ae U El:=fun st=>ak X (cdp [1,1,1,0,0,0,1,0,1,0,0,1,1] bd) .d st (ap nm6 Kb6) (aw 4 (ap nm5 Kb5) (aw 3 (ap nm4 Kb4) (aw 2 RR (fun _ _=>none)))) RR
theorem P0 (l pl w c):ak X (cdp [] bd) (.seq none .d (.seq none .d (.seq (some nm1) (.seq none .d (.block (.loop nm2 (.seq none .d (.seq (some nm3) .d .d))))) (.block (.loop nm4 (.block (.seq none .d (.seq (some nm5) (.seq none .d (.block (.loop nm6 (.seq none .d (.seq (some nm7) .d .d))))) .d)))))))) (fr0 l pl w c) RR (fun _ _=>none) RR=sh0 l pl w c (fun y0 y1 y2 y3 y4 y5 y6 y7 y8 y9=>(hid (it2 (hid ct1) 100000)) (fr2 y0 y1 y2 y3 y4 y5 y6 y7 y8 y9)):=by kernel_rfl
theorem P1 (l0 aA eA fA gA cA dA bA):ct1 (fr1 l0 aA eA fA gA cA dA bA)=sh1 l0 aA eA fA gA cA dA bA (fun y0 y1 y2 y3 y4 y5 y6 y7=>(hid (it4 100000)) (fr4 y0 y1 y2 y3 y4 y5 y6 y7)):=by kernel_rfl
theorem P2 (l0 aA iA kA eA fA gA cA dA bA) (Kb1 Kb2:ae U El):ak X (cdp [1,1,0,1,0,0] bd) (.seq none .d (.seq (some nm3) .d .d)) (fr2 l0 aA iA kA eA fA gA cA dA bA) (ap nm2 Kb2) (aw 0 (ap nm1 Kb1) (fun _ _=>none)) RR=sh2 l0 aA iA kA eA fA gA cA dA bA (fun y0 y1 y2 y3 y4 y5 y6 y7=>Kb1 (fr1 y0 y1 y2 y3 y4 y5 y6 y7)) (fun y0 y1 y2 y3 y4 y5 y6 y7 y8 y9=>(hid (ct3 Kb1 Kb2)) (fr3 y0 y1 y2 y3 y4 y5 y6 y7 y8 y9)):=by kernel_rfl
theorem P3 (l0 aA iA kA eA fA gA cA dA bA) (Kb1 Kb2:ae U El):ct3 Kb1 Kb2 (fr3 l0 aA iA kA eA fA gA cA dA bA)=sh3 l0 aA iA kA eA fA gA cA dA bA (fun y0 y1 y2 y3 y4 y5 y6 y7 y8 y9=>Kb2 (fr2 y0 y1 y2 y3 y4 y5 y6 y7 y8 y9)):=by kernel_rfl
theorem P4 (l0 aA eA fA gA cA dA bA) (Kb4:ae U El):ak X (cdp [1,1,1,0,0] bd) (.block (.seq none .d (.seq (some nm5) (.seq none .d (.block (.loop nm6 (.seq none .d (.seq (some nm7) .d .d))))) .d))) (fr4 l0 aA eA fA gA cA dA bA) (ap nm4 Kb4) (aw 2 RR (fun _ _=>none)) RR=sh4 l0 aA eA fA gA cA dA bA (fun y0 y1 y2 y3 y4 y5 y6 y7 y8 y9=>(hid (it6 Kb4 (hid (ct5 Kb4)) 100000)) (fr6 y0 y1 y2 y3 y4 y5 y6 y7 y8 y9)):=by kernel_rfl
theorem P5 (l0 aA hA eA fA gA cA dA bA) (Kb4:ae U El):ct5 Kb4 (fr5 l0 aA hA eA fA gA cA dA bA)=sh5 l0 aA hA eA fA gA cA dA bA (fun y0 y1 y2 y3 y4 y5 y6 y7=>Kb4 (fr4 y0 y1 y2 y3 y4 y5 y6 y7)):=by kernel_rfl
theorem P6 (l0 aA hA jA eA fA gA cA dA bA) (Kb4 Kb5 Kb6:ae U El):ak X (cdp [1,1,1,0,0,0,1,0,1,0,0] bd) (.seq none .d (.seq (some nm7) .d .d)) (fr6 l0 aA hA jA eA fA gA cA dA bA) (ap nm6 Kb6) (aw 4 (ap nm5 Kb5) (aw 3 (ap nm4 Kb4) (aw 2 RR (fun _ _=>none)))) RR=sh6 l0 aA hA jA eA fA gA cA dA bA (fun y0 y1 y2 y3 y4 y5 y6 y7 y8=>Kb5 (fr5 y0 y1 y2 y3 y4 y5 y6 y7 y8)) (fun y0 y1 y2 y3 y4 y5 y6 y7 y8 y9=>(hid (ct7 Kb4 Kb5 Kb6)) (fr7 y0 y1 y2 y3 y4 y5 y6 y7 y8 y9)):=by kernel_rfl
theorem P7 (l0 aA hA jA eA fA gA cA dA bA) (Kb4 Kb5 Kb6:ae U El):ct7 Kb4 Kb5 Kb6 (fr7 l0 aA hA jA eA fA gA cA dA bA)=sh7 l0 aA hA jA eA fA gA cA dA bA (fun y0 y1 y2 y3 y4 y5 y6 y7 y8 y9=>Kb6 (fr6 y0 y1 y2 y3 y4 y5 y6 y7 y8 y9)):=by kernel_rfl
noncomputable def f5 (k4:Y4) (l0:List Work) (aA:List Slot) (hA:Int) (eA:Int) (fA:Int) (gA:Int) (cA:Int) (dA:Int) (bA:Int):R:=sh5 l0 aA hA eA fA gA cA dA bA k4
noncomputable def f7 (k4:Y4) (k6:Y6) (l0:List Work) (aA:List Slot) (hA:Int) (jA:Int) (eA:Int) (fA:Int) (gA:Int) (cA:Int) (dA:Int) (bA:Int):R:=sh7 l0 aA hA jA eA fA gA cA dA bA k6
noncomputable def f6 (k4:Y4):Nat→Y6
  | 0=>fun _ _ _ _ _ _ _ _ _ _=>none
  | n+1=>fun l0 aA hA jA eA fA gA cA dA bA=>sh6 l0 aA hA jA eA fA gA cA dA bA (f5 k4) (f7 k4 (f6 k4 n))
noncomputable def f4:Nat→Y4
  | 0=>fun _ _ _ _ _ _ _ _=>none
  | n+1=>fun l0 aA eA fA gA cA dA bA=>sh4 l0 aA eA fA gA cA dA bA (f6 (f4 n) 100000)
noncomputable def f1 (l0:List Work) (aA:List Slot) (eA:Int) (fA:Int) (gA:Int) (cA:Int) (dA:Int) (bA:Int):R:=sh1 l0 aA eA fA gA cA dA bA (f4 100000)
noncomputable def f3 (k2:Y2) (l0:List Work) (aA:List Slot) (iA:Int) (kA:Int) (eA:Int) (fA:Int) (gA:Int) (cA:Int) (dA:Int) (bA:Int):R:=sh3 l0 aA iA kA eA fA gA cA dA bA k2
noncomputable def f2:Nat→Y2
  | 0=>fun _ _ _ _ _ _ _ _ _ _=>none
  | n+1=>fun l0 aA iA kA eA fA gA cA dA bA=>sh2 l0 aA iA kA eA fA gA cA dA bA f1 (f3 (f2 n))
noncomputable def f0 (l:List Work) (pl:List Slot) (w:Int) (c:Int):R:=sh0 l pl w c (f2 100000)
theorem T5 (KL4:ae U El) (k4:Y4) (h4:∀ l0 aA eA fA gA cA dA bA,KL4 (fr4 l0 aA eA fA gA cA dA bA)=k4 l0 aA eA fA gA cA dA bA) (l0 aA hA eA fA gA cA dA bA):(hid (ct5 KL4)) (fr5 l0 aA hA eA fA gA cA dA bA)=f5 k4 l0 aA hA eA fA gA cA dA bA:=by
  refine (congrFun (am _) _).trans <| (P5 l0 aA hA eA fA gA cA dA bA KL4).trans ?_
  show _=sh5 l0 aA hA eA fA gA cA dA bA k4
  simp only [h4]
theorem T7 (KL4:ae U El) (KL6:ae U El) (k4:Y4) (k6:Y6) (h4:∀ l0 aA eA fA gA cA dA bA,KL4 (fr4 l0 aA eA fA gA cA dA bA)=k4 l0 aA eA fA gA cA dA bA) (h6:∀ l0 aA hA jA eA fA gA cA dA bA,KL6 (fr6 l0 aA hA jA eA fA gA cA dA bA)=k6 l0 aA hA jA eA fA gA cA dA bA) (l0 aA hA jA eA fA gA cA dA bA):(hid (ct7 KL4 (hid (ct5 KL4)) KL6)) (fr7 l0 aA hA jA eA fA gA cA dA bA)=f7 k4 k6 l0 aA hA jA eA fA gA cA dA bA:=by
  refine (congrFun (am _) _).trans <| (P7 l0 aA hA jA eA fA gA cA dA bA KL4 (hid (ct5 KL4)) KL6).trans ?_
  show _=sh7 l0 aA hA jA eA fA gA cA dA bA k6
  simp only [h6]
theorem T6 (KL4:ae U El) (k4:Y4) (h4:∀ l0 aA eA fA gA cA dA bA,KL4 (fr4 l0 aA eA fA gA cA dA bA)=k4 l0 aA eA fA gA cA dA bA):∀ (n:Nat),∀ l0 aA hA jA eA fA gA cA dA bA,it6 KL4 (hid (ct5 KL4)) n (fr6 l0 aA hA jA eA fA gA cA dA bA)=f6 k4 n l0 aA hA jA eA fA gA cA dA bA:=by
  intro n
  induction n with
  | zero=>intros; rfl
  | succ n ih =>
    intro l0 aA hA jA eA fA gA cA dA bA
    refine (P6 l0 aA hA jA eA fA gA cA dA bA KL4 (hid (ct5 KL4)) (it6 KL4 (hid (ct5 KL4)) n)).trans ?_
    show _=sh6 l0 aA hA jA eA fA gA cA dA bA (f5 k4) (f7 k4 (f6 k4 n))
    simp only [T5 KL4 k4 h4,T7 KL4 (it6 KL4 (hid (ct5 KL4)) n) k4 (f6 k4 n) h4 ih]
theorem H6 (KL4:ae U El) (k4:Y4) (h4:∀ l0 aA eA fA gA cA dA bA,KL4 (fr4 l0 aA eA fA gA cA dA bA)=k4 l0 aA eA fA gA cA dA bA) (l0 aA hA jA eA fA gA cA dA bA):hid (it6 KL4 (hid (ct5 KL4)) 100000) (fr6 l0 aA hA jA eA fA gA cA dA bA)=f6 k4 100000 l0 aA hA jA eA fA gA cA dA bA:=(congrFun (am _) _).trans (T6 KL4 k4 h4 100000 l0 aA hA jA eA fA gA cA dA bA)
theorem T4:∀ (n:Nat),∀ l0 aA eA fA gA cA dA bA,it4 n (fr4 l0 aA eA fA gA cA dA bA)=f4 n l0 aA eA fA gA cA dA bA:=by
  intro n
  induction n with
  | zero=>intros; rfl
  | succ n ih =>
    intro l0 aA eA fA gA cA dA bA
    refine (P4 l0 aA eA fA gA cA dA bA (it4 n)).trans ?_
    show _=sh4 l0 aA eA fA gA cA dA bA (f6 (f4 n) 100000)
    simp only [H6 (it4 n) (f4 n) ih]
theorem H4 (l0 aA eA fA gA cA dA bA):hid (it4 100000) (fr4 l0 aA eA fA gA cA dA bA)=f4 100000 l0 aA eA fA gA cA dA bA:=(congrFun (am _) _).trans (T4 100000 l0 aA eA fA gA cA dA bA)
theorem T1 (l0 aA eA fA gA cA dA bA):(hid ct1) (fr1 l0 aA eA fA gA cA dA bA)=f1 l0 aA eA fA gA cA dA bA:=by
  refine (congrFun (am _) _).trans <| (P1 l0 aA eA fA gA cA dA bA).trans ?_
  show _=sh1 l0 aA eA fA gA cA dA bA (f4 100000)
  simp only [H4]
theorem T3 (KL2:ae U El) (k2:Y2) (h2:∀ l0 aA iA kA eA fA gA cA dA bA,KL2 (fr2 l0 aA iA kA eA fA gA cA dA bA)=k2 l0 aA iA kA eA fA gA cA dA bA) (l0 aA iA kA eA fA gA cA dA bA):(hid (ct3 (hid ct1) KL2)) (fr3 l0 aA iA kA eA fA gA cA dA bA)=f3 k2 l0 aA iA kA eA fA gA cA dA bA:=by
  refine (congrFun (am _) _).trans <| (P3 l0 aA iA kA eA fA gA cA dA bA (hid ct1) KL2).trans ?_
  show _=sh3 l0 aA iA kA eA fA gA cA dA bA k2
  simp only [h2]
theorem T2:∀ (n:Nat),∀ l0 aA iA kA eA fA gA cA dA bA,it2 (hid ct1) n (fr2 l0 aA iA kA eA fA gA cA dA bA)=f2 n l0 aA iA kA eA fA gA cA dA bA:=by
  intro n
  induction n with
  | zero=>intros; rfl
  | succ n ih =>
    intro l0 aA iA kA eA fA gA cA dA bA
    refine (P2 l0 aA iA kA eA fA gA cA dA bA (hid ct1) (it2 (hid ct1) n)).trans ?_
    show _=sh2 l0 aA iA kA eA fA gA cA dA bA f1 (f3 (f2 n))
    simp only [T1,T3 (it2 (hid ct1) n) (f2 n) ih]
theorem H2 (l0 aA iA kA eA fA gA cA dA bA):hid (it2 (hid ct1) 100000) (fr2 l0 aA iA kA eA fA gA cA dA bA)=f2 100000 l0 aA iA kA eA fA gA cA dA bA:=(congrFun (am _) _).trans (T2 100000 l0 aA iA kA eA fA gA cA dA bA)
theorem T0 (l pl w c):ak X bd (.seq none .d (.seq none .d (.seq (some nm1) (.seq none .d (.block (.loop nm2 (.seq none .d (.seq (some nm3) .d .d))))) (.block (.loop nm4 (.block (.seq none .d (.seq (some nm5) (.seq none .d (.block (.loop nm6 (.seq none .d (.seq (some nm7) .d .d))))) .d)))))))) (fr0 l pl w c) RR (fun _ _=>none) RR=f0 l pl w c:=by
  refine (P0 l pl w c).trans ?_
  show _=sh0 l pl w c (f2 100000)
  simp only [H2]
theorem run (l pl w c):pm X bd (.seq none .d (.seq none .d (.seq (some nm1) (.seq none .d (.block (.loop nm2 (.seq none .d (.seq (some nm3) .d .d))))) (.block (.loop nm4 (.block (.seq none .d (.seq (some nm5) (.seq none .d (.block (.loop nm6 (.seq none .d (.seq (some nm7) .d .d))))) .d)))))))) nmR [(8,39)] [90] [] [(.lst .work l),(.lst .slot pl),(.int .i64 w),(.int .i64 c)]=f0 l pl w c:=T0 l pl w c
theorem firstLoop (l : List Work) (pl : List Slot) (q : Nat) (h : OP l pl q) (c z0 z1 z2 : Int) : ∀ (n k : Nat) (s : Int), pl.length < n + k → k ≤ pl.length → f2 n l pl (q : Int) (k : Int) z0 z1 z2 (q : Int) c s = f1 l pl z0 z1 z2 (q : Int) c (pfG l pl q (pl.length - k) k s) := by
  have hpn:=h.pn
  intro n
  induction n with
  | zero=>intro k s h1 h2; omega
  | succ n ih =>
    intro k s h1 h2
    show sh2 l pl (q:Int) (k:Int) z0 z1 z2 (q:Int) c s f1 (f3 (f2 n))=_
    unfold sh2
    by_cases hk:k < pl.length
    · have e3 : ∀ z : Int, f3 (f2 n) l pl (q : Int) (k : Int) z0 z1 z2 (q : Int) c z = f2 n l pl (q : Int) ((k + 1 : Nat) : Int) z0 z1 z2 (q : Int) c z := fun z => by
        show f2 n l pl (q:Int) (IntKind.wrap .i64 ((k:Int)+1)) z0 z1 z2 (q:Int) c z=_
        rw [bo k (by omega)]
      have hsw:inb (Slot.sw (List.getD pl k d_slot)) l.length=true:=by rw [al hk]; exact h.sw _ (List.getElem_mem hk)
      rw [bw (by simp; omega),aZ h.hq,aZ hk,ac,ac,bC h.wa,hsw,e3,e3,show pl.length - k=(pl.length - (k+1))+1 by omega]
      simp only [pfG]
      cases List.any (List.getD l q aa).wa (bc (List.getD pl k d_slot).sw) with
      | false=>exact ih (k+1) s (by omega) hk
      | true =>
        rw [Bool.true_and]
        cases ilt s (aE l (List.getD pl k d_slot)) with
        | false=>exact ih (k+1) s (by omega) hk
        | true=>exact ih (k+1) _ (by omega) hk
    · have : k = pl.length := by omega
      subst this
      rw [bp (by simp),Nat.sub_self,bV]
      rfl
theorem qt (l : List Work) (pl : List Slot) (q : Nat) (h : OP l pl q) (k4 : Y4) (c z0 z1 z2 t : Int) : ∀ (n k : Nat) (s : Int), pl.length < n + k → k ≤ pl.length → f6 k4 n l pl s (k : Int) z0 z1 z2 (q : Int) c t = f5 k4 l pl (pnG l pl ⟨(q : Int), c, t⟩ (pl.length - k) k s) z0 z1 z2 (q : Int) c t := by
  have hpn:=h.pn
  intro n
  induction n with
  | zero=>intro k s h1 h2; omega
  | succ n ih =>
    intro k s h1 h2
    show sh6 l pl s (k:Int) z0 z1 z2 (q:Int) c t (f5 k4) (f7 k4 (f6 k4 n))=_
    unfold sh6
    by_cases hk:k < pl.length
    · have e3 : ∀ z : Int, f7 k4 (f6 k4 n) l pl z (k : Int) z0 z1 z2 (q : Int) c t = f6 k4 n l pl z ((k + 1 : Nat) : Int) z0 z1 z2 (q : Int) c t := fun z => by
        show f6 k4 n l pl z (IntKind.wrap .i64 ((k:Int)+1)) z0 z1 z2 (q:Int) c t=_
        rw [bo k (by omega)]
      have hsw:inb (Slot.sw (List.getD pl k d_slot)) l.length=true:=by rw [al hk]; exact h.sw _ (List.getElem_mem hk)
      have hq:inb (Slot.sw (⟨(q:Int),c,t⟩:Slot)) l.length=true:=aZ h.hq
      rw [bw (by simp; omega),aZ hk,ac,hsw,hq,e3,e3,show pl.length - k=(pl.length - (k+1))+1 by omega]
      simp only [pnG]
      cases (b9 l (⟨(q:Int),c,t⟩:Slot) (List.getD pl k d_slot) != 0) with
      | false=>exact ih (k+1) s (by omega) hk
      | true =>
        rw [Bool.true_and]
        cases ilt s (aE l (List.getD pl k d_slot)) with
        | false=>exact ih (k+1) s (by omega) hk
        | true=>exact ih (k+1) _ (by omega) hk
    · have : k = pl.length := by omega
      subst this
      rw [bp (by simp),Nat.sub_self,bV]
      rfl
theorem outer (l:List Work) (pl:List Slot) (q:Nat) (h:OP l pl q) (c z0 z1 z2:Int):∀ (n:Nat) (s:Int),0≤s→s≤91000→91000 - s < (n:Int)→f4 n l pl z0 z1 z2 (q:Int) c s=rF ⟨(q:Int),c,plI l pl (q:Int) c n s⟩:=by
  have hpn:=h.pn
  intro n
  induction n with
  | zero=>intro s h1 h2 h3; omega
  | succ n ih =>
    intro s h1 h2 h3
    show f6 (f4 n) 100000 l pl s ((0:Nat):Int) z0 z1 z2 (q:Int) c s=_
    rw [qt l pl q h (f4 n) c z0 z1 z2 s 100000 0 s (by omega) (by omega),Nat.sub_zero]
    obtain ⟨a1,a2,_,_⟩:=n5 l pl ⟨(q:Int),c,s⟩ (fun b hb=>(h.en b hb).2.2.2.2) pl.length 0 s (by omega)
    show sh5 l pl (pnG l pl ⟨(q:Int),c,s⟩ pl.length 0 s) z0 z1 z2 (q:Int) c s (f4 n)=_
    unfold sh5
    simp only [plI]
    cases hb:(pnG l pl ⟨(q:Int),c,s⟩ pl.length 0 s == s) with
    | true=>rfl
    | false =>
      have hne:=beq_eq_false_iff_ne.1 hb
      rw [bV,cond_false]
      exact ih _ (by omega) (a2 h2) (by omega)
theorem f0_eq (l:List Work) (pl:List Slot) (w c:Int) (h:okP l pl w=true):f0 l pl w c=rF (ch l pl w c):=by
  obtain ⟨q,rfl,hP⟩:=sh h
  have hpn:=hP.pn
  obtain ⟨a1,a2,_,_⟩:=rE q (fun b hb=>(hP.en b hb).2.2.2.2) pl.length 0 0 (by omega)
  show f2 100000 l pl (q:Int) ((0:Nat):Int) 0 0 0 (q:Int) c 0=_
  rw [firstLoop l pl q hP c 0 0 0 100000 0 0 (by omega) (by omega),Nat.sub_zero]
  show f4 100000 l pl 0 0 0 (q:Int) c (pfG l pl q pl.length 0 0)=_
  rw [outer l pl q hP c 0 0 0 100000 _ a1 (a2 (by omega)) (by omega)]
  rfl
theorem ok:CtxOk Try.prog X:=aU tab (spC rhas.spOk (spC rend.spOk (spC clash.spOk spN))) dpN
theorem okM:MOk Try.prog X:=fun g sp h=>by cases h
theorem spec (l:List Work) (pl:List Slot) (w:Int) (c:Int) (h:(okP l pl w)=true):az Try.prog E 59 [(.lst .work l),(.lst .slot pl),(.int .i64 w),(.int .i64 c)] (.agg [(.int .i64 ((ch l pl w c).sw)),(.int .i64 ((ch l pl w c).sc)),(.int .i64 ((ch l pl w c).ss))]) [] :=
  gy ok okM Try.call59 Try.func59 (by kernel_rfl) (by kernel_rfl) (by kernel_rfl) (by show 4≤90; decide) (by decide) (by rfl) ((run l pl w c).trans (f0_eq l pl w c h))
noncomputable def sp:Sp U El:=fun args k=>match args with
  | [.lst .work l,.lst .slot pl,.int .i64 w,.int .i64 c]=>chk (okP l pl w) (k (.agg [(.int .i64 ((ch l pl w c).sw)),(.int .i64 ((ch l pl w c).sc)),(.int .i64 ((ch l pl w c).ss))]) [])
  | _=>none
theorem spOk:SpOk Try.prog E 59 sp where
  det:=fun vs=>by
    unfold sp
    split
    · exact bz _ _ _
    · exact ⟨none,fun _=>rfl⟩
  ok:=fun vs k r h=>by
    unfold sp at h
    split at h
    · obtain ⟨h1, h2⟩ := ab h
      exact ⟨_,_,spec _ _ _ _ h1,h2⟩
    · cases h
end rplace
theorem qu {l : List Work} {pl : List Slot} {w c : Int} (hen : ∀ s ∈ pl, aE l s ≤ 91000) : ∀ (n : Nat) (s : Int), s ≤ 91000 → 91000 - s < (n : Int) → s ≤ plI l pl w c n s ∧ (∀ b ∈ pl, b9 l ⟨w, c, plI l pl w c n s⟩ b = 0) ∧ ∀ t, s ≤ t → t < plI l pl w c n s → ∃ s' b, b ∈ pl ∧ s ≤ s' ∧ s' ≤ t ∧ t < aE l b ∧ b9 l ⟨w, c, s'⟩ b ≠ 0 := by
  intro n
  induction n with
  | zero=>intro s h1 h2; omega
  | succ n ih =>
    intro s h1 h2
    obtain ⟨a1,a2,a3,a4⟩:=n5 l pl ⟨w,c,s⟩ hen pl.length 0 s (by omega)
    simp only [plI]
    cases hb:(pnG l pl ⟨w,c,s⟩ pl.length 0 s == s) with
    | true =>
      rw [cond_true]
      have he:=beq_iff_eq.1 hb
      refine ⟨Int.le_refl _,fun b hbm => ?_,fun t h3 h4=>by omega⟩
      by_cases hc:b9 l ⟨w,c,s⟩ b=0
      · exact hc
      · exfalso
        obtain ⟨j,hj,e⟩:=List.getElem_of_mem hbm
        have h5:=a4 j (by omega) hj (by rw [al hj,e]; exact hc)
        rw [al hj,e,he] at h5
        have hm:d4 l ⟨w,c,s⟩ b=true:=by
          cases hm:d4 l ⟨w,c,s⟩ b with
          | true=>rfl
          | false=>exact absurd (by unfold b9; rw [hm]; rfl) hc
        unfold d4 at hm
        rw [Bool.and_eq_true] at hm
        have h6:s < aE l b:=dJ hm.1
        omega
    | false =>
      rw [cond_false]
      have hne:=beq_eq_false_iff_ne.1 hb
      obtain ⟨b1,b2,b3⟩:=ih (pnG l pl ⟨w,c,s⟩ pl.length 0 s) (a2 h1) (by omega)
      refine ⟨by omega,b2,fun t h3 h4 => ?_⟩
      by_cases e:pnG l pl ⟨w,c,s⟩ pl.length 0 s≤t
      · obtain ⟨s', b, k1, k2, k3, k4, k5⟩ := b3 t e h4
        exact ⟨s',b,k1,by omega,k3,k4,k5⟩
      · rcases a3 with e2 | ⟨b, hbm, hc, e2⟩
        · exact absurd e2 hne
        · exact ⟨s,b,hbm,Int.le_refl _,h3,by omega,hc⟩
structure PR (l:List Work) (sl:List Slot) (dn:List Bool) (pl:List Slot):Prop where
  fro:∀ s∈pl,∃ k,k < l.length∧List.getD dn k d_bool=true∧s=List.getD sl k d_slot
  to:∀ k,k < l.length→List.getD dn k d_bool=true→List.getD sl k d_slot∈pl
theorem pb {l : List Work} {q k : Nat} {c t : Int} {s : Slot} (hq : q < l.length) (hk : k < l.length) (hsw : s.sw = (k : Int)) (hwq : 0 ≤ (List.getD l q aa).wh ∧ (List.getD l q aa).wh ≤ 1000) (ht : 0 ≤ t ∧ t ≤ 1000000) (he : aE l s = s.ss + (List.getD l k aa).wh) :
    b9 l ⟨(q:Int),c,t⟩ s≠0↔t < s.ss+(List.getD l k aa).wh∧s.ss < t+(List.getD l q aa).wh∧(s.sc=c∨((List.getD l q aa).ws≠[]∧(List.getD l k aa).ws=(List.getD l q aa).ws)):=by
  have hend:aE l ⟨(q:Int),c,t⟩=t+(List.getD l q aa).wh:=by
    unfold aE
    show IntKind.wrap .i64 (t+(List.getD l (Int.toNat (q:Int)) aa).wh)=_
    rw [ac]
    exact bU (by omega) (by omega)
  have hm:d4 l ⟨(q:Int),c,t⟩ s=true↔t < s.ss+(List.getD l k aa).wh∧s.ss < t+(List.getD l q aa).wh:=by
    unfold d4
    rw [Bool.and_eq_true,hend,he]
    exact ⟨fun h=>⟨dJ h.1,dJ h.2⟩,fun h=>⟨bw h.1,bw h.2⟩⟩
  unfold b9
  rw [hsw]
  show (bif !(d4 l ⟨(q:Int),c,t⟩ s) then (0:Int) else bif c == s.sc then 10 else bif !((List.getD l (Int.toNat (q:Int)) aa).ws == ([]:List UInt8))&&((List.getD l (Int.toNat (q:Int)) aa).ws == (List.getD l (Int.toNat (k:Int)) aa).ws) then 15 else 0)≠0↔_
  rw [ac,ac]
  constructor
  · intro h
    have h1:d4 l ⟨(q:Int),c,t⟩ s=true:=by
      cases hb:d4 l ⟨(q:Int),c,t⟩ s with
      | true=>rfl
      | false=>rw [hb] at h; exact absurd rfl h
    obtain ⟨g1,g2⟩:=hm.1 h1
    refine ⟨g1,g2,?_⟩
    rw [h1] at h
    cases hc:(c == s.sc) with
    | true=>exact .inl (beq_iff_eq.1 hc).symm
    | false =>
      rw [hc] at h
      cases hd:(!((List.getD l q aa).ws == ([]:List UInt8))&&((List.getD l q aa).ws == (List.getD l k aa).ws)) with
      | false=>rw [hd] at h; exact absurd rfl h
      | true =>
        simp only [Bool.and_eq_true,Bool.not_eq_true',beq_eq_false_iff_ne,beq_iff_eq] at hd
        exact .inr ⟨hd.1,hd.2.symm⟩
  · rintro ⟨g1, g2, g3⟩
    rw [hm.2 ⟨g1,g2⟩]
    rcases g3 with g3 | ⟨g3,g4⟩
    · rw [show (c == s.sc) = true from beq_iff_eq.2 g3.symm]
      simp
    · have hd : (!((List.getD l q aa).ws == ([] : List UInt8)) && ((List.getD l q aa).ws == (List.getD l k aa).ws)) = true := by
        simp only [Bool.and_eq_true,Bool.not_eq_true',beq_eq_false_iff_ne,beq_iff_eq]
        exact ⟨g3,g4.symm⟩
      rw [hd]
      cases (c == s.sc)<;>simp
theorem mF {l : List Work} {sl : List Slot} {dn : List Bool} {pl : List Slot} {q : Nat} {T c : Int} (hS : SS l sl dn q) (hJ : GJ l sl dn T) (hR : PR l sl dn pl) (hT0 : 0 ≤ T) (hT9 : T ≤ 90000) (hc : List.any (List.getD l q aa).wc (bc c) = true) : sg l pl (q : Int) c = aC l sl dn (q : Int) c := by
  have hq:=hS.ff.hi
  have hwh:=hS.ff.wh
  have hend:∀ k,k < l.length→List.getD dn k d_bool=true→aE l (List.getD sl k d_slot)=(List.getD sl k d_slot).ss+(List.getD l k aa).wh∧(List.getD sl k d_slot).ss+(List.getD l k aa).wh≤T∧0≤(List.getD sl k d_slot).ss∧(List.getD sl k d_slot).sw=(k:Int):=fun k hk hd=>by
    have hK:=hJ k hk hd
    have h1:=hwh k hk
    have h2:=hK.s9
    have h3:=hK.s0
    refine ⟨?_,h2,h3,hK.sw⟩
    unfold aE
    rw [hK.sw,ac]
    exact bU (by omega) (by omega)
  have hen:∀ s∈pl,aE l s≤91000:=fun s hs=>by
    obtain ⟨k,hk,hd,rfl⟩:=hR.fro s hs
    rw [(hend k hk hd).1]
    have:=(hend k hk hd).2.1
    omega
  obtain ⟨v,s1,s2,s3,s4,s5⟩:=gM hS hJ hT0 (by omega) hc
  have es:aC l sl dn (q:Int) c=v:=s1
  rw [es]
  obtain ⟨hBa,hCf⟩:=faultE_iff.1 s4
  have hqs:q < sl.length:=by rw [hS.ff.lp]; exact hq
  have gq:List.getD (sl.set q ⟨(q:Int),c,v⟩) q d_slot=⟨(q:Int),c,v⟩:=by rw [aX _ _ _ _ hqs,if_pos rfl]
  have gk:∀ k,k≠q→List.getD (sl.set q ⟨(q:Int),c,v⟩) k d_slot=List.getD sl k d_slot:=fun k hk=>by rw [aX _ _ _ _ hqs,if_neg (Ne.symm hk)]
  have hdq:∀ k,List.getD dn k d_bool=true→k≠q:=fun k hk e=>by rw [e,hS.dq] at hk; cases hk
  obtain ⟨p1,p2,p3,p4⟩:=rE q hen pl.length 0 0 (by omega)
  have hF:∀ u:Nat,(u:Int)∈(List.getD l q aa).wa→u < l.length→List.getD dn u d_bool=true→(List.getD sl u d_slot).ss+(List.getD l u aa).wh≤pfG l pl q pl.length 0 0:=fun u hu hul hd=>by
    obtain ⟨j,hj,e⟩:=List.getElem_of_mem (hR.to u hul hd)
    have:=p4 j (by omega) hj (by rw [al hj,e,(hend u hul hd).2.2.2]; exact List.any_eq_true.2 ⟨_,hu,by simp [bc]⟩)
    rw [al hj,e,(hend u hul hd).1] at this
    exact this
  have hF2:∀ m:Int,0≤m→(∀ u:Nat,(u:Int)∈(List.getD l q aa).wa→u < l.length→List.getD dn u d_bool=true→(List.getD sl u d_slot).ss+(List.getD l u aa).wh≤m)→pfG l pl q pl.length 0 0≤m:=fun m hm h=>p3 m hm fun j _ hj ha=>by
    obtain ⟨k,hk,hd,e⟩:=hR.fro _ (List.getElem_mem hj)
    rw [al hj,e] at ha ⊢
    rw [(hend k hk hd).2.2.2] at ha
    rw [(hend k hk hd).1]
    obtain ⟨a,ha1,ha2⟩:=List.any_eq_true.1 ha
    have:a=(k:Int):=by
      simp only [bc,beq_iff_eq] at ha2
      first | exact ha2 | exact ha2.symm
    exact h k (by rw [← this]; exact ha1) hk hd
  have hv:sg l pl (q:Int) c=plI l pl (q:Int) c 100000 (pfG l pl q pl.length 0 0):=rfl
  rw [hv]
  obtain ⟨b1,b2,b3⟩:=qu (w:=(q:Int)) (c:=c) hen 100000 (pfG l pl q pl.length 0 0) (p2 (by omega)) (by omega)
  generalize plI l pl (q:Int) c 100000 (pfG l pl q pl.length 0 0)=u at b1 b2 b3
  generalize pfG l pl q pl.length 0 0=F at p1 p2 hF hF2 b1 b3
  have hcl:∀ (k:Nat) (t:Int),k < l.length→List.getD dn k d_bool=true→0≤t→t≤1000000→(b9 l ⟨(q:Int),c,t⟩ (List.getD sl k d_slot)≠0↔t < (List.getD sl k d_slot).ss+(List.getD l k aa).wh∧(List.getD sl k d_slot).ss < t+(List.getD l q aa).wh∧((List.getD sl k d_slot).sc=c∨((List.getD l q aa).ws≠[]∧(List.getD l k aa).ws=(List.getD l q aa).ws))):=fun k t hk hd h0 h9=>pb hq hk (hend k hk hd).2.2.2 (hwh q hq) ⟨h0,h9⟩ (hend k hk hd).1
  by_cases h1:u < v
  · exfalso
    rcases s5 u h1 with h | ⟨w,g1,g2,g3,g4⟩ | ⟨j,g1,g2,g3,g4,g5,g6⟩
    · omega
    · have:=hF w g1 g2 g3; omega
    · exact (hcl j u g1 g3 (by omega) (by omega)).2 ⟨g5,g4,g6⟩ (b2 _ (hR.to j g1 g3))
  · by_cases h2 : v < u
    · exfalso
      have hFv:F≤v:=hF2 v s2 fun w hw hwl hd=>by
        have:=hBa.ord _ hw
        rw [ac,gk w (hdq w hd),gq] at this
        have h':(List.getD sl w d_slot).ss≤v - (List.getD l w aa).wh:=this
        omega
      obtain ⟨s',b,hb,h30,h3,h4,h5⟩:=b3 v hFv h2
      obtain ⟨k,hk,hd,rfl⟩:=hR.fro b hb
      obtain ⟨_,g2,g3⟩:=(hcl k s' hk hd (by omega) (by omega)).1 h5
      rw [(hend k hk hd).1] at h4
      refine hCf k hk hd ⟨hdq k hd,?_,?_,?_⟩
      · rw [gk k (hdq k hd),gq]; show _ < v+_; omega
      · rw [gk k (hdq k hd),gq]; exact h4
      · rw [gk k (hdq k hd),gq]; exact g3
    · omega
end Go.Proofs.Ythdklallcljhlaa
