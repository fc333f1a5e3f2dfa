/- The law ConflictsLeaves by its own run. -/
import Derived.Test.YthdimnlkcgchoaaGreatWA
import Derived.Test.YthdimnlkcgchoaaGreatDR
namespace Go.Proofs.YthdimnlkcgchoaaGreat
set_option linter.unusedSectionVars false
set_option linter.unusedSimpArgs false
set_option linter.unusedVariables false
set_option maxRecDepth 100000
theorem oG : ∀ {l : List Rule} {s s' : List (List UInt8)}, d9 s' l = true → (∀ x ∈ s, x ∈ s') → d9 s l = true := by
  intro l
  induction l with
  | nil=>intro s s' _ _; rfl
  | cons r l ih =>
    intro s s' h hs
    simp only [d9,Bool.and_eq_true,Bool.not_eq_true'] at h ⊢
    obtain ⟨h1,h2,h3⟩:=h
    refine ⟨h1,?_,ih h3 fun x hx => ?_⟩
    · cases he : List.elem r.rn s with
      | false=>rfl
      | true =>
        rw [List.elem_iff] at he
        have:List.elem r.rn s'=true:=List.elem_iff.2 (hs _ he)
        rw [this] at h2
        cases h2
    · rcases List.mem_append.1 hx with hx | hx
      · exact List.mem_append_left _ (hs x hx)
      · exact List.mem_append_right _ hx
theorem oH {r:Rule} {b:List Rule}:∀ {a:List Rule} {s:List (List UInt8)},d9 s (a++r :: b)=true→d9 s (a++b)=true:=by
  intro a
  induction a with
  | nil =>
    intro s h
    simp only [List.nil_append,d9,Bool.and_eq_true] at h ⊢
    exact oG h.2.2 fun x hx=>List.mem_append_left _ hx
  | cons x a ih =>
    intro s h
    simp only [List.cons_append,d9,Bool.and_eq_true] at h ⊢
    exact ⟨h.1,h.2.1,ih h.2.2⟩
theorem rz {l:List Rule} {k:Nat} (hk:k < l.length):l=l.take k++l[k] :: l.drop (k+1):=by
  rw [← bc hk,List.take_append_drop]
theorem oI {l:List Rule} {k:Nat} (hk:k < l.length) (h:a6 l=true):a6 (l.take k++l.drop (k+1))=true:=by
  have hl:=(bo h).1
  simp only [a6,Bool.and_eq_true,Bool.not_eq_true'] at h ⊢
  refine ⟨aR (by simp; omega),?_⟩
  have h2:=h.2
  rw [rz hk] at h2
  exact oH h2
theorem nI {l:List Rule} {k:Nat}:∀ a∈l.take k++l.drop (k+1),a∈l:=fun a ha=>by
  rcases List.mem_append.1 ha with h | h
  · exact List.mem_of_mem_take h
  · exact List.mem_of_mem_drop h
theorem nJ {l:List Rule} {k j:Nat} (hj:j < l.length) (hne:j≠k):l[j]∈l.take k++l.drop (k+1):=by
  rcases Nat.lt_or_ge j k with h | h
  · exact List.mem_append_left _ (List.mem_take_iff_getElem.2 ⟨j,by omega,rfl⟩)
  · refine List.mem_append_right _ (List.mem_drop_iff_getElem.2 ⟨j - (k + 1), by omega, ?_⟩)
    congr 1
    omega
theorem oJ {l m:List Rule} {n:Net} (hs:∀ a∈m,a∈l) (h:ca l n=true):ca m n=true:=List.all_eq_true.2 fun r hr=>List.all_eq_true.1 h r (hs r hr)
theorem qj {l : List Rule} {n : Net} (g2 : cz n = true) (g3 : ca l n = true) {v bf : List Int} (hv : rm n.nds v) (hbf : bf.length = n.lks.length) {k : Nat} (hk : k < l.length) (hc : gN l n l[k].rl l (k : Int) n.nds = none) : lB (l.take k ++ l.drop (k + 1)) n v bf = lB l n v bf := by
  unfold lB
  refine qi (fun r hr=>dM g3 r hr) (fun a ha => ?_) nI fun a ha h1 => ?_
  · rw [hbf]
    have:=ib (dM g3 a ha)
    exact ⟨this.1,this.2.1⟩
  · obtain ⟨j, hj, rfl⟩ := List.getElem_of_mem ha
    by_cases e:j=k
    · subst e
      have hh:dv n.nds v l[j].rw=true:=by
        rw [nC g3 hv.1 ha,Bool.not_eq_false'] at h1
        exact h1
      obtain ⟨i,hi,i1,i2,i3,i4⟩:=nD g3 hj hc hv hh
      refine ⟨l[i],nJ hi i1,i2,i3,?_⟩
      rw [nC g3 hv.1 (List.getElem_mem hi)]
      have:m3 (aU n) v l[i].rw=true:=i4
      rw [this]; rfl
    · exact ⟨l[j],nJ hj e,rfl,rfl,h1⟩
theorem qk {p:Nat→Bool} (h:∀ i,p i=false):∀ (n k:Nat),dJ p n k=none:=by
  intro n
  induction n with
  | zero=>intro k; rfl
  | succ n ih=>intro k; simp only [dJ]; rw [h k]; exact ih (k+1)
noncomputable def cj (r:Rule):Rule:=⟨[116,119,105,110,79,102,65,110,111,116,104,101,114],r.rw,r.rl,r.rs⟩
theorem oL {l:List Rule} {k:Nat} (hk:k < l.length) (n:Net) (s:List UInt8):cM (l++[cj l[k]]) n s=cM l n s:=by
  unfold cM
  refine List.map_congr_left fun x _ => ?_
  obtain ⟨a1,a2⟩:=eG x s (l++[cj l[k]])
  obtain ⟨b1,b2⟩:=eG x s l
  refine pf a1 b1 fun z => ?_
  rw [a2,b2]
  have hm:fy x s (l++[cj l[k]])=fy x s l++kM x s l[k]:=by
    unfold fy
    rw [List.flatMap_append,List.flatMap_cons,List.flatMap_nil,List.append_nil]
    rfl
  rw [hm,List.mem_append]
  constructor
  · rintro ((h | h) | h)
    · exact .inl h
    · exact .inl (List.mem_flatMap.2 ⟨_,List.getElem_mem hk,h⟩)
    · exact .inr h
  · rintro (h | h)
    · exact .inl (.inl h)
    · exact .inr h
theorem nK {l:List Rule} {n:Net} {s:List UInt8} {a b:Nat} (ha:a < l.length) (hb:b < l.length) (hne:a≠b) (h1:l[a].rl=l[b].rl) (h2:l[a].rs=l[b].rs) (h3:l[a].rw=l[b].rw):gN l n s l (a:Int) n.nds=none:=by
  unfold gN
  refine qk (fun i => ?_) _ _
  have hK:∀ v,dC l (a:Int) n.nds v=dv n.nds v l[a].rw:=fun v=>by unfold dC; rw [ak,ar ha]
  rw [hK]
  cases hh:dv n.nds (a7 (cM l n s) i) l[a].rw with
  | false=>rfl
  | true =>
    have:ia l (a:Int) n.nds (a7 (cM l n s) i)=true:=by
      unfold ia
      refine anyI_iff.2 ⟨b,hb,?_⟩
      unfold m4
      rw [Nat.zero_add,ak,ar ha,← h1,← h2,← h3,hh]
      simp
      omega
    rw [this]
    rfl
namespace cloneR
noncomputable def bd:Code:=(Tryz.f30.body).getD .skip
noncomputable def X:Ctx U El:=⟨E,tds,zeros,eqs,aC [],100000,8,ap [],fun _=>none⟩
noncomputable def nmR:Norm U:=⟨[(2,.rule)],[2],[2],[],[],[],[]⟩
noncomputable def RR:ab U El:=fun st=>aE nmR st (aD [2] [2])
noncomputable def fr0 (l:List Rule):St U El:=⟨[(0,(.lst .rule l))],[]⟩
noncomputable def sh0 (l:List Rule):R :=
  aa (nlt 0 (List.length l)) (chk (nle ((List.length ([]:List Rule)+List.length l) * 64) 140737488355328&&nle (List.length ([]:List Rule)+List.length l) 9223372036854775807) (some ((.ful 0),[(0,.rows .rule (([]:List Rule)++l))]))) (amb (some ((.ful 0),[(0,.rows .rule ([]:List Rule))])) (chk (nle ((List.length ([]:List Rule)+List.length l) * 64) 140737488355328&&nle (List.length ([]:List Rule)+List.length l) 9223372036854775807) (some ((.ful 0),[(0,.rows .rule (([]:List Rule)++l))]))))
theorem P0 (l):ac X (cdp [] bd) .d (fr0 l) RR (fun _ _=>none) RR=sh0 l:=by kernel_rfl
noncomputable def f0 (l:List Rule):R:=sh0 l
theorem T0 (l):ac X bd .d (fr0 l) RR (fun _ _=>none) RR=f0 l:=by
  refine (P0 l).trans ?_
  show _=sh0 l
  rfl
theorem run (l):aJ X bd .d nmR [2] [2] [(.lst .rule l)]=f0 l:=T0 l
theorem f0_eq (l:List Rule) (h:(nle (List.length l) 90000)=true):f0 l=some (.ful 0,[(0,.rows .rule l)]):=by
  have hl:=bQ h
  show sh0 l=_
  unfold sh0
  have e1:nle ((List.length ([]:List Rule)+List.length l) * 64) 140737488355328=true:=bE (by simp; omega)
  have e2:nle (List.length ([]:List Rule)+List.length l) 9223372036854775807=true:=bE (by simp; omega)
  rw [e1,e2]
  cases l with
  | nil=>exact mi _
  | cons x l=>rfl
theorem ok:CtxOk Tryz.prog X:=aI tab spN dpN
theorem okM:MOk Tryz.prog X:=fun g sp h=>by cases h
theorem spec (l:List Rule) (h:(nle (List.length l) 90000)=true):aj Tryz.prog E 30 [(.lst .rule l)] (.ful 0) [(0,.rows .rule (l))] :=
  ae ok okM Tryz.call30 Tryz.func30 (by kernel_rfl) (by kernel_rfl) (by kernel_rfl) (by show 1≤8; decide) (by decide) (by rfl) ((run l).trans (f0_eq l h))
noncomputable def sp:Sp U El:=fun args k=>match args with
  | [.lst .rule l]=>chk (nle (List.length l) 90000) (k (.ful 0) [(0,.rows .rule (l))])
  | _=>none
theorem spOk:SpOk Tryz.prog E 30 sp where
  det:=fun vs=>by
    unfold sp
    split
    · exact aY _ _ _
    · exact ⟨none,fun _=>rfl⟩
  ok:=fun vs k r h=>by
    unfold sp at h
    split at h
    · obtain ⟨h1, h2⟩ := af h
      exact ⟨_,_,spec _ h1,h2⟩
    · cases h
end cloneR
namespace lawLeaves
noncomputable def bd:Code:=(Tryz.f9.body).getD .skip
noncomputable def X:Ctx U El:=⟨E,tds,zeros,eqs,aC [(12,awake.sp),(16,equalI.sp),(24,many.sp),(26,covered.sp),(29,ready.sp),(30,cloneR.sp),(39,levels.sp),(52,usettings.sp),(53,rgiven.sp)],100000,150,ap [],eP [(51,delSp)]⟩
noncomputable def nmR:Norm U:=⟨[],[8],[],[],[],[],[]⟩
noncomputable def RR:ab U El:=fun st=>aE nmR st (aD [8] [])
noncomputable def nm1:Norm U:=⟨[],[0,2,3,5],[5],[],[],[],[(5,0,.node),(5,1,.link)]⟩
noncomputable def nm2:Norm U:=⟨[],[0,5,9],[5],[],[],[],[(5,0,.node),(5,1,.link)]⟩
abbrev Y1:=(List Rule)→Int→(List UInt32)→(List Node)→(List Lnk)→R
abbrev Y2:=(List Rule)→Int→(List Node)→(List Lnk)→R
noncomputable def fr0 (l:List Rule) (n:Net) (kx:Int) (ats:List UInt32):St U El:=⟨[(0,(.lst .rule l)),(1,(.agg [(.lst .node n.nds),(.lst .link n.lks)])),(2,(.int .u8 kx)),(3,(.lst .u32 ats))],[]⟩
noncomputable def fr1 (l0:List Rule) (cA:Int) (dA:List UInt32) (bA:List Node) (aA:List Lnk):St U El:=⟨[(0,(.lst .rule l0)),(2,(.int .u8 cA)),(3,(.lst .u32 dA)),(5,(.ptr 5 0))],[(5,(.box 0 [(.lst .node bA),(.lst .link aA)]))]⟩
noncomputable def fr2 (l0:List Rule) (i9:Int) (bA:List Node) (aA:List Lnk):St U El:=⟨[(0,(.lst .rule l0)),(5,(.ptr 5 0)),(9,(.int .i64 i9))],[(5,(.box 0 [(.lst .node bA),(.lst .link aA)]))]⟩
noncomputable def sh0 (l:List Rule) (n:Net) (kx:Int) (ats:List UInt32) (k1:Y1):R :=
  aa (!(true)) (some ((.bool false),[])) (aa ((Int.ofNat (List.length l)) == (0:Int)) (some ((.bool true),[])) (aa (ilt (7:Int) (Int.ofNat (List.length l))) (some ((.bool true),[])) (aa (!(fT l n)) (some ((.bool true),[])) (aa (ilt (20:Int) (Int.ofNat (List.length ats))) (some ((.bool true),[])) (k1 l kx ats n.nds n.lks)))))
noncomputable def sh1 (l0:List Rule) (cA:Int) (dA:List UInt32) (bA:List Node) (aA:List Lnk) (k2:Y2):R :=
  chk ((Int.ofNat (List.length l0)) != 0) (chk (inb (Int.tmod (IntKind.wrap .i64 cA) (Int.ofNat (List.length l0))) (List.length l0)) (chk ((okN (⟨bA,aA⟩:Net)&&dL l0)) (aa (lq l0 (⟨bA,aA⟩:Net) ((List.getD l0 (Int.toNat (Int.tmod (IntKind.wrap .i64 cA) (Int.ofNat (List.length l0)))) az).rl)) (some ((.bool true),[])) (chk (okN (⟨bA,aA⟩:Net)) (aa ((fR l0 (⟨bA,aA⟩:Net) (Int.tmod (IntKind.wrap .i64 cA) (Int.ofNat (List.length l0)))) != (0:Int)) (some ((.bool ((fR l0 (⟨bA,aA⟩:Net) (Int.tmod (IntKind.wrap .i64 cA) (Int.ofNat (List.length l0)))) == (6:Int))),[])) (chk ((okN (⟨bA,aA⟩:Net)&&gQ (⟨bA,aA⟩:Net))) (chk (ile 0 (Int.ofNat (List.length aA))&&ile (Int.ofNat (List.length aA)) (Int.ofNat (List.length aA))&&ile ((Int.ofNat (List.length aA)) * 8) 140737488355328) (aa (gh l0 (⟨bA,aA⟩:Net) (Int.tmod (IntKind.wrap .i64 cA) (Int.ofNat (List.length l0)))) (chk (nle (List.length l0) 90000) (chk (ile 0 (Int.tmod (IntKind.wrap .i64 cA) (Int.ofNat (List.length l0)))&&(ilt (Int.tmod (IntKind.wrap .i64 cA) (Int.ofNat (List.length l0))) (IntKind.wrap .i64 ((Int.tmod (IntKind.wrap .i64 cA) (Int.ofNat (List.length l0)))+(1:Int)))&&(ile (IntKind.wrap .i64 ((Int.tmod (IntKind.wrap .i64 cA) (Int.ofNat (List.length l0)))+(1:Int))) (Int.ofNat (List.length (l0)))&&(nle (List.length (l0)) 1000000&&true)))) (chk ((okN (⟨bA,aA⟩:Net)&&gz l0 (⟨bA,aA⟩:Net) (dj (Net.nds (⟨bA,aA⟩:Net)) dA) (List.replicate (Int.toNat (Int.ofNat (List.length aA))) aL))) (chk ((okN (⟨bA,aA⟩:Net)&&gz (List.take (Int.toNat (Int.tmod (IntKind.wrap .i64 cA) (Int.ofNat (List.length l0)))) (l0)++List.drop (Int.toNat (IntKind.wrap .i64 ((Int.tmod (IntKind.wrap .i64 cA) (Int.ofNat (List.length l0)))+(1:Int)))) (l0)) (⟨bA,aA⟩:Net) (dj (Net.nds (⟨bA,aA⟩:Net)) dA) (List.replicate (Int.toNat (Int.ofNat (List.length aA))) aL))) (aa ((gC l0 (⟨bA,aA⟩:Net) (dj (Net.nds (⟨bA,aA⟩:Net)) dA) (List.replicate (Int.toNat (Int.ofNat (List.length aA))) aL)) != (gC (List.take (Int.toNat (Int.tmod (IntKind.wrap .i64 cA) (Int.ofNat (List.length l0)))) (l0)++List.drop (Int.toNat (IntKind.wrap .i64 ((Int.tmod (IntKind.wrap .i64 cA) (Int.ofNat (List.length l0)))+(1:Int)))) (l0)) (⟨bA,aA⟩:Net) (dj (Net.nds (⟨bA,aA⟩:Net)) dA) (List.replicate (Int.toNat (Int.ofNat (List.length aA))) aL))) (some ((.bool false),[])) (chk (nle (List.length (eS l0 (⟨bA,aA⟩:Net) (dj (Net.nds (⟨bA,aA⟩:Net)) dA) (List.replicate (Int.toNat (Int.ofNat (List.length aA))) aL))) 90000) (aa (!(eqI (eS l0 (⟨bA,aA⟩:Net) (dj (Net.nds (⟨bA,aA⟩:Net)) dA) (List.replicate (Int.toNat (Int.ofNat (List.length aA))) aL)) (eS (List.take (Int.toNat (Int.tmod (IntKind.wrap .i64 cA) (Int.ofNat (List.length l0)))) (l0)++List.drop (Int.toNat (IntKind.wrap .i64 ((Int.tmod (IntKind.wrap .i64 cA) (Int.ofNat (List.length l0)))+(1:Int)))) (l0)) (⟨bA,aA⟩:Net) (dj (Net.nds (⟨bA,aA⟩:Net)) dA) (List.replicate (Int.toNat (Int.ofNat (List.length aA))) aL)))) (some ((.bool false),[])) (k2 l0 (Int.tmod (IntKind.wrap .i64 cA) (Int.ofNat (List.length l0))) bA aA)))))))) (k2 l0 (Int.tmod (IntKind.wrap .i64 cA) (Int.ofNat (List.length l0))) bA aA)))))))))
noncomputable def sh2 (l0:List Rule) (i9:Int) (bA:List Node) (aA:List Lnk):R :=
  chk (inb i9 (List.length l0)) (chk (nle (List.length l0) 90000) (chk (nle ((List.length (l0)+List.length ([(⟨([116,119,105,110,79,102,65,110,111,116,104,101,114]:List UInt8),(List.getD l0 (Int.toNat i9) az).rw,(List.getD l0 (Int.toNat i9) az).rl,(List.getD l0 (Int.toNat i9) az).rs⟩:Rule)]:List Rule)) * 64) 140737488355328&&nle (List.length (l0)+List.length ([(⟨([116,119,105,110,79,102,65,110,111,116,104,101,114]:List UInt8),(List.getD l0 (Int.toNat i9) az).rw,(List.getD l0 (Int.toNat i9) az).rl,(List.getD l0 (Int.toNat i9) az).rs⟩:Rule)]:List Rule)) 9223372036854775807) (chk (okN (⟨bA,aA⟩:Net)) (aa ((aV ((l0)++([(⟨([116,119,105,110,79,102,65,110,111,116,104,101,114]:List UInt8),(List.getD l0 (Int.toNat i9) az).rw,(List.getD l0 (Int.toNat i9) az).rl,(List.getD l0 (Int.toNat i9) az).rs⟩:Rule)]:List Rule)) (⟨bA,aA⟩:Net)) != (0:Int)) (some ((.bool true),[])) (chk (okN (⟨bA,aA⟩:Net)) (chk (okN (⟨bA,aA⟩:Net)) (aa ((fR ((l0)++([(⟨([116,119,105,110,79,102,65,110,111,116,104,101,114]:List UInt8),(List.getD l0 (Int.toNat i9) az).rw,(List.getD l0 (Int.toNat i9) az).rl,(List.getD l0 (Int.toNat i9) az).rs⟩:Rule)]:List Rule)) (⟨bA,aA⟩:Net) i9) == (0:Int)) (aa ((fR ((l0)++([(⟨([116,119,105,110,79,102,65,110,111,116,104,101,114]:List UInt8),(List.getD l0 (Int.toNat i9) az).rw,(List.getD l0 (Int.toNat i9) az).rl,(List.getD l0 (Int.toNat i9) az).rs⟩:Rule)]:List Rule)) (⟨bA,aA⟩:Net) (Int.ofNat (List.length l0))) == (0:Int)) (aa (gh ((l0)++([(⟨([116,119,105,110,79,102,65,110,111,116,104,101,114]:List UInt8),(List.getD l0 (Int.toNat i9) az).rw,(List.getD l0 (Int.toNat i9) az).rl,(List.getD l0 (Int.toNat i9) az).rs⟩:Rule)]:List Rule)) (⟨bA,aA⟩:Net) i9) (some ((.bool (gh ((l0)++([(⟨([116,119,105,110,79,102,65,110,111,116,104,101,114]:List UInt8),(List.getD l0 (Int.toNat i9) az).rw,(List.getD l0 (Int.toNat i9) az).rl,(List.getD l0 (Int.toNat i9) az).rs⟩:Rule)]:List Rule)) (⟨bA,aA⟩:Net) (Int.ofNat (List.length l0)))),[])) (some ((.bool false),[]))) (some ((.bool false),[]))) (some ((.bool false),[])))))))))
noncomputable def ct1:ab U El:=fun st=>ac X (cdp [1,1,1] bd) (.seq none .d (.seq none .d (.seq none .d (.seq none .d (.seq none .d (.seq none .d (.seq (some nm2) .d (.seq none .d (.seq none .d (.seq none (.region [(4,115000)]) .d)))))))))) st RR (fun _ _=>none) RR
noncomputable def ct2:ab U El:=fun st=>ac X (cdp [1,1,1,1,1,1,1,1,1,1] bd) (.seq none .d (.seq none .d (.seq none (.region [(4,115000)]) .d))) st RR (fun _ _=>none) RR
theorem P0 (l n kx ats):ac X (cdp [] bd) (.seq none .d (.seq none .d (.seq (some nm1) .d (.seq none .d (.seq none .d (.seq none .d (.seq none .d (.seq none .d (.seq none .d (.seq (some nm2) .d (.seq none .d (.seq none .d (.seq none (.region [(4,115000)]) .d))))))))))))) (fr0 l n kx ats) RR (fun _ _=>none) RR=sh0 l n kx ats (fun y0 y1 y2 y3 y4=>(hid ct1) (fr1 y0 y1 y2 y3 y4)):=by kernel_rfl
theorem P1 (l0 cA dA bA aA):ct1 (fr1 l0 cA dA bA aA)=sh1 l0 cA dA bA aA (fun y0 y1 y2 y3=>(hid ct2) (fr2 y0 y1 y2 y3)):=by kernel_rfl
theorem P2 (l0 i9 bA aA):ct2 (fr2 l0 i9 bA aA)=sh2 l0 i9 bA aA:=by kernel_rfl
noncomputable def f2 (l0:List Rule) (i9:Int) (bA:List Node) (aA:List Lnk):R:=sh2 l0 i9 bA aA
noncomputable def f1 (l0:List Rule) (cA:Int) (dA:List UInt32) (bA:List Node) (aA:List Lnk):R:=sh1 l0 cA dA bA aA f2
noncomputable def f0 (l:List Rule) (n:Net) (kx:Int) (ats:List UInt32):R:=sh0 l n kx ats f1
theorem T2 (l0 i9 bA aA):(hid ct2) (fr2 l0 i9 bA aA)=f2 l0 i9 bA aA:=by
  refine (congrFun (ai _) _).trans <| (P2 l0 i9 bA aA).trans ?_
  show _=sh2 l0 i9 bA aA
  rfl
theorem T1 (l0 cA dA bA aA):(hid ct1) (fr1 l0 cA dA bA aA)=f1 l0 cA dA bA aA:=by
  refine (congrFun (ai _) _).trans <| (P1 l0 cA dA bA aA).trans ?_
  show _=sh1 l0 cA dA bA aA f2
  simp only [T2]
theorem T0 (l n kx ats):ac X bd (.seq none .d (.seq none .d (.seq (some nm1) .d (.seq none .d (.seq none .d (.seq none .d (.seq none .d (.seq none .d (.seq none .d (.seq (some nm2) .d (.seq none .d (.seq none .d (.seq none (.region [(4,115000)]) .d))))))))))))) (fr0 l n kx ats) RR (fun _ _=>none) RR=f0 l n kx ats:=by
  refine (P0 l n kx ats).trans ?_
  show _=sh0 l n kx ats f1
  simp only [T1]
theorem run (l n kx ats):aJ X bd (.seq none .d (.seq none .d (.seq (some nm1) .d (.seq none .d (.seq none .d (.seq none .d (.seq none .d (.seq none .d (.seq none .d (.seq (some nm2) .d (.seq none .d (.seq none .d (.seq none (.region [(4,115000)]) .d))))))))))))) nmR [8] [] [(.lst .rule l),(.agg [(.lst .node n.nds),(.lst .link n.lks)]),(.int .u8 kx),(.lst .u32 ats)]=f0 l n kx ats:=T0 l n kx ats
theorem fin {l:List Rule} {n:Net} (hn:okN n=true) (hl:l.length≤7) {k:Nat} (hk:k < l.length) (hf:cN l n l[k].rl=true):f2 l (k:Int) n.nds n.lks=aH true:=by
  show sh2 l (k:Int) n.nds n.lks=_
  unfold sh2
  have hn':okN (⟨n.nds,n.lks⟩:Net)=true:=hn
  rw [aW hk,ak,ar hk,bE (show l.length≤90000 by omega),hn',bE (show (l.length+([_]:List Rule).length) * 64≤140737488355328 by simp; omega),bE (show l.length+([_]:List Rule).length≤9223372036854775807 by simp; omega)]
  show aa (aV (l++[cj l[k]]) n != 0) (aH true) (aa (fR (l++[cj l[k]]) n (k:Int) == 0) (aa (fR (l++[cj l[k]]) n (Int.ofNat l.length) == 0) (aa (gh (l++[cj l[k]]) n (k:Int)) (aH (gh (l++[cj l[k]]) n (Int.ofNat l.length))) (aH false)) (aH false)) (aH false))=_
  rcases cS (l++[cj l[k]]) n with ⟨e1,e2,e3⟩ | ⟨e1,e2,e3⟩
  · have hk2 : k < (l ++ [cj l[k]]).length := by simp; omega
    have hl2:l.length < (l++[cj l[k]]).length:=by simp
    have ek:(l++[cj l[k]])[k]=l[k]:=List.getElem_append_left hk
    have el:(l++[cj l[k]])[l.length]=cj l[k]:=by simp
    have r1:fQ (l++[cj l[k]]) (k:Int)=l[k]:=by unfold fQ; rw [ak,ar hk2,ek]
    have r2:fQ (l++[cj l[k]]) (Int.ofNat l.length)=cj l[k]:=by unfold fQ; rw [cR,ar hl2,el]
    have t2:(cj l[k]).rl=l[k].rl:=rfl
    have f1:cN (l++[cj l[k]]) n l[k].rl=true:=by
      unfold cN dg
      rw [oL hk]
      exact hf
    have g1:dt (l++[cj l[k]]) (k:Int)=true:=by simp only [dt,Bool.and_eq_true]; exact ⟨b7 (by omega),aX (by simp; omega)⟩
    have g2:dt (l++[cj l[k]]) (Int.ofNat l.length)=true:=by simp only [dt,Bool.and_eq_true]; exact ⟨b7 (by simp),aX (by simp; omega)⟩
    have c1:gN (l++[cj l[k]]) n l[k].rl (l++[cj l[k]]) (k:Int) n.nds=none:=nK hk2 hl2 (by omega) (by rw [ek,el]; rfl) (by rw [ek,el]; rfl) (by rw [ek,el]; rfl)
    have c2:gN (l++[cj l[k]]) n l[k].rl (l++[cj l[k]]) (Int.ofNat l.length) n.nds=none:=nK (a:=l.length) hl2 hk2 (by omega) (by rw [ek,el]; rfl) (by rw [ek,el]; rfl) (by rw [ek,el]; rfl)
    have h1:fR (l++[cj l[k]]) n (k:Int)=0:=by unfold fR; rw [e3,g1,r1,f1]; rfl
    have h2:fR (l++[cj l[k]]) n (Int.ofNat l.length)=0:=by unfold fR; rw [e3,g2,r2,t2,f1]; rfl
    have h3:gh (l++[cj l[k]]) n (k:Int)=true:=by unfold gh nf; rw [e2,g1,r1,f1,c1]; rfl
    have h4:gh (l++[cj l[k]]) n (Int.ofNat l.length)=true:=by unfold gh nf; rw [e2,g2,r2,t2,f1,c2]; rfl
    rw [e3,h1,h2,h3,h4]
    rfl
  · rw [e3]; rfl
theorem f0_eq (l : List Rule) (n : Net) (kx : Int) (ats : List UInt32) (h : (Lit.wf (.int .u8 kx)) = true) : f0 l n kx ats = aH true := by
  have hk0:0≤kx∧kx≤255:=by
    have h':=h
    simp [Lit.wf,IntKind.min,IntKind.max,IntKind.signed,IntKind.bits] at h'
    omega
  show sh0 l n kx ats f1=_
  unfold sh0
  cases h0:(Int.ofNat l.length == 0) with
  | true=>rfl
  | false =>
    cases h7:ilt 7 (Int.ofNat l.length) with
    | true=>rfl
    | false =>
      cases hr:fT l n with
      | false=>rfl
      | true =>
        obtain ⟨hl,hn,hg⟩:=ro hr
        obtain ⟨g1,g2,g3⟩:=gM hg
        cases ilt 20 (Int.ofNat ats.length) with
        | true=>rfl
        | false =>
          show sh1 l kx ats n.nds n.lks f2=_
          unfold sh1
          have hl7:l.length≤7:=by have:=iw h7; simp at this; omega
          have hp:0 < l.length:=by
            rcases Nat.eq_zero_or_pos l.length with e | e
            · rw [e] at h0; cases h0
            · exact e
          obtain ⟨q,rfl⟩:=Int.eq_ofNat_of_zero_le hk0.1
          obtain ⟨k,hkq⟩:∃ k,k=q%l.length:=⟨_,rfl⟩
          have hk:k < l.length:=by rw [hkq]; exact Nat.mod_lt _ hp
          have e1:Int.tmod (IntKind.wrap .i64 (q:Int)) (Int.ofNat l.length)=(k:Int):=by rw [eF (by omega) (by omega),hkq]; rfl
          have e3:((Int.ofNat l.length) != 0)=true:=by rw [bne,h0]; rfl
          have hn':okN (⟨n.nds,n.lks⟩:Net)=true:=hn
          have hlv:gQ (⟨n.nds,n.lks⟩:Net)=true:=lz g2
          have hnl:=bQ (gd hn)
          have hv:=p9 (lz g2) ats
          rw [e1,bD k (by omega),ak k,ak (k+1),cR,aW hk,e3,hn',mg hl,hlv,ar hk]
          cases lq l (⟨n.nds,n.lks⟩:Net) l[k].rl with
          | true=>rfl
          | false =>
            have hkr:fQ l (k:Int)=l[k]:=by unfold fQ; rw [ak,ar hk]
            have hrg:dt l (k:Int)=true:=by simp only [dt,Bool.and_eq_true]; exact ⟨b7 (by omega),aX (by simp; omega)⟩
            have hE:fR l (⟨n.nds,n.lks⟩:Net) (k:Int)=bif cN l n l[k].rl then 0 else 6:=by
              show fR l n (k:Int)=_
              unfold fR; rw [hg,hrg,hkr]; rfl
            rw [hE]
            cases hf:cN l n l[k].rl with
            | false=>rfl
            | true =>
              have hfin:f2 l (k:Int) n.nds n.lks=aH true:=fin hn hl7 hk hf
              have hB:gh l (⟨n.nds,n.lks⟩:Net) (k:Int)=Option.isNone (gN l n l[k].rl l (k:Int) n.nds):=by
                show gh l n (k:Int)=_
                unfold gh nf; rw [hg,hrg,hkr,hf]; rfl
              rw [hfin,hB,b7 (show (0:Int)≤Int.ofNat n.lks.length by simp),b7 (show Int.ofNat n.lks.length≤Int.ofNat n.lks.length by omega),b7 (show (Int.ofNat n.lks.length) * 8≤140737488355328 by simp; omega)]
              cases hu:gN l n l[k].rl l (k:Int) n.nds with
              | some i=>rfl
              | none =>
                have hset1:gz l (⟨n.nds,n.lks⟩:Net) (dj n.nds ats) (List.replicate n.lks.length aL)=true:=pg g1 g2 g3 hv.1
                have hset2:gz (l.take k++l.drop (k+1)) (⟨n.nds,n.lks⟩:Net) (dj n.nds ats) (List.replicate n.lks.length aL)=true:=pg (oI hk g1) g2 (oJ nI g3) hv.1
                have hO:=qj (bf:=List.replicate n.lks.length aL) g2 g3 hv (by simp) hk hu
                have hsE:gC (l.take k++l.drop (k+1)) (⟨n.nds,n.lks⟩:Net) (dj n.nds ats) (List.replicate n.lks.length aL)=gC l (⟨n.nds,n.lks⟩:Net) (dj n.nds ats) (List.replicate n.lks.length aL):=by
                  show gC (l.take k++l.drop (k+1)) n _ _=gC l n _ _
                  unfold gC; rw [hO]
                have hsL:eS (l.take k++l.drop (k+1)) (⟨n.nds,n.lks⟩:Net) (dj n.nds ats) (List.replicate n.lks.length aL)=eS l (⟨n.nds,n.lks⟩:Net) (dj n.nds ats) (List.replicate n.lks.length aL):=by
                  show eS (l.take k++l.drop (k+1)) n _ _=eS l n _ _
                  unfold eS; rw [hO]
                have hlen:nle (eS l (⟨n.nds,n.lks⟩:Net) (dj n.nds ats) (List.replicate n.lks.length aL)).length 90000=true:=bE (by
                  show (eS l n _ _).length≤90000
                  unfold eS
                  cases hs:lB l n (dj n.nds ats) (List.replicate n.lks.length aL) with
                  | none=>simp
                  | some z =>
                    have:=(ks l _ _ z (fun a ha=>by
                      rw [List.length_replicate]
                      have:=ib (dM g3 a ha)
                      exact ⟨this.1,this.2.1⟩) hs).1
                    rw [List.length_replicate] at this
                    simp
                    omega)
                rw [hset1,hset2,hsE,hsL,hlen,rd,bE (show l.length≤90000 by omega),bE (show l.length≤1000000 by omega),b7 (show (0:Int)≤(k:Int) by omega),aX (show (k:Int) < ((k+1:Nat):Int) by omega),b7 (show ((k+1:Nat):Int)≤Int.ofNat l.length by simp; omega)]
                simp only [bne_self_eq_false]
                rfl
theorem ok:CtxOk Tryz.prog X:=aI tab (spC awake.spOk (spC equalI.spOk (spC many.spOk (spC covered.spOk (spC ready.spOk (spC cloneR.spOk (spC levels.spOk (spC usettings.spOk (spC rgiven.spOk spN))))))))) dpN
theorem okM:MOk Tryz.prog X:=eD _ (mpC (ta rfl ok) mpN)
theorem spec (l:List Rule) (n:Net) (kx:Int) (ats:List UInt32) (h:(Lit.wf (.int .u8 kx))=true):aj Tryz.prog E 9 [(.lst .rule l),(.agg [(.lst .node n.nds),(.lst .link n.lks)]),(.int .u8 kx),(.lst .u32 ats)] (.bool (true)) [] :=
  ae ok okM Tryz.call9 Tryz.func9 (by kernel_rfl) (by kernel_rfl) (by kernel_rfl) (by show 4≤150; decide) (by decide) (by rfl) ((run l n kx ats).trans (f0_eq l n kx ats h))
noncomputable def sp:Sp U El:=fun args k=>match args with
  | [.lst .rule l,.agg [.lst .node n_nds,.lst .link n_lks],.int .u8 kx,.lst .u32 ats]=>chk (Lit.wf (.int .u8 kx)) (k (.bool (true)) [])
  | _=>none
theorem spOk:SpOk Tryz.prog E 9 sp where
  det:=fun vs=>by
    unfold sp
    split
    · exact aY _ _ _
    · exact ⟨none,fun _=>rfl⟩
  ok:=fun vs k r h=>by
    unfold sp at h
    split at h
    · obtain ⟨h1, h2⟩ := af h
      exact ⟨_,_,spec _ ⟨_,_⟩ _ _ h1,h2⟩
    · cases h
end lawLeaves
end Go.Proofs.YthdimnlkcgchoaaGreat
