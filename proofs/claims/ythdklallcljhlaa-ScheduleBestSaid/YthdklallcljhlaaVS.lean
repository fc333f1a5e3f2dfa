/- The greedy plan, as the code makes it. -/
import Derived.Test.YthdklallcljhlaaVR
namespace Go.Proofs.Ythdklallcljhlaa
set_option linter.unusedSectionVars false
set_option linter.unusedSimpArgs false
set_option linter.unusedVariables false
set_option maxRecDepth 100000
noncomputable def nextG (l:List Work) (dn:List Bool):Nat→Nat→Int→Int
  | 0,_,nx=>nx
  | n+1,k,nx=>bif rdyB l dn (k:Int) then (bif ilt nx 0 then nextG l dn n (k+1) (k:Int) else bif ilt (List.getD l k d_work).wd (List.getD l (Int.toNat nx) d_work).wd then nextG l dn n (k+1) (k:Int) else nextG l dn n (k+1) nx) else nextG l dn n (k+1) nx
noncomputable def nextN (l:List Work) (dn:List Bool):Int:=nextG l dn l.length 0 (-1)
noncomputable def bestC (l:List Work) (sl:List Slot) (dn:List Bool):Int:=minZ l sl dn (nextN l dn) (List.getD l (Int.toNat (nextN l dn)) d_work).wc
noncomputable def stepS (l:List Work) (sl:List Slot) (dn:List Bool):List Slot:=List.set sl (Int.toNat (nextN l dn)) ⟨nextN l dn,bestC l sl dn,startZ l sl dn (nextN l dn) (bestC l sl dn)⟩
noncomputable def greedyS (l:List Work):Nat→List Slot→List Bool→List Slot
  | 0,sl,_=>sl
  | n+1,sl,dn=>greedyS l n (stepS l sl dn) (List.set dn (Int.toNat (nextN l dn)) true)
noncomputable def greedyL (l:List Work) (crews:Int):List Slot:=bif !(validB l crews) then [] else greedyS l l.length (List.replicate l.length d_slot) (List.replicate l.length d_bool)
noncomputable def greedyE (l:List Work) (crews:Int):Int:=bif !(validB l crews) then 1 else 0
theorem wk_wc {n crews:Int} {dup:Bool} {w:Work} (h:wk n crews dup w=true):0 < w.wc.length:=by
  simp only [wk,Bool.and_eq_true,Bool.not_eq_true'] at h
  have:=beq_eq_false_iff_ne.1 h.2.2.2.1
  simp at this
  exact List.length_pos_iff.2 this
theorem goodW_wc {n crews:Int}:∀ {l seen:List Work},goodW n crews seen l=true→∀ w∈l,0 < w.wc.length:=by
  intro l
  induction l with
  | nil=>intro seen _ w hw; cases hw
  | cons x l ih =>
    intro seen h w hw
    simp only [goodW,Bool.and_eq_true] at h
    rcases List.mem_cons.1 hw with rfl | hw
    · exact wk_wc h.1
    · exact ih h.2 w hw
structure GS (l:List Work) (sl:List Slot) (dn:List Bool):Prop where
  len:sl.length=l.length
  sw:∀ s∈sl,inb s.sw l.length=true
  good:Good l dn
theorem SS_mk {l:List Work} {crews:Int} {sl:List Slot} {dn:List Bool} {q:Nat} (hv:okV l=true) (h:validB l crews=true) (hg:GS l sl dn) (hq:q < l.length) (hr:rdyB l dn (q:Int)=true):SS l sl dn q:=by
  have hok:=valid_okF (p:=sl) hv h hg.len hq
  obtain ⟨q',e,hf⟩:=okF_of hok
  obtain rfl:q=q':=Int.ofNat.inj e
  obtain ⟨g1,g2⟩:=rdy_of hr
  refine ⟨hf,hok,hg.good.1,hg.sw,g1,fun a ha => ?_⟩
  have hb:=hf.ain a ha
  simp only [inb,Bool.and_eq_true] at hb
  obtain ⟨u,rfl⟩:=Int.eq_ofNat_of_zero_le (ileI hb.1)
  have hu:=iltI hb.2
  have hd:=g2 _ ha
  rw [toNat_nat] at hd
  exact ⟨u,rfl,by simp at hu; omega,hd,fun e=>by rw [e,g1] at hd; cases hd⟩
def Pz (l:List Work) (dn:List Bool) (nx:Int):Prop:=nx = -1∨∃ q:Nat,nx=(q:Int)∧q < l.length∧rdyB l dn (q:Int)=true
theorem next_spec (l : List Work) (dn : List Bool) : ∀ (n k : Nat) (nx : Int), k + n = l.length → Pz l dn nx → Pz l dn (nextG l dn n k nx) ∧ ((nx ≠ -1 ∨ ∃ j : Nat, k ≤ j ∧ j < l.length ∧ rdyB l dn (j : Int) = true) → nextG l dn n k nx ≠ -1) := by
  intro n
  induction n with
  | zero =>
    intro k nx hk hp
    refine ⟨hp,fun h => ?_⟩
    rcases h with h | ⟨j,h1,h2,_⟩
    · exact h
    · omega
  | succ n ih =>
    intro k nx hk hp
    simp only [nextG]
    cases hr:rdyB l dn (k:Int) with
    | true =>
      have hpk:Pz l dn (k:Int) := .inr ⟨k,rfl,by omega,hr⟩
      have a1:=ih (k+1) (k:Int) (by omega) hpk
      have a2:=ih (k+1) nx (by omega) hp
      rw [cond_true]
      cases hn:ilt nx 0 with
      | true=>exact ⟨a1.1,fun _=>a1.2 (.inl (by omega))⟩
      | false =>
        rw [cond_false]
        have hne:nx ≠ -1:=by have:=iltN hn; omega
        cases ilt (List.getD l k d_work).wd (List.getD l (Int.toNat nx) d_work).wd with
        | true=>exact ⟨a1.1,fun _=>a1.2 (.inl (by omega))⟩
        | false=>exact ⟨a2.1,fun _=>a2.2 (.inl hne)⟩
    | false =>
      have a2:=ih (k+1) nx (by omega) hp
      rw [cond_false]
      refine ⟨a2.1,fun h=>a2.2 ?_⟩
      rcases h with h | ⟨j,h1,h2,h3⟩
      · exact .inl h
      · refine .inr ⟨j, ?_, h2, h3⟩
        by_cases e:j=k
        · subst e; rw [hr] at h3; cases h3
        · omega
theorem next_ok {l:List Work} {crews:Int} {sl:List Slot} {dn:List Bool} (hv:okV l=true) (h:validB l crews=true) (hg:GS l sl dn) (hp:0 < cntF dn):∃ q:Nat,nextN l dn=(q:Int)∧q < l.length∧rdyB l dn (q:Int)=true:=by
  have hV:=valid_of h
  have hO:=good_okO hv hV.good
  obtain ⟨i,hi,h1,h2⟩:=stuck (topo_acyc hV.topo) hg.good.1 (fun w hw=>((okO_len hO).2 w hw).2) hp
  have hr:rdyB l dn (i:Int)=true:=by
    simp only [rdyB,Bool.and_eq_true,Bool.not_eq_true',toNat_nat]
    refine ⟨h1,List.any_eq_false.2 fun a ha => ?_⟩
    rw [getD_lt hi] at ha
    have h3:=List.all_eq_true.1 h2 a ha
    have:undone dn a=false:=by unfold undone; rw [h3]; rfl
    rw [this]
    simp
  obtain ⟨g1,g2⟩:=next_spec l dn l.length 0 (-1) (by omega) (.inl rfl)
  rcases g1 with g1 | g1
  · exact absurd g1 (g2 (.inr ⟨i,by omega,hi,hr⟩))
  · exact g1
theorem GS_step {l:List Work} {sl:List Slot} {dn:List Bool} {q:Nat} (hg:GS l sl dn) (hq:q < l.length) (hr:rdyB l dn (q:Int)=true) (c z:Int):GS l (sl.set q ⟨(q:Int),c,z⟩) (dn.set q true)∧cntF (dn.set q true)+1=cntF dn:=by
  obtain ⟨g1,g2⟩:=rdy_of hr
  refine ⟨⟨by rw [List.length_set]; exact hg.len,fun s hs => ?_,good_set hg.good hq g1 (List.all_eq_true.2 fun a ha=>g2 a (by rw [getD_lt hq]; exact ha))⟩,cnt_set dn q (by rw [hg.good.1]; exact hq) g1⟩
  rcases List.mem_or_eq_of_mem_set hs with h1 | rfl
  · exact hg.sw s h1
  · exact inbT hq
noncomputable def outGr (p:List Slot) (e:Int):R:=some ((.tup [(.lst .slot p),(.int .i64 e)]),[])
namespace greedy
noncomputable def bd:Code:=(Try.f18.body).getD .skip
noncomputable def X:Ctx U El:=⟨E,tds,zeros,eqs,specOf [(13,valid.sp),(44,ready.sp)],100000,63,dspecOf [],mspecOf [(42,(mcSp draftOf.sp)),(45,(mcSp place.sp)),(49,(mcSp minF.sp))]⟩
noncomputable def nmR:Norm U:=⟨[],[4,5],[],[(4,.slot)],[],[],[]⟩
noncomputable def RR:Kont U El:=fun st=>normK nmR st (retFin [4,5] [])
noncomputable def nm1:Norm U:=⟨[],[6],[6,16000,501600001,501600002],[],[(16000,1,.slot,501600001),(16000,2,.bool,501600002)],[],[(16000,0,.work)]⟩
noncomputable def nm2:Norm U:=⟨[],[0,6,18,19],[6,16000,501600001,501600002],[],[(16000,1,.slot,501600001),(16000,2,.bool,501600002)],[],[(16000,0,.work)]⟩
noncomputable def nm3:Norm U:=⟨[],[0,6,18,19],[6,16000,501600001,501600002],[],[(16000,1,.slot,501600001),(16000,2,.bool,501600002)],[],[(16000,0,.work)]⟩
noncomputable def nm4:Norm U:=⟨[],[0,6,7,18,19],[6,7,16000,501600001,501600002],[],[(16000,1,.slot,501600001),(16000,2,.bool,501600002)],[],[(16000,0,.work)]⟩
noncomputable def nm5:Norm U:=⟨[],[0,6,7,18,19,21,22,23],[6,7,16000,501600001,501600002],[],[(16000,1,.slot,501600001),(16000,2,.bool,501600002)],[],[(16000,0,.work)]⟩
noncomputable def nm6:Norm U:=⟨[],[0,6,7,18,19,21,22,23],[6,7,16000,501600001,501600002],[],[(16000,1,.slot,501600001),(16000,2,.bool,501600002)],[],[(16000,0,.work)]⟩
abbrev Y1:=(List Work)→(List Slot)→(List Bool)→R
abbrev Y2:=(List Work)→Int→Int→(List Work)→(List Slot)→(List Bool)→R
abbrev Y3:=(List Work)→Int→Int→(List Work)→(List Slot)→(List Bool)→R
abbrev Y4:=(List Work)→Int→Int→Int→(List Work)→(List Slot)→(List Bool)→R
abbrev Y5:=(List Work)→Int→Int→(List Work)→Int→Int→Int→(List Work)→(List Slot)→(List Bool)→R
abbrev Y6:=(List Work)→Int→Int→(List Work)→Int→Int→Int→(List Work)→(List Slot)→(List Bool)→R
noncomputable def fr0 (l:List Work) (crews:Int):St U El:=⟨[(0,(.lst .work l)),(1,(.int .i64 crews))],[]⟩
noncomputable def fr1 (aA:List Work) (cA:List Slot) (bA:List Bool):St U El:=⟨[(6,(.ptr 6 0))],[(6,(.box 0 [(.ptr 16000 0)])),(16000,(.box 0 [(.lst .work aA),(.ful 501600001),(.ful 501600002)])),(501600001,(.rows .slot cA)),(501600002,(.rows .bool bA))]⟩
noncomputable def fr2 (l0:List Work) (eA:Int) (fA:Int) (aA:List Work) (cA:List Slot) (bA:List Bool):St U El:=⟨[(0,(.lst .work l0)),(6,(.ptr 6 0)),(18,(.int .i64 eA)),(19,(.int .i64 fA))],[(6,(.box 0 [(.ptr 16000 0)])),(16000,(.box 0 [(.lst .work aA),(.ful 501600001),(.ful 501600002)])),(501600001,(.rows .slot cA)),(501600002,(.rows .bool bA))]⟩
noncomputable def fr3 (l0:List Work) (eA:Int) (fA:Int) (aA:List Work) (cA:List Slot) (bA:List Bool):St U El:=⟨[(0,(.lst .work l0)),(6,(.ptr 6 0)),(18,(.int .i64 eA)),(19,(.int .i64 fA))],[(6,(.box 0 [(.ptr 16000 0)])),(16000,(.box 0 [(.lst .work aA),(.ful 501600001),(.ful 501600002)])),(501600001,(.rows .slot cA)),(501600002,(.rows .bool bA))]⟩
noncomputable def fr4 (l0:List Work) (eA:Int) (fA:Int) (dA:Int) (aA:List Work) (cA:List Slot) (bA:List Bool):St U El:=⟨[(0,(.lst .work l0)),(6,(.ptr 6 0)),(7,(.ptr 7 0)),(18,(.int .i64 eA)),(19,(.int .i64 fA))],[(6,(.box 0 [(.ptr 16000 0)])),(7,(.box 0 [(.int .i64 dA)])),(16000,(.box 0 [(.lst .work aA),(.ful 501600001),(.ful 501600002)])),(501600001,(.rows .slot cA)),(501600002,(.rows .bool bA))]⟩
noncomputable def fr5 (l0:List Work) (eA:Int) (fA:Int) (hA:List Work) (iA:Int) (gA:Int) (dA:Int) (aA:List Work) (cA:List Slot) (bA:List Bool):St U El:=⟨[(0,(.lst .work l0)),(6,(.ptr 6 0)),(7,(.ptr 7 0)),(18,(.int .i64 eA)),(19,(.int .i64 fA)),(21,(.lst .work hA)),(22,(.int .i64 iA)),(23,(.int .i64 gA))],[(6,(.box 0 [(.ptr 16000 0)])),(7,(.box 0 [(.int .i64 dA)])),(16000,(.box 0 [(.lst .work aA),(.ful 501600001),(.ful 501600002)])),(501600001,(.rows .slot cA)),(501600002,(.rows .bool bA))]⟩
noncomputable def fr6 (l0:List Work) (eA:Int) (fA:Int) (hA:List Work) (iA:Int) (gA:Int) (dA:Int) (aA:List Work) (cA:List Slot) (bA:List Bool):St U El:=⟨[(0,(.lst .work l0)),(6,(.ptr 6 0)),(7,(.ptr 7 0)),(18,(.int .i64 eA)),(19,(.int .i64 fA)),(21,(.lst .work hA)),(22,(.int .i64 iA)),(23,(.int .i64 gA))],[(6,(.box 0 [(.ptr 16000 0)])),(7,(.box 0 [(.int .i64 dA)])),(16000,(.box 0 [(.lst .work aA),(.ful 501600001),(.ful 501600002)])),(501600001,(.rows .slot cA)),(501600002,(.rows .bool bA))]⟩
noncomputable def sh0 (l:List Work) (crews:Int) (k2:Y2):R :=
  chk (okV l) (condB (!(validB l crews)) (some ((.tup [(.lst .slot ([]:List Slot)),(.int .i64 (1:Int))]),[])) (chk (nle (List.length l) 90000) (k2 l (Int.ofNat (List.length l)) (0:Int) (l) (List.replicate (List.length l) d_slot) (List.replicate (List.length l) d_bool))))
noncomputable def sh1 (aA:List Work) (cA:List Slot) (bA:List Bool):R :=
  some ((.tup [(.lst .slot cA),(.int .i64 (0:Int))]),[])
noncomputable def sh2 (l0:List Work) (eA:Int) (fA:Int) (aA:List Work) (cA:List Slot) (bA:List Bool) (k1:Y1) (k5:Y5):R :=
  condB (ilt fA eA) (k5 l0 eA fA l0 (Int.ofNat (List.length l0)) (0:Int) (-1:Int) aA cA bA) (k1 aA cA bA)
noncomputable def sh3 (l0:List Work) (eA:Int) (fA:Int) (aA:List Work) (cA:List Slot) (bA:List Bool) (k2:Y2):R :=
  k2 l0 eA (IntKind.wrap .i64 (fA+(1:Int))) aA cA bA
noncomputable def sh4 (l0:List Work) (eA:Int) (fA:Int) (dA:Int) (aA:List Work) (cA:List Slot) (bA:List Bool) (k3:Y3):R :=
  chk (inb dA (List.length l0)) (chk ((okS aA cA bA dA&&(nlt 0 (List.length ((List.getD l0 (Int.toNat dA) d_work).wc))&&nle (List.length ((List.getD l0 (Int.toNat dA) d_work).wc)) 90000))) (chk (okS aA (minO aA cA bA dA ((List.getD l0 (Int.toNat dA) d_work).wc)) bA dA) (k3 l0 eA fA aA (List.set (minO aA cA bA dA ((List.getD l0 (Int.toNat dA) d_work).wc)) (Int.toNat dA) (⟨dA,(minZ aA cA bA dA ((List.getD l0 (Int.toNat dA) d_work).wc)),startZ aA (minO aA cA bA dA ((List.getD l0 (Int.toNat dA) d_work).wc)) bA dA (minZ aA cA bA dA ((List.getD l0 (Int.toNat dA) d_work).wc))⟩:Slot)) (List.set bA (Int.toNat dA) true))))
noncomputable def sh5 (l0:List Work) (eA:Int) (fA:Int) (hA:List Work) (iA:Int) (gA:Int) (dA:Int) (aA:List Work) (cA:List Slot) (bA:List Bool) (k4:Y4) (k6:Y6):R :=
  condB (ilt gA iA) (chk (inb gA (List.length hA)) (chk (okR aA bA gA) (condB (rdyB aA bA gA) (condB (ilt dA (0:Int)) (k6 l0 eA fA hA iA gA gA aA cA bA) (chk (inb dA (List.length l0)) (condB (ilt ((List.getD hA (Int.toNat gA) d_work).wd) ((List.getD l0 (Int.toNat dA) d_work).wd)) (k6 l0 eA fA hA iA gA gA aA cA bA) (k6 l0 eA fA hA iA gA dA aA cA bA)))) (k6 l0 eA fA hA iA gA dA aA cA bA)))) (k4 l0 eA fA dA aA cA bA)
noncomputable def sh6 (l0:List Work) (eA:Int) (fA:Int) (hA:List Work) (iA:Int) (gA:Int) (dA:Int) (aA:List Work) (cA:List Slot) (bA:List Bool) (k5:Y5):R :=
  k5 l0 eA fA hA iA (IntKind.wrap .i64 (gA+(1:Int))) dA aA cA bA
noncomputable def it2 (Kb1:Kont U El) (n:Nat):Kont U El:=iter nm2 (fun st' K'=>exec X (cdp [1,1,1,0,1,0,0] bd) (.seq none .d (.seq none .d (.seq (some nm3) (.block (.seq none .d (.seq (some nm4) (.seq none .d (.block (.loop nm5 (.seq none .d (.seq none .d (.seq (some nm6) .d .d)))))) .d))) .d))) st' K' (Eblk 0 (cutK nm1 Kb1) (fun _ _=>none)) RR) n
noncomputable def it5 (Kb1 Kb3 Kb4:Kont U El) (n:Nat):Kont U El:=iter nm5 (fun st' K'=>exec X (cdp [1,1,1,0,1,0,0,1,1,0,0,1,0,1,0,0] bd) (.seq none .d (.seq none .d (.seq (some nm6) .d .d))) st' K' (Eblk 2 (cutK nm4 Kb4) (Eblk 1 (cutK nm3 Kb3) (Eblk 0 (cutK nm1 Kb1) (fun _ _=>none)))) RR) n
noncomputable def ct1:Kont U El:=fun st=>exec X (cdp [1,1,1,1] bd) .d st RR (fun _ _=>none) RR
noncomputable def ct3 (Kb1 Kb2:Kont U El):Kont U El:=fun st=>exec X (cdp [1,1,1,0,1,0,0,1,1,1] bd) .d st (cutK nm2 Kb2) (Eblk 0 (cutK nm1 Kb1) (fun _ _=>none)) RR
noncomputable def ct4 (Kb1 Kb3:Kont U El):Kont U El:=fun st=>exec X (cdp [1,1,1,0,1,0,0,1,1,0,0,1,1] bd) .d st (cutK nm3 Kb3) (Eblk 1 (cutK nm3 Kb3) (Eblk 0 (cutK nm1 Kb1) (fun _ _=>none))) RR
noncomputable def ct6 (Kb1 Kb3 Kb4 Kb5:Kont U El):Kont U El:=fun st=>exec X (cdp [1,1,1,0,1,0,0,1,1,0,0,1,0,1,0,0,1,1,1] bd) .d st (cutK nm5 Kb5) (Eblk 2 (cutK nm4 Kb4) (Eblk 1 (cutK nm3 Kb3) (Eblk 0 (cutK nm1 Kb1) (fun _ _=>none)))) RR
theorem P0 (l crews):exec X (cdp [] bd) (.seq none .d (.seq none .d (.seq none .d (.seq (some nm1) (.seq none .d (.block (.loop nm2 (.seq none .d (.seq none .d (.seq (some nm3) (.block (.seq none .d (.seq (some nm4) (.seq none .d (.block (.loop nm5 (.seq none .d (.seq none .d (.seq (some nm6) .d .d)))))) .d))) .d)))))) .d)))) (fr0 l crews) RR (fun _ _=>none) RR=sh0 l crews (fun y0 y1 y2 y3 y4 y5=>(hid (it2 (hid ct1) 100000)) (fr2 y0 y1 y2 y3 y4 y5)):=by kernel_rfl
theorem P1 (aA cA bA):ct1 (fr1 aA cA bA)=sh1 aA cA bA:=by kernel_rfl
theorem P2 (l0 eA fA aA cA bA) (Kb1 Kb2:Kont U El):exec X (cdp [1,1,1,0,1,0,0] bd) (.seq none .d (.seq none .d (.seq (some nm3) (.block (.seq none .d (.seq (some nm4) (.seq none .d (.block (.loop nm5 (.seq none .d (.seq none .d (.seq (some nm6) .d .d)))))) .d))) .d))) (fr2 l0 eA fA aA cA bA) (cutK nm2 Kb2) (Eblk 0 (cutK nm1 Kb1) (fun _ _=>none)) RR=sh2 l0 eA fA aA cA bA (fun y0 y1 y2=>Kb1 (fr1 y0 y1 y2)) (fun y0 y1 y2 y3 y4 y5 y6 y7 y8 y9=>(hid (it5 Kb1 (hid (ct3 Kb1 Kb2)) (hid (ct4 Kb1 (hid (ct3 Kb1 Kb2)))) 100000)) (fr5 y0 y1 y2 y3 y4 y5 y6 y7 y8 y9)):=by kernel_rfl
theorem P3 (l0 eA fA aA cA bA) (Kb1 Kb2:Kont U El):ct3 Kb1 Kb2 (fr3 l0 eA fA aA cA bA)=sh3 l0 eA fA aA cA bA (fun y0 y1 y2 y3 y4 y5=>Kb2 (fr2 y0 y1 y2 y3 y4 y5)):=by kernel_rfl
theorem P4 (l0 eA fA dA aA cA bA) (Kb1 Kb3:Kont U El):ct4 Kb1 Kb3 (fr4 l0 eA fA dA aA cA bA)=sh4 l0 eA fA dA aA cA bA (fun y0 y1 y2 y3 y4 y5=>Kb3 (fr3 y0 y1 y2 y3 y4 y5)):=by kernel_rfl
theorem P5 (l0 eA fA hA iA gA dA aA cA bA) (Kb1 Kb3 Kb4 Kb5:Kont U El):exec X (cdp [1,1,1,0,1,0,0,1,1,0,0,1,0,1,0,0] bd) (.seq none .d (.seq none .d (.seq (some nm6) .d .d))) (fr5 l0 eA fA hA iA gA dA aA cA bA) (cutK nm5 Kb5) (Eblk 2 (cutK nm4 Kb4) (Eblk 1 (cutK nm3 Kb3) (Eblk 0 (cutK nm1 Kb1) (fun _ _=>none)))) RR=sh5 l0 eA fA hA iA gA dA aA cA bA (fun y0 y1 y2 y3 y4 y5 y6=>Kb4 (fr4 y0 y1 y2 y3 y4 y5 y6)) (fun y0 y1 y2 y3 y4 y5 y6 y7 y8 y9=>(hid (ct6 Kb1 Kb3 Kb4 Kb5)) (fr6 y0 y1 y2 y3 y4 y5 y6 y7 y8 y9)):=by kernel_rfl
theorem P6 (l0 eA fA hA iA gA dA aA cA bA) (Kb1 Kb3 Kb4 Kb5:Kont U El):ct6 Kb1 Kb3 Kb4 Kb5 (fr6 l0 eA fA hA iA gA dA aA cA bA)=sh6 l0 eA fA hA iA gA dA aA cA bA (fun y0 y1 y2 y3 y4 y5 y6 y7 y8 y9=>Kb5 (fr5 y0 y1 y2 y3 y4 y5 y6 y7 y8 y9)):=by kernel_rfl
noncomputable def f1 (aA:List Work) (cA:List Slot) (bA:List Bool):R:=sh1 aA cA bA
noncomputable def f3 (k2:Y2) (l0:List Work) (eA:Int) (fA:Int) (aA:List Work) (cA:List Slot) (bA:List Bool):R:=sh3 l0 eA fA aA cA bA k2
noncomputable def f4 (k2:Y2) (l0:List Work) (eA:Int) (fA:Int) (dA:Int) (aA:List Work) (cA:List Slot) (bA:List Bool):R:=sh4 l0 eA fA dA aA cA bA (f3 k2)
noncomputable def f6 (k2:Y2) (k5:Y5) (l0:List Work) (eA:Int) (fA:Int) (hA:List Work) (iA:Int) (gA:Int) (dA:Int) (aA:List Work) (cA:List Slot) (bA:List Bool):R:=sh6 l0 eA fA hA iA gA dA aA cA bA k5
noncomputable def f5 (k2:Y2):Nat→Y5
  | 0=>fun _ _ _ _ _ _ _ _ _ _=>none
  | n+1=>fun l0 eA fA hA iA gA dA aA cA bA=>sh5 l0 eA fA hA iA gA dA aA cA bA (f4 k2) (f6 k2 (f5 k2 n))
noncomputable def f2:Nat→Y2
  | 0=>fun _ _ _ _ _ _=>none
  | n+1=>fun l0 eA fA aA cA bA=>sh2 l0 eA fA aA cA bA f1 (f5 (f2 n) 100000)
noncomputable def f0 (l:List Work) (crews:Int):R:=sh0 l crews (f2 100000)
theorem T1 (aA cA bA):(hid ct1) (fr1 aA cA bA)=f1 aA cA bA:=by
  refine (congrFun (hid_eq _) _).trans <| (P1 aA cA bA).trans ?_
  show _=sh1 aA cA bA
  rfl
theorem T3 (KL2:Kont U El) (k2:Y2) (h2:∀ l0 eA fA aA cA bA,KL2 (fr2 l0 eA fA aA cA bA)=k2 l0 eA fA aA cA bA) (l0 eA fA aA cA bA):(hid (ct3 (hid ct1) KL2)) (fr3 l0 eA fA aA cA bA)=f3 k2 l0 eA fA aA cA bA:=by
  refine (congrFun (hid_eq _) _).trans <| (P3 l0 eA fA aA cA bA (hid ct1) KL2).trans ?_
  show _=sh3 l0 eA fA aA cA bA k2
  simp only [h2]
theorem T4 (KL2:Kont U El) (k2:Y2) (h2:∀ l0 eA fA aA cA bA,KL2 (fr2 l0 eA fA aA cA bA)=k2 l0 eA fA aA cA bA) (l0 eA fA dA aA cA bA):(hid (ct4 (hid ct1) (hid (ct3 (hid ct1) KL2)))) (fr4 l0 eA fA dA aA cA bA)=f4 k2 l0 eA fA dA aA cA bA:=by
  refine (congrFun (hid_eq _) _).trans <| (P4 l0 eA fA dA aA cA bA (hid ct1) (hid (ct3 (hid ct1) KL2))).trans ?_
  show _=sh4 l0 eA fA dA aA cA bA (f3 k2)
  simp only [T3 KL2 k2 h2]
theorem T6 (KL2:Kont U El) (KL5:Kont U El) (k2:Y2) (k5:Y5) (h2:∀ l0 eA fA aA cA bA,KL2 (fr2 l0 eA fA aA cA bA)=k2 l0 eA fA aA cA bA) (h5:∀ l0 eA fA hA iA gA dA aA cA bA,KL5 (fr5 l0 eA fA hA iA gA dA aA cA bA)=k5 l0 eA fA hA iA gA dA aA cA bA) (l0 eA fA hA iA gA dA aA cA bA):(hid (ct6 (hid ct1) (hid (ct3 (hid ct1) KL2)) (hid (ct4 (hid ct1) (hid (ct3 (hid ct1) KL2)))) KL5)) (fr6 l0 eA fA hA iA gA dA aA cA bA)=f6 k2 k5 l0 eA fA hA iA gA dA aA cA bA:=by
  refine (congrFun (hid_eq _) _).trans <| (P6 l0 eA fA hA iA gA dA aA cA bA (hid ct1) (hid (ct3 (hid ct1) KL2)) (hid (ct4 (hid ct1) (hid (ct3 (hid ct1) KL2)))) KL5).trans ?_
  show _=sh6 l0 eA fA hA iA gA dA aA cA bA k5
  simp only [h5]
theorem T5 (KL2:Kont U El) (k2:Y2) (h2:∀ l0 eA fA aA cA bA,KL2 (fr2 l0 eA fA aA cA bA)=k2 l0 eA fA aA cA bA):∀ (n:Nat),∀ l0 eA fA hA iA gA dA aA cA bA,it5 (hid ct1) (hid (ct3 (hid ct1) KL2)) (hid (ct4 (hid ct1) (hid (ct3 (hid ct1) KL2)))) n (fr5 l0 eA fA hA iA gA dA aA cA bA)=f5 k2 n l0 eA fA hA iA gA dA aA cA bA:=by
  intro n
  induction n with
  | zero=>intros; rfl
  | succ n ih =>
    intro l0 eA fA hA iA gA dA aA cA bA
    refine (P5 l0 eA fA hA iA gA dA aA cA bA (hid ct1) (hid (ct3 (hid ct1) KL2)) (hid (ct4 (hid ct1) (hid (ct3 (hid ct1) KL2)))) (it5 (hid ct1) (hid (ct3 (hid ct1) KL2)) (hid (ct4 (hid ct1) (hid (ct3 (hid ct1) KL2)))) n)).trans ?_
    show _=sh5 l0 eA fA hA iA gA dA aA cA bA (f4 k2) (f6 k2 (f5 k2 n))
    simp only [T4 KL2 k2 h2,T6 KL2 (it5 (hid ct1) (hid (ct3 (hid ct1) KL2)) (hid (ct4 (hid ct1) (hid (ct3 (hid ct1) KL2)))) n) k2 (f5 k2 n) h2 ih]
theorem H5 (KL2:Kont U El) (k2:Y2) (h2:∀ l0 eA fA aA cA bA,KL2 (fr2 l0 eA fA aA cA bA)=k2 l0 eA fA aA cA bA) (l0 eA fA hA iA gA dA aA cA bA):hid (it5 (hid ct1) (hid (ct3 (hid ct1) KL2)) (hid (ct4 (hid ct1) (hid (ct3 (hid ct1) KL2)))) 100000) (fr5 l0 eA fA hA iA gA dA aA cA bA)=f5 k2 100000 l0 eA fA hA iA gA dA aA cA bA:=(congrFun (hid_eq _) _).trans (T5 KL2 k2 h2 100000 l0 eA fA hA iA gA dA aA cA bA)
theorem T2:∀ (n:Nat),∀ l0 eA fA aA cA bA,it2 (hid ct1) n (fr2 l0 eA fA aA cA bA)=f2 n l0 eA fA aA cA bA:=by
  intro n
  induction n with
  | zero=>intros; rfl
  | succ n ih =>
    intro l0 eA fA aA cA bA
    refine (P2 l0 eA fA aA cA bA (hid ct1) (it2 (hid ct1) n)).trans ?_
    show _=sh2 l0 eA fA aA cA bA f1 (f5 (f2 n) 100000)
    simp only [T1,H5 (it2 (hid ct1) n) (f2 n) ih]
theorem H2 (l0 eA fA aA cA bA):hid (it2 (hid ct1) 100000) (fr2 l0 eA fA aA cA bA)=f2 100000 l0 eA fA aA cA bA:=(congrFun (hid_eq _) _).trans (T2 100000 l0 eA fA aA cA bA)
theorem T0 (l crews):exec X bd (.seq none .d (.seq none .d (.seq none .d (.seq (some nm1) (.seq none .d (.block (.loop nm2 (.seq none .d (.seq none .d (.seq (some nm3) (.block (.seq none .d (.seq (some nm4) (.seq none .d (.block (.loop nm5 (.seq none .d (.seq none .d (.seq (some nm6) .d .d)))))) .d))) .d)))))) .d)))) (fr0 l crews) RR (fun _ _=>none) RR=f0 l crews:=by
  refine (P0 l crews).trans ?_
  show _=sh0 l crews (f2 100000)
  simp only [H2]
theorem run (l crews):runFn X bd (.seq none .d (.seq none .d (.seq none .d (.seq (some nm1) (.seq none .d (.block (.loop nm2 (.seq none .d (.seq none .d (.seq (some nm3) (.block (.seq none .d (.seq (some nm4) (.seq none .d (.block (.loop nm5 (.seq none .d (.seq none .d (.seq (some nm6) .d .d)))))) .d))) .d)))))) .d)))) nmR [4,5] [] [(.lst .work l),(.int .i64 crews)]=f0 l crews:=T0 l crews
theorem nextLoop (l : List Work) (hO : okO l = true) (hl : l.length ≤ 100) (k2 : Y2) (eA fA : Int) (sl : List Slot) (dn : List Bool) (hdl : dn.length = l.length) : ∀ (n k : Nat) (nx : Int), l.length < n + k → k ≤ l.length → Pz l dn nx →
    f5 k2 n l eA fA l (Int.ofNat l.length) (k:Int) nx l sl dn=f4 k2 l eA fA (nextG l dn (l.length - k) k nx) l sl dn:=by
  intro n
  induction n with
  | zero=>intro k nx h1 h2; omega
  | succ n ih =>
    intro k nx h1 h2 hp
    show sh5 l eA fA l (Int.ofNat l.length) (k:Int) nx l sl dn (f4 k2) (f6 k2 (f5 k2 n))=_
    unfold sh5
    by_cases hk:k < l.length
    · have e6 : ∀ z : Int, f6 k2 (f5 k2 n) l eA fA l (Int.ofNat l.length) (k : Int) z l sl dn = f5 k2 n l eA fA l (Int.ofNat l.length) ((k + 1 : Nat) : Int) z l sl dn := fun z => by
        show f5 k2 n l eA fA l (Int.ofNat l.length) (IntKind.wrap .i64 ((k:Int)+1)) z l sl dn=_
        rw [wrapS k (by omega)]
      have hR:okR l dn (k:Int)=true:=by
        simp only [okR,Bool.and_eq_true]
        exact ⟨inbT hk,by rw [hdl]; exact Nat.beq_refl _,hO⟩
      rw [iltT (by simp; omega),inbT hk,hR,e6,e6,toNat_nat,show l.length - k=(l.length - (k+1))+1 by omega]
      simp only [nextG]
      cases hr:rdyB l dn (k:Int) with
      | false=>exact ih (k+1) nx (by omega) hk hp
      | true =>
        have hpk:Pz l dn (k:Int) := .inr ⟨k,rfl,hk,hr⟩
        cases hn:ilt nx 0 with
        | true=>exact ih (k+1) (k:Int) (by omega) hk hpk
        | false =>
          have hin:inb nx l.length=true:=by
            rcases hp with rfl | ⟨q,rfl,hq,_⟩
            · have:=iltN hn; omega
            · exact inbT hq
          rw [hin]
          cases ilt (List.getD l k d_work).wd (List.getD l (Int.toNat nx) d_work).wd with
          | true=>exact ih (k+1) (k:Int) (by omega) hk hpk
          | false=>exact ih (k+1) nx (by omega) hk hp
    · have : k = l.length := by omega
      subst this
      rw [iltF (by simp),Nat.sub_self,condF]
      rfl
theorem outer (l:List Work) (crews:Int) (hv:okV l=true) (h:validB l crews=true):∀ (n i:Nat) (sl:List Slot) (dn:List Bool),l.length < n+i→i≤l.length→GS l sl dn→cntF dn+i=l.length →
    f2 n l (Int.ofNat l.length) (i:Int) l sl dn=outGr (greedyS l (l.length - i) sl dn) 0:=by
  have hV:=valid_of h
  have hO:=good_okO hv hV.good
  have hl:=hV.len
  intro n
  induction n with
  | zero=>intro i sl dn h1 h2; omega
  | succ n ih =>
    intro i sl dn h1 h2 hg hc
    show sh2 l (Int.ofNat l.length) (i:Int) l sl dn f1 (f5 (f2 n) 100000)=_
    unfold sh2
    by_cases hi:i < l.length
    · rw [iltT (by simp; omega), condT]
      refine (nextLoop l hO hl (f2 n) (Int.ofNat l.length) (i:Int) sl dn hg.good.1 100000 0 (-1) (by omega) (by omega) (.inl rfl)).trans ?_
      rw [Nat.sub_zero]
      obtain ⟨q,e,hq,hr⟩:=next_ok hv h hg (by omega)
      have hS:=SS_mk hv h hg hq hr
      have e':nextG l dn l.length 0 (-1)=(q:Int):=e
      rw [e']
      show sh4 l (Int.ofNat l.length) (i:Int) (q:Int) l sl dn (f3 (f2 n))=_
      unfold sh4
      have hwc:0 < l[q].wc.length:=goodW_wc hV.good _ (List.getElem_mem hq)
      have hwc9:=(okV_len hv).2 _ (List.getElem_mem hq)
      have hb:=minO_but l sl dn q (l[q].wc.drop 1) (List.getD l[q].wc 0 d_int) sl (.inl rfl)
      obtain ⟨b1,b2,b3⟩:=but_SS hS hb
      rw [inbT hq,okS_T hS,toNat_nat,getD_lt hq,nltT hwc,nleT hwc9.2,show okS l (minO l sl dn (q:Int) l[q].wc) dn (q:Int)=true from okS_T b1]
      have b2':startZ l (minO l sl dn (q:Int) l[q].wc) dn (q:Int) (minZ l sl dn (q:Int) l[q].wc)=startZ l sl dn (q:Int) (minZ l sl dn (q:Int) l[q].wc):=b2 _
      have b3':∀ x:Slot,List.set (minO l sl dn (q:Int) l[q].wc) q x=List.set sl q x:=b3
      rw [b2',b3']
      show f2 n l (Int.ofNat l.length) (IntKind.wrap .i64 ((i:Int)+1)) l _ _=_
      obtain ⟨k1,k2⟩:=GS_step hg hq hr (minZ l sl dn (q:Int) l[q].wc) (startZ l sl dn (q:Int) (minZ l sl dn (q:Int) l[q].wc))
      rw [wrapS i (by omega),ih (i+1) _ _ (by omega) hi k1 (by omega),show l.length - i=(l.length - (i+1))+1 by omega]
      simp only [greedyS,stepS,bestC]
      rw [e,toNat_nat,getD_lt hq]
    · have : i = l.length := by omega
      subst this
      rw [iltF (by simp),Nat.sub_self,condF]
      rfl
theorem f0_eq (l:List Work) (crews:Int) (h:okV l=true):f0 l crews=outGr (greedyL l crews) (greedyE l crews):=by
  show sh0 l crews (f2 100000)=_
  unfold sh0 greedyL greedyE
  rw [h,chkT]
  cases hv:validB l crews with
  | false=>rfl
  | true =>
    have hl:=(valid_of hv).len
    rw [nleT (show l.length≤90000 by omega)]
    refine outer l crews h hv 100000 0 _ _ (by omega) (by omega) ⟨by simp,fun s hs => ?_,good_new l⟩ (cnt_rep _)
    have hs':=List.eq_of_mem_replicate hs
    subst hs'
    have:0 < l.length:=by
      rcases Nat.eq_zero_or_pos l.length with e | e
      · rw [e] at hs; cases hs
      · exact e
    exact inb0 this
theorem ok:CtxOk Try.prog X:=ctxOk tab (spC valid.spOk (spC ready.spOk spN)) dpN
theorem okM:MOk Try.prog X:=mspecOf_ok _ (mpC (mcSp_ok ok draftOf.spOk) (mpC (mcSp_ok ok place.spOk) (mpC (mcSp_ok ok minF.spOk) mpN)))
theorem spec (l:List Work) (crews:Int) (h:(okV l)=true):CallSpec Try.prog E 18 [(.lst .work l),(.int .i64 crews)] (.tup [(.lst .slot (greedyL l crews)),(.int .i64 (greedyE l crews))]) [] :=
  runFn_sound ok okM Try.call18 Try.func18 (by kernel_rfl) (by kernel_rfl) (by kernel_rfl) (by show 2≤63; decide) (by decide) (by rfl) ((run l crews).trans (f0_eq l crews h))
noncomputable def sp:Sp U El:=fun args k=>match args with
  | [.lst .work l,.int .i64 crews]=>chk (okV l) (k (.tup [(.lst .slot (greedyL l crews)),(.int .i64 (greedyE l crews))]) [])
  | _=>none
theorem spOk:SpOk Try.prog E 18 sp where
  det:=fun vs=>by
    unfold sp
    split
    · exact det_c _ _ _
    · exact ⟨none,fun _=>rfl⟩
  ok:=fun vs k r h=>by
    unfold sp at h
    split at h
    · obtain ⟨h1, h2⟩ := chk_some h
      exact ⟨_,_,spec _ _ h1,h2⟩
    · cases h
end greedy
namespace cloneS
noncomputable def bd:Code:=(Try.f21.body).getD .skip
noncomputable def X:Ctx U El:=⟨E,tds,zeros,eqs,specOf [],100000,8,dspecOf [],fun _=>none⟩
noncomputable def nmR:Norm U:=⟨[(2,.slot)],[2],[2],[],[],[],[]⟩
noncomputable def RR:Kont U El:=fun st=>normK nmR st (retFin [2] [2])
noncomputable def fr0 (l:List Slot):St U El:=⟨[(0,(.lst .slot l))],[]⟩
noncomputable def sh0 (l:List Slot):R :=
  condB (nlt 0 (List.length l)) (chk (nle ((List.length ([]:List Slot)+List.length l) * 24) 140737488355328&&nle (List.length ([]:List Slot)+List.length l) 9223372036854775807) (some ((.ful 0),[(0,.rows .slot (([]:List Slot)++l))]))) (amb (some ((.ful 0),[(0,.rows .slot ([]:List Slot))])) (chk (nle ((List.length ([]:List Slot)+List.length l) * 24) 140737488355328&&nle (List.length ([]:List Slot)+List.length l) 9223372036854775807) (some ((.ful 0),[(0,.rows .slot (([]:List Slot)++l))]))))
theorem P0 (l):exec X (cdp [] bd) .d (fr0 l) RR (fun _ _=>none) RR=sh0 l:=by kernel_rfl
noncomputable def f0 (l:List Slot):R:=sh0 l
theorem T0 (l):exec X bd .d (fr0 l) RR (fun _ _=>none) RR=f0 l:=by
  refine (P0 l).trans ?_
  show _=sh0 l
  rfl
theorem run (l):runFn X bd .d nmR [2] [2] [(.lst .slot l)]=f0 l:=T0 l
theorem f0_eq (l:List Slot) (h:(nle (List.length l) 90000)=true):f0 l=some ((.ful 0),[(0,.rows .slot l)]):=by
  have hl:=nleI h
  show sh0 l=_
  unfold sh0
  have e1:nle ((List.length ([]:List Slot)+List.length l) * 24) 140737488355328=true:=nleT (by simp; omega)
  have e2:nle (List.length ([]:List Slot)+List.length l) 9223372036854775807=true:=nleT (by simp; omega)
  rw [e1,e2]
  cases l with
  | nil=>exact amb_same _
  | cons x l=>rfl
theorem ok:CtxOk Try.prog X:=ctxOk tab spN dpN
theorem okM:MOk Try.prog X:=fun g sp h=>by cases h
theorem spec (l:List Slot) (h:(nle (List.length l) 90000)=true):CallSpec Try.prog E 21 [(.lst .slot l)] (.ful 0) [(0,.rows .slot (l))] :=
  runFn_sound ok okM Try.call21 Try.func21 (by kernel_rfl) (by kernel_rfl) (by kernel_rfl) (by show 1≤8; decide) (by decide) (by rfl) ((run l).trans (f0_eq l h))
noncomputable def sp:Sp U El:=fun args k=>match args with
  | [.lst .slot l]=>chk (nle (List.length l) 90000) (k (.ful 0) [(0,.rows .slot (l))])
  | _=>none
theorem spOk:SpOk Try.prog E 21 sp where
  det:=fun vs=>by
    unfold sp
    split
    · exact det_c _ _ _
    · exact ⟨none,fun _=>rfl⟩
  ok:=fun vs k r h=>by
    unfold sp at h
    split at h
    · obtain ⟨h1, h2⟩ := chk_some h
      exact ⟨_,_,spec _ h1,h2⟩
    · cases h
end cloneS
end Go.Proofs.Ythdklallcljhlaa
