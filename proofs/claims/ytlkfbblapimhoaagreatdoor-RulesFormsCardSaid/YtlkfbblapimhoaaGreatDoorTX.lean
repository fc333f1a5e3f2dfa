import Derived.Test.YtlkfbblapimhoaaGreatDoorPU
import Derived.Lib.Join
import Derived.Test.YtlkfbblapimhoaaGreatDoorJN
namespace Go.Proofs.YtlkfbblapimhoaaGreatDoor
set_option linter.all false
set_option maxRecDepth 100000
theorem tokR_fuel:∀ (n m:Nat) (s:List UInt8) (l c:Int),s.length < n→s.length < m→tokR n s l c=tokR m s l c:=by
  intro n
  induction n with
  | zero=>intro m s l c h; omega
  | succ n ih =>
    intro m s l c h1 h2
    obtain ⟨m,rfl⟩:∃ m',m=m'+1:=⟨m - 1,by omega⟩
    cases s with
    | nil=>rfl
    | cons b s =>
      obtain ⟨k1,k2⟩:=kindN_le b s
      simp only [List.length_cons] at h1 h2 k1
      have hd:((b :: s).drop (kindN (b :: s)).2).length=s.length+1 - (kindN (b :: s)).2:=by rw [List.length_drop]; rfl
      unfold tokR
      rw [ih m s (l+1) 1 (by omega) (by omega),ih m ((b :: s).drop (kindN (b :: s)).2) l _ (by omega) (by omega)]
noncomputable def tokW (s:List UInt8) (l c:Int):TR:=tokR (s.length+1) s l c
theorem tokW_cons (b:UInt8) (s:List UInt8) (l c:Int):tokW (b :: s) l c=bif ilt (kindN (b :: s)).1 0 then ⟨[],true,l,c⟩ else bif (kindN (b :: s)).1 == 4 then (tokW s (l+1) 1).cons ⟨4,[],l,c⟩ else
   bif (kindN (b :: s)).1 == 0 then tokW ((b :: s).drop (kindN (b :: s)).2) l (c+Int.ofNat (kindN (b :: s)).2) else
   (tokW ((b :: s).drop (kindN (b :: s)).2) l (c+Int.ofNat (kindN (b :: s)).2)).cons ⟨(kindN (b :: s)).1,(b :: s).take (kindN (b :: s)).2,l,c⟩:=by
 obtain ⟨k1,k2⟩:=kindN_le b s
 have hd:((b :: s).drop (kindN (b :: s)).2).length=(b :: s).length - (kindN (b :: s)).2:=List.length_drop
 show tokR ((b :: s).length+1) (b :: s) l c=_
 unfold tokW
 rw [tokR_fuel _ (b :: s).length ((b :: s).drop (kindN (b :: s)).2) l _ (by omega) (by simp only [List.length_cons] at *; omega)]
 rfl
theorem tokW_ok : ∀ (n : Nat) (s : List UInt8) (l c : Int), s.length < n → (tokR n s l c).bad = false → (∃ t init, (tokR n s l c).l = init ++ [t] ∧ t.kk = 5 ∧ t.kt = []) ∧ (tokR n s l c).l.length ≤ s.length + 1 ∧ ∀ t ∈ (tokR n s l c).l, t.kt.length ≤ s.length := by
  intro n
  induction n with
  | zero=>intro s l c h; omega
  | succ n ih =>
    intro s l c h1 hb
    cases s with
    | nil=>exact ⟨⟨_,[],rfl,rfl,rfl⟩,Nat.le_refl _,fun t ht=>by simp [tokR] at ht; subst ht; simp⟩
    | cons b s =>
      obtain ⟨k1,k2⟩:=kindN_le b s
      simp only [List.length_cons] at h1 k1
      have hd:((b :: s).drop (kindN (b :: s)).2).length=s.length+1 - (kindN (b :: s)).2:=by rw [List.length_drop]; rfl
      unfold tokR at hb ⊢
      have cons:∀ (r:TR) (t0:Tok) (m:Nat),m≤s.length→t0.kt.length≤s.length+1→((∃ t init,r.l=init++[t]∧t.kk=5∧t.kt=[])∧r.l.length≤m+1∧∀ t∈r.l,t.kt.length≤m)→(∃ t init,(r.cons t0).l=init++[t]∧t.kk=5∧t.kt=[])∧(r.cons t0).l.length≤s.length+1+1∧∀ t∈(r.cons t0).l,t.kt.length≤s.length+1:=fun r t0 m hm ht0 ⟨⟨t,init,h1,h2⟩,h3,h4⟩=>by
        refine ⟨⟨t,t0 :: init,by show t0 :: r.l=_; rw [h1]; rfl,h2⟩,by show (t0 :: r.l).length≤_; simp; omega,fun t ht=>?_⟩
        rcases List.mem_cons.1 (show t∈t0 :: r.l from ht) with rfl | ht
        · exact ht0
        · exact Nat.le_trans (h4 t ht) (by omega)
      cases e1:ilt (kindN (b :: s)).1 0 with
      | true=>rw [e1] at hb; cases hb
      | false =>
        rw [e1] at hb
        cases e2:(kindN (b :: s)).1 == 4 with
        | true =>
          rw [e2] at hb
          simp only [cond_true,cond_false] at hb ⊢
          exact cons _ _ s.length (Nat.le_refl _) (by simp) (ih s _ _ (by omega) hb)
        | false =>
          rw [e2] at hb
          cases e3:(kindN (b :: s)).1 == 0 with
          | true =>
            rw [e3] at hb
            simp only [cond_true,cond_false] at hb ⊢
            obtain ⟨g1,g2,g3⟩:=ih _ _ _ (by omega) hb
            exact ⟨g1,by simp only [List.length_cons]; omega,fun t ht=>Nat.le_trans (g3 t ht) (by simp only [List.length_cons]; omega)⟩
          | false =>
            rw [e3] at hb
            simp only [cond_true,cond_false] at hb ⊢
            exact cons _ _ (s.length+1 - (kindN (b :: s)).2) (by omega) (by simp; omega) (by rw [← hd]; exact ih _ _ _ (by omega) hb)
theorem tok_ok {s:List UInt8} (h:s.length≤80000) (he:tokE s=0):okT (tokL s)=true:=by
 have hi:ilt (262144:Int) (Int.ofNat s.length)=false:=iltF (by simp; omega)
 have hb:(tokS s).bad=false:=by
  unfold tokE at he
  rw [hi] at he
  cases hb:(tokS s).bad with
  | false=>rfl
  | true=>rw [hb] at he; cases he
 obtain ⟨⟨t,init,h1,h2,h3⟩,h4,h5⟩:=tokW_ok (s.length+1) s 1 1 (by omega) hb
 have hl:tokL s=(tokS s).l:=by unfold tokL; rw [he]; rfl
 rw [hl]
 change (tokS s).l=_ at h1
 change (tokS s).l.length≤_ at h4
 unfold okT
 rw [nleT (by omega)]
 simp only [Bool.true_and,Bool.and_eq_true,beq_iff_eq]
 refine ⟨?_,List.all_eq_true.2 fun t ht=>nleT (Nat.le_trans (h5 t ht) (by omega))⟩
 unfold tokAt
 rw [h1]
 have:(Int.ofNat (init++[t]).length - 1).toNat=init.length:=by simp
 rw [this,List.getD_eq_getElem?_getD]
 simp [h2]
end Go.Proofs.YtlkfbblapimhoaaGreatDoor
namespace Go.Proofs.YtlkfbblapimhoaaGreatDoor
set_option linter.all false
set_option maxRecDepth 100000
noncomputable def kwN (i:Nat):List UInt8:=bif Nat.beq i 0 then [119,104,101,110] else [97,110,100]
noncomputable def sgnW (b:Bool):List UInt8:=bif b then [60] else [62,61]
noncomputable def cndW (i:Nat) (c:Cnd):List (List UInt8):=[kwN i,c.cn,sgnW c.cb,Lib.itoa c.cl]
noncomputable def cndsW:Nat→List Cnd→List (List UInt8)
 | _,[]=>[]
 | i,c :: l=>cndW i c++cndsW (i+1) l
noncomputable def wordsL (r:Rule):List (List UInt8):=[[114,117,108,101],r.rn]++(cndsW 0 r.rw++[[115,101,116],r.rl,[116,111],Lib.itoa r.rs])
noncomputable def lineS (r:Rule):List UInt8:=Lib.join (wordsL r) [32]++[10]
noncomputable def textJ (l:List Rule):List UInt8:=(l.map lineS).flatten
noncomputable def textE (l:List Rule):Int:=bif rulesB l then 0 else 1
noncomputable def textS (l:List Rule):List UInt8:=bif rulesB l then textJ l else []
noncomputable def lensW (l:List (List UInt8)):Nat:=(l.map fun w=>w.length+1).sum
theorem lensW_append (a b:List (List UInt8)):lensW (a++b)=lensW a+lensW b:=by simp [lensW]
theorem joinTail_len (l:List (List UInt8)):(Lib.joinTail [32] l).length=lensW l:=by
 unfold Lib.joinTail lensW
 rw [List.length_flatten,List.map_map]
 simp [Function.comp_def,Nat.add_comm]
theorem join_len (w:List UInt8) (l:List (List UInt8)):(Lib.join (w :: l) [32]).length+1=lensW (w :: l):=by
 rw [Lib.join_cons,List.length_append,joinTail_len]
 simp [lensW]
 omega
theorem cndB_facts {c:Cnd} (h:cndB c=true):nameB c.cn=true ∧ -4194304≤c.cl∧c.cl≤4194304:=by
 unfold cndB inR at h
 simp only [Bool.and_eq_true] at h
 exact ⟨h.1,ileI h.2.1,ileI h.2.2⟩
theorem nameB_len {s:List UInt8} (h:nameB s=true):s.length≤20:=by
 unfold nameB at h
 simp only [Bool.and_eq_true] at h
 have:=ileI h.2.1
 simp at this
 omega
theorem ruleB_facts {r:Rule} (h:ruleB r=true):nameB r.rn=true∧nameB r.rl=true∧r.rw.length≤20∧0≤r.rs∧r.rs≤1000∧∀ c∈r.rw,cndB c=true:=by
 have h2:=ruleB_len h
 unfold ruleB at h
 simp only [Bool.and_eq_true] at h
 exact ⟨h.1,h.2.1,h2.1,ileI h.2.2.2.1.1,ileI h.2.2.2.1.2,h2.2⟩
theorem cndsW_len:∀ (l:List Cnd) (i:Nat),(∀ c∈l,cndB c=true)→(cndsW i l).length=4 * l.length∧lensW (cndsW i l)≤48 * l.length:=by
  intro l
  induction l with
  | nil=>intro i _; exact ⟨rfl,Nat.le_refl _⟩
  | cons c l ih =>
    intro i h
    obtain ⟨h1,h2⟩:=ih (i+1) fun c hc=>h c (by simp [hc])
    obtain ⟨c1,c2,c3⟩:=cndB_facts (h c (by simp))
    have n1:=nameB_len c1
    have n2:=itoa_short (n:=c.cl) ⟨by omega,by omega⟩
    have n3:(kwN i).length≤4:=by unfold kwN; cases Nat.beq i 0<;>simp
    have n4:(sgnW c.cb).length≤2:=by unfold sgnW; cases c.cb<;>simp
    unfold cndsW
    rw [lensW_append]
    refine ⟨by simp [cndW,h1]; omega,?_⟩
    have:lensW (cndW i c)≤48:=by simp [lensW,cndW]; omega
    simp only [List.length_cons]
    omega
theorem wordsL_len {r:Rule} (h:ruleB r=true):(wordsL r).length≤86∧lensW (wordsL r)≤1040:=by
 obtain ⟨h1,h2,h3,h4,h5,h6⟩:=ruleB_facts h
 obtain ⟨g1,g2⟩:=cndsW_len r.rw 0 h6
 have n1:=nameB_len h1
 have n2:=nameB_len h2
 have n3:=itoa_short (n:=r.rs) ⟨by omega,by omega⟩
 unfold wordsL
 rw [lensW_append,lensW_append]
 refine ⟨by simp [g1]; omega,?_⟩
 have a1:lensW [[114,117,108,101],r.rn]≤26:=by simp [lensW]; omega
 have a2:lensW [[115,101,116],r.rl,[116,111],Lib.itoa r.rs]≤47:=by simp [lensW]; omega
 omega
theorem lineS_len {r:Rule} (h:ruleB r=true):(Lib.join (wordsL r) [32]).length≤1040∧(lineS r).length≤1040:=by
 have:=(wordsL_len h).2
 have j:(Lib.join (wordsL r) [32]).length+1=lensW (wordsL r):=join_len _ _
 unfold lineS
 rw [List.length_append]
 simp
 omega
namespace uwords
noncomputable def bd:Code:=(Tryz.f40.body).getD .skip
noncomputable def X:Ctx U El:=⟨E,tds,zeros,eqs,specOf [(79,itoa.sp)],100000,42,dspecOf [],fun _=>none,fun _=>none⟩
noncomputable def nmR:Norm U:=⟨[(2,.str)],[2],[2],[],[],[],[]⟩
noncomputable def RR:Kont U El:=fun st=>normK nmR st (retFin [2] [2])
noncomputable def nm1:Norm U:=⟨[(3,.str)],[1,3],[3,1],[],[],[],[(1,1,.cnd)]⟩
noncomputable def nm2:Norm U:=⟨[(3,.str)],[1,3,12,13,14],[3,1],[],[],[],[(1,1,.cnd)]⟩
noncomputable def nm3:Norm U:=⟨[(3,.str)],[1,3,5,6,7,12,13,14],[3,1,5],[],[],[],[(1,1,.cnd)]⟩
noncomputable def nm4:Norm U:=⟨[(3,.str)],[1,3,5,6,7,12,13,14],[3,1,5],[],[],[],[(1,1,.cnd)]⟩
abbrev Y1:=(List (List UInt8))→(List UInt8)→(List Cnd)→(List UInt8)→Int→R
abbrev Y2:=(List (List UInt8))→(List Cnd)→Int→Int→(List UInt8)→(List Cnd)→(List UInt8)→Int→R
abbrev Y3:=(List (List UInt8))→(List UInt8)→(List UInt8)→(List Cnd)→Int→Int→(List UInt8)→(List Cnd)→(List UInt8)→Int→Cnd→R
abbrev Y4:=(List (List UInt8))→(List UInt8)→(List UInt8)→(List Cnd)→Int→Int→(List UInt8)→(List Cnd)→(List UInt8)→Int→Cnd→R
noncomputable def fr0 (r:Rule):St U El:=⟨[(0,(.agg [(.str r.rn),(.lst .cnd r.rw),(.str r.rl),(.int .i64 r.rs)]))],[]⟩
noncomputable def fr1 (bA:List (List UInt8)) (dA:List UInt8) (eA:List Cnd) (cA:List UInt8) (aA:Int):St U El:=⟨[(1,(.ptr 1 0)),(3,(.ful 3))],[(3,(.rows .str bA)),(1,(.box 0 [(.str dA),(.lst .cnd eA),(.str cA),(.int .i64 aA)]))]⟩
noncomputable def fr2 (bA:List (List UInt8)) (hA:List Cnd) (kA:Int) (jA:Int) (dA:List UInt8) (eA:List Cnd) (cA:List UInt8) (aA:Int):St U El:=⟨[(1,(.ptr 1 0)),(3,(.ful 3)),(12,(.lst .cnd hA)),(13,(.int .i64 kA)),(14,(.int .i64 jA))],[(3,(.rows .str bA)),(1,(.box 0 [(.str dA),(.lst .cnd eA),(.str cA),(.int .i64 aA)]))]⟩
noncomputable def fr3 (bA:List (List UInt8)) (fA:List UInt8) (gA:List UInt8) (hA:List Cnd) (kA:Int) (jA:Int) (dA:List UInt8) (eA:List Cnd) (cA:List UInt8) (aA:Int) (b5:Cnd):St U El:=⟨[(1,(.ptr 1 0)),(3,(.ful 3)),(5,(.ptr 5 0)),(6,(.str fA)),(7,(.str gA)),(12,(.lst .cnd hA)),(13,(.int .i64 kA)),(14,(.int .i64 jA))],[(3,(.rows .str bA)),(1,(.box 0 [(.str dA),(.lst .cnd eA),(.str cA),(.int .i64 aA)])),(5,(.box 0 [(.str b5.cn),(.bool b5.cb),(.int .i64 b5.cl)]))]⟩
noncomputable def fr4 (bA:List (List UInt8)) (fA:List UInt8) (gA:List UInt8) (hA:List Cnd) (kA:Int) (jA:Int) (dA:List UInt8) (eA:List Cnd) (cA:List UInt8) (aA:Int) (b5:Cnd):St U El:=⟨[(1,(.ptr 1 0)),(3,(.ful 3)),(5,(.ptr 5 0)),(6,(.str fA)),(7,(.str gA)),(12,(.lst .cnd hA)),(13,(.int .i64 kA)),(14,(.int .i64 jA))],[(3,(.rows .str bA)),(1,(.box 0 [(.str dA),(.lst .cnd eA),(.str cA),(.int .i64 aA)])),(5,(.box 0 [(.str b5.cn),(.bool b5.cb),(.int .i64 b5.cl)]))]⟩
noncomputable def sh0 (r:Rule) (k2:Y2):R :=
 k2 ([([114,117,108,101]:List UInt8),r.rn]:List (List UInt8)) r.rw (Int.ofNat (List.length r.rw)) (0:Int) r.rn r.rw r.rl r.rs
noncomputable def sh1 (bA:List (List UInt8)) (dA:List UInt8) (eA:List Cnd) (cA:List UInt8) (aA:Int):R :=
 chk ((ile (-9223372036854775808) aA&&ile aA 9223372036854775807)) (chk (nle ((List.length bA+List.length ([([115,101,116]:List UInt8),cA,([116,111]:List UInt8),(Lib.itoa aA)]:List (List UInt8))) * 16) 140737488355328&&nle (List.length bA+List.length ([([115,101,116]:List UInt8),cA,([116,111]:List UInt8),(Lib.itoa aA)]:List (List UInt8))) 9223372036854775807) (some ((.ful 0),[(0,.rows .str (bA++([([115,101,116]:List UInt8),cA,([116,111]:List UInt8),(Lib.itoa aA)]:List (List UInt8))))])))
noncomputable def sh2 (bA:List (List UInt8)) (hA:List Cnd) (kA:Int) (jA:Int) (dA:List UInt8) (eA:List Cnd) (cA:List UInt8) (aA:Int) (k1:Y1) (k3:Y3):R :=
 condB (ilt jA kA) (chk (inb jA (List.length hA)) (condB (jA == (0:Int)) (k3 bA ([119,104,101,110]:List UInt8) ([62,61]:List UInt8) hA kA jA dA eA cA aA (List.getD hA (Int.toNat jA) d_cnd)) (k3 bA ([97,110,100]:List UInt8) ([62,61]:List UInt8) hA kA jA dA eA cA aA (List.getD hA (Int.toNat jA) d_cnd)))) (k1 bA dA eA cA aA)
noncomputable def sh3 (bA:List (List UInt8)) (fA:List UInt8) (gA:List UInt8) (hA:List Cnd) (kA:Int) (jA:Int) (dA:List UInt8) (eA:List Cnd) (cA:List UInt8) (aA:Int) (b5:Cnd) (k4:Y4):R :=
 condB b5.cb (k4 bA fA ([60]:List UInt8) hA kA jA dA eA cA aA b5) (k4 bA fA gA hA kA jA dA eA cA aA b5)
noncomputable def sh4 (bA:List (List UInt8)) (fA:List UInt8) (gA:List UInt8) (hA:List Cnd) (kA:Int) (jA:Int) (dA:List UInt8) (eA:List Cnd) (cA:List UInt8) (aA:Int) (b5:Cnd) (k2:Y2):R :=
 chk ((ile (-9223372036854775808) b5.cl&&ile b5.cl 9223372036854775807)) (chk (nle ((List.length bA+List.length ([fA,b5.cn,gA,(Lib.itoa b5.cl)]:List (List UInt8))) * 16) 140737488355328&&nle (List.length bA+List.length ([fA,b5.cn,gA,(Lib.itoa b5.cl)]:List (List UInt8))) 9223372036854775807) (k2 (bA++([fA,b5.cn,gA,(Lib.itoa b5.cl)]:List (List UInt8))) hA kA (IntKind.wrap .i64 (jA+(1:Int))) dA eA cA aA))
noncomputable def it2 (Kb1:Kont U El) (n:Nat):Kont U El:=iter nm2 (fun st' K'=>exec X (cdp [1,1,0,1,0,0] bd) (.seq none .d (.seq none .d (.seq none (.block (.seq none .d (.seq none .d (.seq (some nm3) .d (.seq (some nm4) .d (.region [(9,3)])))))) .d))) st' K' (Eblk 0 (cutK nm1 Kb1) (fun _ _=>none)) RR) n
noncomputable def ct1:Kont U El:=fun st=>exec X (cdp [1,1,1] bd) (.seq none (.region [(7,3)]) .d) st RR (fun _ _=>none) RR
noncomputable def ct3 (Kb1 Kb2:Kont U El):Kont U El:=fun st=>exec X (cdp [1,1,0,1,0,0,1,1,0,0,1,1,1] bd) (.seq (some nm4) .d (.region [(9,3)])) st (fun st'=>exec X (cdp [1,1,0,1,0,0,1,1,1] bd) .d st' (cutK nm2 Kb2) (Eblk 0 (cutK nm1 Kb1) (fun _ _=>none)) RR) (Eblk 1 (fun st'=>exec X (cdp [1,1,0,1,0,0,1,1,1] bd) .d st' (cutK nm2 Kb2) (Eblk 0 (cutK nm1 Kb1) (fun _ _=>none)) RR) (Eblk 0 (cutK nm1 Kb1) (fun _ _=>none))) RR
noncomputable def ct4 (Kb1 Kb2:Kont U El):Kont U El:=fun st=>exec X (cdp [1,1,0,1,0,0,1,1,0,0,1,1,1,1] bd) (.region [(9,3)]) st (fun st'=>exec X (cdp [1,1,0,1,0,0,1,1,1] bd) .d st' (cutK nm2 Kb2) (Eblk 0 (cutK nm1 Kb1) (fun _ _=>none)) RR) (Eblk 1 (fun st'=>exec X (cdp [1,1,0,1,0,0,1,1,1] bd) .d st' (cutK nm2 Kb2) (Eblk 0 (cutK nm1 Kb1) (fun _ _=>none)) RR) (Eblk 0 (cutK nm1 Kb1) (fun _ _=>none))) RR
theorem P0 (r):exec X (cdp [] bd) (.seq none .d (.seq none .d (.seq (some nm1) (.seq none .d (.block (.loop nm2 (.seq none .d (.seq none .d (.seq none (.block (.seq none .d (.seq none .d (.seq (some nm3) .d (.seq (some nm4) .d (.region [(9,3)])))))) .d)))))) (.seq none (.region [(7,3)]) .d)))) (fr0 r) RR (fun _ _=>none) RR=sh0 r (fun y0 y1 y2 y3 y4 y5 y6 y7=>(hid (it2 (hid ct1) 100000)) (fr2 y0 y1 y2 y3 y4 y5 y6 y7)):=by kernel_rfl
theorem P1 (bA dA eA cA aA):ct1 (fr1 bA dA eA cA aA)=sh1 bA dA eA cA aA:=by kernel_rfl
theorem P2 (bA hA kA jA dA eA cA aA) (Kb1 Kb2:Kont U El):exec X (cdp [1,1,0,1,0,0] bd) (.seq none .d (.seq none .d (.seq none (.block (.seq none .d (.seq none .d (.seq (some nm3) .d (.seq (some nm4) .d (.region [(9,3)])))))) .d))) (fr2 bA hA kA jA dA eA cA aA) (cutK nm2 Kb2) (Eblk 0 (cutK nm1 Kb1) (fun _ _=>none)) RR=sh2 bA hA kA jA dA eA cA aA (fun y0 y1 y2 y3 y4=>Kb1 (fr1 y0 y1 y2 y3 y4)) (fun y0 y1 y2 y3 y4 y5 y6 y7 y8 y9 y10=>(hid (ct3 Kb1 Kb2)) (fr3 y0 y1 y2 y3 y4 y5 y6 y7 y8 y9 y10)):=by kernel_rfl
theorem P3 (bA fA gA hA kA jA dA eA cA aA b5) (Kb1 Kb2:Kont U El):ct3 Kb1 Kb2 (fr3 bA fA gA hA kA jA dA eA cA aA b5)=sh3 bA fA gA hA kA jA dA eA cA aA b5 (fun y0 y1 y2 y3 y4 y5 y6 y7 y8 y9 y10=>(hid (ct4 Kb1 Kb2)) (fr4 y0 y1 y2 y3 y4 y5 y6 y7 y8 y9 y10)):=by kernel_rfl
theorem P4 (bA fA gA hA kA jA dA eA cA aA b5) (Kb1 Kb2:Kont U El):ct4 Kb1 Kb2 (fr4 bA fA gA hA kA jA dA eA cA aA b5)=sh4 bA fA gA hA kA jA dA eA cA aA b5 (fun y0 y1 y2 y3 y4 y5 y6 y7=>Kb2 (fr2 y0 y1 y2 y3 y4 y5 y6 y7)):=by kernel_rfl
noncomputable def f1 (bA:List (List UInt8)) (dA:List UInt8) (eA:List Cnd) (cA:List UInt8) (aA:Int):R:=sh1 bA dA eA cA aA
noncomputable def f4 (k2:Y2) (bA:List (List UInt8)) (fA:List UInt8) (gA:List UInt8) (hA:List Cnd) (kA:Int) (jA:Int) (dA:List UInt8) (eA:List Cnd) (cA:List UInt8) (aA:Int) (b5:Cnd):R:=sh4 bA fA gA hA kA jA dA eA cA aA b5 k2
noncomputable def f3 (k2:Y2) (bA:List (List UInt8)) (fA:List UInt8) (gA:List UInt8) (hA:List Cnd) (kA:Int) (jA:Int) (dA:List UInt8) (eA:List Cnd) (cA:List UInt8) (aA:Int) (b5:Cnd):R:=sh3 bA fA gA hA kA jA dA eA cA aA b5 (f4 k2)
noncomputable def f2:Nat→Y2
 | 0=>fun _ _ _ _ _ _ _ _=>none
 | n+1=>fun bA hA kA jA dA eA cA aA=>sh2 bA hA kA jA dA eA cA aA f1 (f3 (f2 n))
noncomputable def f0 (r:Rule):R:=sh0 r (f2 100000)
theorem T1 (bA dA eA cA aA):(hid ct1) (fr1 bA dA eA cA aA)=f1 bA dA eA cA aA:=by
 refine (congrFun (hid_eq _) _).trans <| (P1 bA dA eA cA aA).trans ?_
 show _=sh1 bA dA eA cA aA
 rfl
theorem T4 (KL2:Kont U El) (k2:Y2) (h2:∀ bA hA kA jA dA eA cA aA,KL2 (fr2 bA hA kA jA dA eA cA aA)=k2 bA hA kA jA dA eA cA aA) (bA fA gA hA kA jA dA eA cA aA b5):(hid (ct4 (hid ct1) KL2)) (fr4 bA fA gA hA kA jA dA eA cA aA b5)=f4 k2 bA fA gA hA kA jA dA eA cA aA b5:=by
 refine (congrFun (hid_eq _) _).trans <| (P4 bA fA gA hA kA jA dA eA cA aA b5 (hid ct1) KL2).trans ?_
 show _=sh4 bA fA gA hA kA jA dA eA cA aA b5 k2
 simp only [h2]
theorem T3 (KL2:Kont U El) (k2:Y2) (h2:∀ bA hA kA jA dA eA cA aA,KL2 (fr2 bA hA kA jA dA eA cA aA)=k2 bA hA kA jA dA eA cA aA) (bA fA gA hA kA jA dA eA cA aA b5):(hid (ct3 (hid ct1) KL2)) (fr3 bA fA gA hA kA jA dA eA cA aA b5)=f3 k2 bA fA gA hA kA jA dA eA cA aA b5:=by
 refine (congrFun (hid_eq _) _).trans <| (P3 bA fA gA hA kA jA dA eA cA aA b5 (hid ct1) KL2).trans ?_
 show _=sh3 bA fA gA hA kA jA dA eA cA aA b5 (f4 k2)
 simp only [T4 KL2 k2 h2]
theorem T2:∀ (n:Nat),∀ bA hA kA jA dA eA cA aA,it2 (hid ct1) n (fr2 bA hA kA jA dA eA cA aA)=f2 n bA hA kA jA dA eA cA aA:=by
  intro n
  induction n with
  | zero=>intros; rfl
  | succ n ih =>
    intro bA hA kA jA dA eA cA aA
    refine (P2 bA hA kA jA dA eA cA aA (hid ct1) (it2 (hid ct1) n)).trans ?_
    show _=sh2 bA hA kA jA dA eA cA aA f1 (f3 (f2 n))
    simp only [T1,T3 (it2 (hid ct1) n) (f2 n) ih]
theorem H2 (bA hA kA jA dA eA cA aA):hid (it2 (hid ct1) 100000) (fr2 bA hA kA jA dA eA cA aA)=f2 100000 bA hA kA jA dA eA cA aA:=(congrFun (hid_eq _) _).trans (T2 100000 bA hA kA jA dA eA cA aA)
theorem T0 (r):exec X bd (.seq none .d (.seq none .d (.seq (some nm1) (.seq none .d (.block (.loop nm2 (.seq none .d (.seq none .d (.seq none (.block (.seq none .d (.seq none .d (.seq (some nm3) .d (.seq (some nm4) .d (.region [(9,3)])))))) .d)))))) (.seq none (.region [(7,3)]) .d)))) (fr0 r) RR (fun _ _=>none) RR=f0 r:=by
 refine (P0 r).trans ?_
 show _=sh0 r (f2 100000)
 simp only [H2]
theorem run (r):runFn X bd (.seq none .d (.seq none .d (.seq (some nm1) (.seq none .d (.block (.loop nm2 (.seq none .d (.seq none .d (.seq none (.block (.seq none .d (.seq none .d (.seq (some nm3) .d (.seq (some nm4) .d (.region [(9,3)])))))) .d)))))) (.seq none (.region [(7,3)]) .d)))) nmR [2] [2] [(.agg [(.str r.rn),(.lst .cnd r.rw),(.str r.rl),(.int .i64 r.rs)])]=f0 r:=T0 r
theorem loop (rn rl : List UInt8) (rs : Int) (w : List Cnd) (hw : w.length ≤ 20) (hc : ∀ c ∈ w, cndB c = true) : ∀ (n i : Nat) (out : List (List UInt8)), w.length < n + i → i ≤ w.length → out.length ≤ 2 + 4 * i → f2 n out w (Int.ofNat w.length) (i : Int) rn w rl rs = f1 (out ++ cndsW i (w.drop i)) rn w rl rs := by
  intro n
  induction n with
  | zero=>intro i out h1 h2; omega
  | succ n ih =>
    intro i out h1 h2 h3
    show sh2 out w (Int.ofNat w.length) (i:Int) rn w rl rs f1 (f3 (f2 n))=_
    unfold sh2
    by_cases hi:i < w.length
    · rw [iltT (show (i : Int) < Int.ofNat w.length by simp; omega), inbT hi, toNat_nat, getD_lt hi, drop_lt hi]
      simp only [chkT,condT]
      obtain ⟨c1,c2,c3⟩:=cndB_facts (hc w[i] (List.getElem_mem hi))
      have h4:∀ (a b:List UInt8),f4 (f2 n) out a b w (Int.ofNat w.length) (i:Int) rn w rl rs w[i]=f2 n (out++[a,w[i].cn,b,Lib.itoa w[i].cl]) w (Int.ofNat w.length) ((i+1:Nat):Int) rn w rl rs:=fun a b=>by
        show sh4 out a b w (Int.ofNat w.length) (i:Int) rn w rl rs w[i] (f2 n)=_
        unfold sh4
        rw [ileT (by omega),ileT (by omega),nleT (by simp; omega),nleT (by simp; omega),wrapS i (by omega)]
        rfl
      have h5:∀ a:List UInt8,f3 (f2 n) out a [62,61] w (Int.ofNat w.length) (i:Int) rn w rl rs w[i]=f2 n (out++[a,w[i].cn,sgnW w[i].cb,Lib.itoa w[i].cl]) w (Int.ofNat w.length) ((i+1:Nat):Int) rn w rl rs:=fun a=>by
        show sh3 out a [62,61] w (Int.ofNat w.length) (i:Int) rn w rl rs w[i] (f4 (f2 n))=_
        unfold sh3 sgnW
        rw [h4,h4]
        cases w[i].cb<;>rfl
      rw [h5,h5]
      have hk:condB ((i:Int) == (0:Int)) (f2 n (out++[[119,104,101,110],w[i].cn,sgnW w[i].cb,Lib.itoa w[i].cl]) w (Int.ofNat w.length) ((i+1:Nat):Int) rn w rl rs) (f2 n (out++[[97,110,100],w[i].cn,sgnW w[i].cb,Lib.itoa w[i].cl]) w (Int.ofNat w.length) ((i+1:Nat):Int) rn w rl rs)=f2 n (out++cndW i w[i]) w (Int.ofNat w.length) ((i+1:Nat):Int) rn w rl rs:=by
        unfold cndW kwN
        cases i with
        | zero=>rfl
        | succ i=>rfl
      rw [hk,ih (i+1) _ (by omega) hi (by simp [cndW]; omega)]
      rw [show cndsW i (w[i] :: w.drop (i+1))=cndW i w[i]++cndsW (i+1) (w.drop (i+1)) from rfl,List.append_assoc]
    · have : i = w.length := by omega
      subst this
      rw [iltF (by simp),List.drop_length]
      show f1 out rn w rl rs=f1 (out++[]) rn w rl rs
      rw [List.append_nil]
theorem f0_eq (r:Rule) (h:ruleB r=true):f0 r=some (.ful 0,[(0,.rows .str (wordsL r))]):=by
 obtain ⟨h1,h2,h3,h4,h5,h6⟩:=ruleB_facts h
 obtain ⟨g1,g2⟩:=cndsW_len r.rw 0 h6
 show f2 100000 [[114,117,108,101],r.rn] r.rw (Int.ofNat r.rw.length) ((0:Nat):Int) r.rn r.rw r.rl r.rs=_
 rw [loop r.rn r.rl r.rs r.rw h3 h6 100000 0 _ (by omega) (by omega) (by simp),List.drop_zero]
 show sh1 _ _ _ _ _=_
 unfold sh1
 rw [ileT (by omega),ileT (by omega),nleT (by simp; omega),nleT (by simp; omega),List.append_assoc]
 rfl
theorem ok:CtxOk Tryz.prog X:=ctxOk tab (spC itoa.spOk spN) dpN
theorem okM:MOk Tryz.prog X:=fun g sp h=>by cases h
theorem spec (r:Rule) (h:(ruleB r)=true):CallSpec Tryz.prog E 40 [(.agg [(.str r.rn),(.lst .cnd r.rw),(.str r.rl),(.int .i64 r.rs)])] (.ful 0) [(0,.rows .str (wordsL r))] :=
 rfs ok okM Tryz.call40 Tryz.func40 ((run r).trans (f0_eq r h))
noncomputable def sp:Sp U El:=fun args k=>match args with
 | [.agg [.str r_rn,.lst .cnd r_rw,.str r_rl,.int .i64 r_rs]]=>chk (ruleB (⟨r_rn,r_rw,r_rl,r_rs⟩:Rule)) (k (.ful 0) [(0,.rows .str (wordsL (⟨r_rn,r_rw,r_rl,r_rs⟩:Rule)))])
 | _=>none
theorem spOk:SpOk Tryz.prog E 40 sp:=⟨fun vs=>by unfold sp;split;exact det_c _ _ _;exact ⟨none,fun _=>rfl⟩,fun vs k r h=>by unfold sp at h;split at h;(obtain ⟨h1,h2⟩:=chk_some h;exact ⟨_,_,spec ⟨_,_,_,_⟩ h1,h2⟩);cases h⟩
end uwords
namespace utext
noncomputable def bd:Code:=(Tryz.f10.body).getD .skip
noncomputable def X:Ctx U El:=⟨E,tds,zeros,eqs,specOf [(13,valid.sp),(39,join.sp),(40,uwords.sp)],100000,23,dspecOf [],mspecOf [(38,wsSp .u8 (fun s=>s)),(41,strSp .u8 (fun s=>s))],fun _=>none⟩
noncomputable def nmR:Norm U:=⟨[],[2,3],[],[],[],[],[]⟩
noncomputable def RR:Kont U El:=fun st=>normK nmR st (retFin [2,3] [])
noncomputable def nm1:Norm U:=⟨[],[4],[4,4000],[],[],[],[]⟩
noncomputable def nm2:Norm U:=⟨[],[4,10,11,12],[4,4000],[],[],[],[]⟩
abbrev Y1:=(List UInt8)→R
abbrev Y2:=(List Rule)→Int→Int→(List UInt8)→R
noncomputable def fr0 (l:List Rule):St U El:=⟨[(0,(.lst .rule l))],[]⟩
noncomputable def fr1 (iA:List UInt8):St U El:=⟨[(4,(.ptr 4 0))],[(4,(.bld 84 4000)),(4000,(.rows .u8 iA))]⟩
noncomputable def fr2 (lA:List Rule) (mA:Int) (hA:Int) (iA:List UInt8):St U El:=⟨[(4,(.ptr 4 0)),(10,(.lst .rule lA)),(11,(.int .i64 mA)),(12,(.int .i64 hA))],[(4,(.bld 84 4000)),(4000,(.rows .u8 iA))]⟩
noncomputable def sh0 (l:List Rule) (k2:Y2):R :=
 condB (!(rulesB l)) (some ((.tup [(.str ([]:List UInt8)),(.int .i64 (1:Int))]),[])) (k2 l (Int.ofNat (List.length l)) (0:Int) ([]:List UInt8))
noncomputable def sh1 (iA:List UInt8):R :=
 chk (true&&nle (List.length iA) 9223372036854775807) (some ((.tup [(.str iA),(.int .i64 (0:Int))]),[]))
noncomputable def sh2 (lA:List Rule) (mA:Int) (hA:Int) (iA:List UInt8) (k1:Y1) (k2:Y2):R :=
 condB (ilt hA mA) (chk (inb hA (List.length lA)) (chk (ruleB (List.getD lA (Int.toNat hA) d_rule)) (chk ((nle (List.length (wordsL (List.getD lA (Int.toNat hA) d_rule))) 90000&&nle (List.length (Lib.join (wordsL (List.getD lA (Int.toNat hA) d_rule)) ([32]:List UInt8))) 90000)) (chk (nle (List.length (Lib.join (wordsL (List.getD lA (Int.toNat hA) d_rule)) ([32]:List UInt8))+List.length ([10]:List UInt8)) 9223372036854775807) (chk (true&&nle (List.length iA+List.length ((Lib.join (wordsL (List.getD lA (Int.toNat hA) d_rule)) ([32]:List UInt8))++([10]:List UInt8))) 140737488355328) (k2 lA mA (IntKind.wrap .i64 (hA+(1:Int))) (iA++((Lib.join (wordsL (List.getD lA (Int.toNat hA) d_rule)) ([32]:List UInt8))++([10]:List UInt8))))))))) (k1 iA)
noncomputable def it2 (Kb1:Kont U El) (n:Nat):Kont U El:=iter nm2 (fun st' K'=>exec X (cdp [1,1,1,0,1,0,0] bd) .d st' K' (Eblk 0 (cutK nm1 Kb1) (fun _ _=>none)) RR) n
noncomputable def ct1:Kont U El:=fun st=>exec X (cdp [1,1,1,1] bd) .d st RR (fun _ _=>none) RR
theorem P0 (l):exec X (cdp [] bd) (.seq none .d (.seq none .d (.seq none .d (.seq (some nm1) (.seq none .d (.block (.loop nm2 .d))) .d)))) (fr0 l) RR (fun _ _=>none) RR=sh0 l (fun y0 y1 y2 y3=>(hid (it2 (hid ct1) 100000)) (fr2 y0 y1 y2 y3)):=by kernel_rfl
theorem P1 (iA):ct1 (fr1 iA)=sh1 iA:=by kernel_rfl
theorem P2 (lA mA hA iA) (Kb1 Kb2:Kont U El):exec X (cdp [1,1,1,0,1,0,0] bd) .d (fr2 lA mA hA iA) (cutK nm2 Kb2) (Eblk 0 (cutK nm1 Kb1) (fun _ _=>none)) RR=sh2 lA mA hA iA (fun y0=>Kb1 (fr1 y0)) (fun y0 y1 y2 y3=>Kb2 (fr2 y0 y1 y2 y3)):=by kernel_rfl
noncomputable def f1 (iA:List UInt8):R:=sh1 iA
noncomputable def f2:Nat→Y2
 | 0=>fun _ _ _ _=>none
 | n+1=>fun lA mA hA iA=>sh2 lA mA hA iA f1 (f2 n)
noncomputable def f0 (l:List Rule):R:=sh0 l (f2 100000)
theorem T1 (iA):(hid ct1) (fr1 iA)=f1 iA:=by
 refine (congrFun (hid_eq _) _).trans <| (P1 iA).trans ?_
 show _=sh1 iA
 rfl
theorem T2:∀ (n:Nat),∀ lA mA hA iA,it2 (hid ct1) n (fr2 lA mA hA iA)=f2 n lA mA hA iA:=by
  intro n
  induction n with
  | zero=>intros; rfl
  | succ n ih =>
    intro lA mA hA iA
    refine (P2 lA mA hA iA (hid ct1) (it2 (hid ct1) n)).trans ?_
    show _=sh2 lA mA hA iA f1 (f2 n)
    simp only [T1,ih]
theorem H2 (lA mA hA iA):hid (it2 (hid ct1) 100000) (fr2 lA mA hA iA)=f2 100000 lA mA hA iA:=(congrFun (hid_eq _) _).trans (T2 100000 lA mA hA iA)
theorem T0 (l):exec X bd (.seq none .d (.seq none .d (.seq none .d (.seq (some nm1) (.seq none .d (.block (.loop nm2 .d))) .d)))) (fr0 l) RR (fun _ _=>none) RR=f0 l:=by
 refine (P0 l).trans ?_
 show _=sh0 l (f2 100000)
 simp only [H2]
theorem run (l):runFn X bd (.seq none .d (.seq none .d (.seq none .d (.seq (some nm1) (.seq none .d (.block (.loop nm2 .d))) .d)))) nmR [2,3] [] [(.lst .rule l)]=f0 l:=T0 l
theorem loop (l:List Rule) (hl:l.length≤60) (hr:∀ r∈l,ruleB r=true):∀ (n i:Nat) (buf:List UInt8),l.length < n+i→i≤l.length→buf.length≤1040 * i→f2 n l (Int.ofNat l.length) (i:Int) buf=some (.tup [.str (buf++textJ (l.drop i)),.int .i64 0],[]):=by
  intro n
  induction n with
  | zero=>intro i buf h1 h2; omega
  | succ n ih =>
    intro i buf h1 h2 h3
    show sh2 l (Int.ofNat l.length) (i:Int) buf f1 (f2 n)=_
    unfold sh2
    by_cases hi:i < l.length
    · have hri := hr l[i] (List.getElem_mem hi)
      obtain ⟨w1,w2⟩:=wordsL_len hri
      obtain ⟨j1,j2⟩:=lineS_len hri
      have j2':(Lib.join (wordsL l[i]) [32]++[10]).length≤1040:=j2
      rw [iltT (show (i:Int) < Int.ofNat l.length by simp; omega),inbT hi,toNat_nat,getD_lt hi,drop_lt hi,hri,nleT (show (wordsL l[i]).length≤90000 by omega),nleT (show (Lib.join (wordsL l[i]) [32]).length≤90000 by omega),nleT (show (Lib.join (wordsL l[i]) [32]).length+([10]:List UInt8).length≤9223372036854775807 by simp; omega),nleT (show buf.length+(Lib.join (wordsL l[i]) [32]++([10]:List UInt8)).length≤140737488355328 from Nat.le_trans (Nat.add_le_add h3 j2') (by omega)),wrapS i (by omega)]
      simp only [chkT,condT,Bool.and_self]
      rw [ih (i+1) _ (by omega) hi (by rw [List.length_append]; omega),show textJ (l[i] :: l.drop (i+1))=lineS l[i]++textJ (l.drop (i+1)) from rfl,List.append_assoc]
      rfl
    · have : i = l.length := by omega
      subst this
      rw [iltF (by simp),List.drop_length]
      show sh1 buf=_
      unfold sh1
      rw [nleT (by omega)]
      simp [textJ,chk]
theorem f0_eq (l:List Rule):f0 l=some (.tup [.str (textS l),.int .i64 (textE l)],[]):=by
  show sh0 l (f2 100000)=_
  unfold sh0 textS textE
  cases h:rulesB l with
  | false=>rfl
  | true =>
    obtain ⟨h1,h2⟩:=rulesB_len h
    simp only [Bool.not_true,condF,cond_true]
    have:=loop l h1 h2 100000 0 [] (by omega) (by omega) (by simp)
    rw [List.drop_zero] at this
    exact this
theorem ok:CtxOk Tryz.prog X:=ctxOk tab (spC valid.spOk (spC join.spOk (spC uwords.spOk spN))) dpN
theorem okM:MOk Tryz.prog X:=mspecOf_ok _ (mpC (wsOk ok byteU rfl) (mpC (strOk ok byteU rfl) mpN))
theorem spec (l:List Rule):CallSpec Tryz.prog E 10 [(.lst .rule l)] (.tup [(.str (textS l)),(.int .i64 (textE l))]) [] :=
 rfs ok okM Tryz.call10 Tryz.func10 ((run l).trans (f0_eq l))
noncomputable def sp:Sp U El:=fun args k=>match args with
 | [.lst .rule l]=>k (.tup [(.str (textS l)),(.int .i64 (textE l))]) []
 | _=>none
theorem spOk:SpOk Tryz.prog E 10 sp:=⟨fun vs=>by unfold sp;split;exact ⟨some (_,_),fun _=>rfl⟩;exact ⟨none,fun _=>rfl⟩,fun vs k r h=>by unfold sp at h;split at h;exact ⟨_,_,spec _,h⟩;cases h⟩
end utext
namespace parse
theorem spec (s:List UInt8) (h:(nle (List.length s) 80000)=true):CallSpec Tryz.prog E 11 [(.str s)] (.tup [(.lst .rule (uparL s)),(.agg [(.int .i64 ((uparP s).pl)),(.int .i64 ((uparP s).pc))]),(.int .i64 (uparE s))]) []:=parse0.spec s h (tok_ok (nleI h))
noncomputable def sp:Sp U El:=fun args k=>match args with
 | [.str s]=>chk (nle (List.length s) 80000) (k (.tup [(.lst .rule (uparL s)),(.agg [(.int .i64 ((uparP s).pl)),(.int .i64 ((uparP s).pc))]),(.int .i64 (uparE s))]) [])
 | _=>none
theorem spOk:SpOk Tryz.prog E 11 sp:=⟨fun vs=>by unfold sp;split;exact det_c _ _ _;exact ⟨none,fun _=>rfl⟩,fun vs k r h=>by unfold sp at h;split at h;(obtain ⟨h1,h2⟩:=chk_some h;exact ⟨_,_,spec _ h1,h2⟩);cases h⟩
end parse
end Go.Proofs.YtlkfbblapimhoaaGreatDoor
