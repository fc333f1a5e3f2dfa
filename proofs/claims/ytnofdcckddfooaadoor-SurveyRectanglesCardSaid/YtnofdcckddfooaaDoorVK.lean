/- A small grid is a rectangle: the law's own run. -/
import Derived.Test.YtnofdcckddfooaaDoorVJ
namespace Go.Proofs.YtnofdcckddfooaaDoor
set_option linter.unusedSectionVars false
set_option linter.unusedSimpArgs false
set_option linter.unusedVariables false
set_option maxRecDepth 100000
noncomputable def i16B (z:Int):Bool:=ile (-32768) z&&ile z 32767
theorem grid_border {st:Int} {lv:List Int} {Q C:Nat} (h:SG st lv Q C) (hq:1≤Q) (hc:1≤C) (hz:List.any lv badZ=false) :
    brdOk ⟨gridS C st lv,gridG C 0 Q⟩=true∧∃ b,borderL ⟨gridS C st lv,gridG C 0 Q⟩=[b]∧b.length=2 * Q+2 * C:=by
  have hv:=grid_valid h hq hc hz
  have hs:=valid_small hv
  have hsz:sizeOk ⟨gridS C st lv,gridG C 0 Q⟩=true:=by
    unfold sizeOk
    rw [nleT (show (gridS C st lv).length≤90000 by have:=hs.1; dsimp only at this; omega),nleT (show (gridG C 0 Q).length≤90000 by have:=hs.2; dsimp only at this; omega)]
    rfl
  have hb:=all_of (all_of (brds (gridS C st lv)) (in15 hq h.q)) (in15 hc h.c)
  obtain ⟨b,hr,hl⟩:=brdB_of hb
  have ha:argE ⟨gridS C st lv,gridG C 0 Q⟩=0:=by unfold argE; rw [hv]; rfl
  have hf:border.f0 ⟨gridS C st lv,gridG C 0 Q⟩=border.outBd [b] 0:=by
    show border.sh0 _ (border.f2 100000)=_
    unfold border.sh0
    have hs2:=hs.2
    dsimp only at hs2
    rw [hsz,chkT,hv,show (!true)=false from rfl,condF,chkT,ileT (show (0:Int)≤Int.ofNat (gridG C 0 Q).length by simp),ileT (Int.le_refl _),ileT (show Int.ofNat (gridG C 0 Q).length * 3≤140737488355328 by simp; omega),toNat_ofNat]
    exact hr
  have hok:BrdOk ⟨gridS C st lv,gridG C 0 Q⟩:=⟨hsz,[b],by rw [ha]; exact hf⟩
  have hk:=brd_T hok
  refine ⟨hk,b,?_,hl⟩
  have:=(brd_spec hk).symm.trans hf
  rw [ha] at this
  unfold border.outBd at this
  injection this with this
  injection this with this _
  injection this with this
  injection this with this _
  injection this with _ this
namespace lawRects
noncomputable def bd:Code:=(Tryd.f4.body).getD .skip
noncomputable def X:Ctx U El:=⟨E,tds,zeros,eqs,specOf [(5,awake.sp),(6,grid.sp),(9,valid.sp),(10,total.sp),(11,border.sp)],100000,141,dspecOf [],fun _=>none⟩
noncomputable def nmR:Norm U:=⟨[],[8],[],[],[],[],[]⟩
noncomputable def RR:Kont U El:=fun st=>normK nmR st (retFin [8] [])
noncomputable def nm1:Norm U:=⟨[],[0,1,2,3],[],[],[],[],[]⟩
noncomputable def nm2:Norm U:=⟨[],[0,1,2,9],[],[(9,.int)],[],[],[]⟩
noncomputable def nm3:Norm U:=⟨[(9,.int)],[0,1,2,3,9,55,56],[9],[],[],[],[]⟩
noncomputable def nm4:Norm U:=⟨[],[0,1,2,11],[11],[],[],[],[(11,0,.spot),(11,1,.face)]⟩
abbrev Y1:=Int→Int→Int→(List Int)→R
abbrev Y2:=Int→Int→Int→(List Int)→R
abbrev Y3:=Int→Int→Int→(List Int)→(List Int)→Int→Int→R
abbrev Y4:=Int→Int→Int→(List Spot)→(List Face)→R
noncomputable def fr0 (r:Int) (c:Int) (st:Int) (lv:List Int):St U El:=⟨[(0,(.int .i64 r)),(1,(.int .i64 c)),(2,(.int .i64 st)),(3,(.lst .i16 lv))],[]⟩
noncomputable def fr1 (bA:Int) (aA:Int) (dA:Int) (cA:List Int):St U El:=⟨[(0,(.int .i64 bA)),(1,(.int .i64 aA)),(2,(.int .i64 dA)),(3,(.lst .i16 cA))],[]⟩
noncomputable def fr2 (bA:Int) (aA:Int) (dA:Int) (z9:List Int):St U El:=⟨[(0,(.int .i64 bA)),(1,(.int .i64 aA)),(2,(.int .i64 dA)),(9,(.lst .int z9))],[]⟩
noncomputable def fr3 (bA:Int) (aA:Int) (dA:Int) (cA:List Int) (z9:List Int) (hA:Int) (gA:Int):St U El:=⟨[(0,(.int .i64 bA)),(1,(.int .i64 aA)),(2,(.int .i64 dA)),(3,(.lst .i16 cA)),(9,(.ful 9)),(55,(.int .i64 hA)),(56,(.int .i64 gA))],[(9,(.rows .int z9))]⟩
noncomputable def fr4 (bA:Int) (aA:Int) (dA:Int) (eA:List Spot) (fA:List Face):St U El:=⟨[(0,(.int .i64 bA)),(1,(.int .i64 aA)),(2,(.int .i64 dA)),(11,(.ptr 11 0))],[(11,(.box 0 [(.lst .spot eA),(.lst .face fA)]))]⟩
noncomputable def sh0 (r:Int) (c:Int) (st:Int) (lv:List Int) (k1:Y1):R :=
  condB (!(true)) (some ((.bool false),[])) (condB (ilt r (1:Int)) (some ((.bool true),[])) (condB (ilt (5:Int) r) (some ((.bool true),[])) (condB (ilt c (1:Int)) (some ((.bool true),[])) (condB (ilt (5:Int) c) (some ((.bool true),[])) (condB (ilt st (1:Int)) (some ((.bool true),[])) (condB (ilt (1000000:Int) st) (some ((.bool true),[])) (condB ((Int.ofNat (List.length lv)) == (0:Int)) (some ((.bool true),[])) (condB (ilt (100:Int) (Int.ofNat (List.length lv))) (some ((.bool true),[])) (k1 r c st lv)))))))))
noncomputable def sh1 (bA:Int) (aA:Int) (dA:Int) (cA:List Int) (k3:Y3):R :=
  k3 bA aA dA cA ([]:List Int) (IntKind.wrap .i64 ((IntKind.wrap .i64 (bA+(1:Int))) * (IntKind.wrap .i64 (aA+(1:Int))))) (0:Int)
noncomputable def sh2 (bA:Int) (aA:Int) (dA:Int) (z9:List Int) (k4:Y4):R :=
  chk (nle (List.length z9) 90000) (condB ((gridE bA aA dA z9) != (0:Int)) (some ((.bool false),[])) (chk (sizeOk (gridM bA aA dA z9)) (condB (!(validM (gridM bA aA dA z9))) (some ((.bool false),[])) (condB ((Int.ofNat (List.length ((gridM bA aA dA z9).mf))) != (IntKind.wrap .i64 ((IntKind.wrap .i64 ((2:Int) * bA)) * aA))) (some ((.bool false),[])) (k4 bA aA dA ((gridM bA aA dA z9).ms) ((gridM bA aA dA z9).mf))))))
noncomputable def sh3 (bA:Int) (aA:Int) (dA:Int) (cA:List Int) (z9:List Int) (hA:Int) (gA:Int) (k2:Y2) (k3:Y3):R :=
  condB (ilt gA hA) (chk ((Int.ofNat (List.length cA)) != 0) (chk (inb (Int.tmod gA (Int.ofNat (List.length cA))) (List.length cA)) (chk (nle ((List.length z9+List.length ([(IntKind.wrap .i64 (List.getD cA (Int.toNat (Int.tmod gA (Int.ofNat (List.length cA)))) d_i16))]:List Int)) * 8) 140737488355328&&nle (List.length z9+List.length ([(IntKind.wrap .i64 (List.getD cA (Int.toNat (Int.tmod gA (Int.ofNat (List.length cA)))) d_i16))]:List Int)) 9223372036854775807) (k3 bA aA dA cA (z9++([(IntKind.wrap .i64 (List.getD cA (Int.toNat (Int.tmod gA (Int.ofNat (List.length cA)))) d_i16))]:List Int)) hA (IntKind.wrap .i64 (gA+(1:Int))))))) (k2 bA aA dA z9)
noncomputable def sh4 (bA:Int) (aA:Int) (dA:Int) (eA:List Spot) (fA:List Face):R :=
  chk (sizeOk (⟨eA,fA⟩:Mesh)) (chk (brdOk (⟨eA,fA⟩:Mesh)) (condB ((argE (⟨eA,fA⟩:Mesh)) == (0:Int)) (condB ((totalZ (⟨eA,fA⟩:Mesh)) == (IntKind.wrap .i64 ((IntKind.wrap .i64 ((IntKind.wrap .i64 ((IntKind.wrap .i64 ((2:Int) * bA)) * aA)) * dA)) * dA))) (condB ((argE (⟨eA,fA⟩:Mesh)) == (0:Int)) (condB ((Int.ofNat (List.length (borderL (⟨eA,fA⟩:Mesh)))) == (1:Int)) (chk (inb (0:Int) (List.length (borderL (⟨eA,fA⟩:Mesh)))) (some ((.bool ((Int.ofNat (List.length (List.getD (borderL (⟨eA,fA⟩:Mesh)) 0 d_ints))) == (IntKind.wrap .i64 ((IntKind.wrap .i64 ((2:Int) * bA))+(IntKind.wrap .i64 ((2:Int) * aA)))))),[]))) (some ((.bool false),[]))) (some ((.bool false),[]))) (some ((.bool false),[]))) (some ((.bool false),[]))))
noncomputable def it3 (Kb2:Kont U El) (n:Nat):Kont U El:=iter nm3 (fun st' K'=>exec X (cdp [1,1,1,1,0,1,0,0] bd) .d st' K' (Eblk 0 (cutK nm2 Kb2) (fun _ _=>none)) RR) n
noncomputable def ct1:Kont U El:=fun st=>exec X (cdp [1,1,1] bd) (.seq none .d (.seq (some nm2) (.seq none .d (.block (.loop nm3 .d))) (.seq none .d (.seq (some nm4) .d .d)))) st RR (fun _ _=>none) RR
noncomputable def ct2:Kont U El:=fun st=>exec X (cdp [1,1,1,1,1] bd) (.seq none .d (.seq (some nm4) .d .d)) st RR (fun _ _=>none) RR
noncomputable def ct4:Kont U El:=fun st=>exec X (cdp [1,1,1,1,1,1,1] bd) .d st RR (fun _ _=>none) RR
theorem P0 (r c st lv):exec X (cdp [] bd) (.seq none .d (.seq none .d (.seq (some nm1) .d (.seq none .d (.seq (some nm2) (.seq none .d (.block (.loop nm3 .d))) (.seq none .d (.seq (some nm4) .d .d))))))) (fr0 r c st lv) RR (fun _ _=>none) RR=sh0 r c st lv (fun y0 y1 y2 y3=>(hid ct1) (fr1 y0 y1 y2 y3)):=by kernel_rfl
theorem P1 (bA aA dA cA):ct1 (fr1 bA aA dA cA)=sh1 bA aA dA cA (fun y0 y1 y2 y3 y4 y5 y6=>(hid (it3 (hid ct2) 100000)) (fr3 y0 y1 y2 y3 y4 y5 y6)):=by kernel_rfl
theorem P2 (bA aA dA z9):ct2 (fr2 bA aA dA z9)=sh2 bA aA dA z9 (fun y0 y1 y2 y3 y4=>(hid ct4) (fr4 y0 y1 y2 y3 y4)):=by kernel_rfl
theorem P3 (bA aA dA cA z9 hA gA) (Kb2 Kb3:Kont U El):exec X (cdp [1,1,1,1,0,1,0,0] bd) .d (fr3 bA aA dA cA z9 hA gA) (cutK nm3 Kb3) (Eblk 0 (cutK nm2 Kb2) (fun _ _=>none)) RR=sh3 bA aA dA cA z9 hA gA (fun y0 y1 y2 y3=>Kb2 (fr2 y0 y1 y2 y3)) (fun y0 y1 y2 y3 y4 y5 y6=>Kb3 (fr3 y0 y1 y2 y3 y4 y5 y6)):=by kernel_rfl
theorem P4 (bA aA dA eA fA):ct4 (fr4 bA aA dA eA fA)=sh4 bA aA dA eA fA:=by kernel_rfl
noncomputable def f4 (bA:Int) (aA:Int) (dA:Int) (eA:List Spot) (fA:List Face):R:=sh4 bA aA dA eA fA
noncomputable def f2 (bA:Int) (aA:Int) (dA:Int) (z9:List Int):R:=sh2 bA aA dA z9 f4
noncomputable def f3:Nat→Y3
  | 0=>fun _ _ _ _ _ _ _=>none
  | n+1=>fun bA aA dA cA z9 hA gA=>sh3 bA aA dA cA z9 hA gA f2 (f3 n)
noncomputable def f1 (bA:Int) (aA:Int) (dA:Int) (cA:List Int):R:=sh1 bA aA dA cA (f3 100000)
noncomputable def f0 (r:Int) (c:Int) (st:Int) (lv:List Int):R:=sh0 r c st lv f1
theorem T4 (bA aA dA eA fA):(hid ct4) (fr4 bA aA dA eA fA)=f4 bA aA dA eA fA:=by
  refine (congrFun (hid_eq _) _).trans <| (P4 bA aA dA eA fA).trans ?_
  show _=sh4 bA aA dA eA fA
  rfl
theorem T2 (bA aA dA z9):(hid ct2) (fr2 bA aA dA z9)=f2 bA aA dA z9:=by
  refine (congrFun (hid_eq _) _).trans <| (P2 bA aA dA z9).trans ?_
  show _=sh2 bA aA dA z9 f4
  simp only [T4]
theorem T3:∀ (n:Nat),∀ bA aA dA cA z9 hA gA,it3 (hid ct2) n (fr3 bA aA dA cA z9 hA gA)=f3 n bA aA dA cA z9 hA gA:=by
  intro n
  induction n with
  | zero=>intros; rfl
  | succ n ih =>
    intro bA aA dA cA z9 hA gA
    refine (P3 bA aA dA cA z9 hA gA (hid ct2) (it3 (hid ct2) n)).trans ?_
    show _=sh3 bA aA dA cA z9 hA gA f2 (f3 n)
    simp only [T2,ih]
theorem H3 (bA aA dA cA z9 hA gA):hid (it3 (hid ct2) 100000) (fr3 bA aA dA cA z9 hA gA)=f3 100000 bA aA dA cA z9 hA gA:=(congrFun (hid_eq _) _).trans (T3 100000 bA aA dA cA z9 hA gA)
theorem T1 (bA aA dA cA):(hid ct1) (fr1 bA aA dA cA)=f1 bA aA dA cA:=by
  refine (congrFun (hid_eq _) _).trans <| (P1 bA aA dA cA).trans ?_
  show _=sh1 bA aA dA cA (f3 100000)
  simp only [H3]
theorem T0 (r c st lv):exec X bd (.seq none .d (.seq none .d (.seq (some nm1) .d (.seq none .d (.seq (some nm2) (.seq none .d (.block (.loop nm3 .d))) (.seq none .d (.seq (some nm4) .d .d))))))) (fr0 r c st lv) RR (fun _ _=>none) RR=f0 r c st lv:=by
  refine (P0 r c st lv).trans ?_
  show _=sh0 r c st lv f1
  simp only [T1]
theorem run (r c st lv):runFn X bd (.seq none .d (.seq none .d (.seq (some nm1) .d (.seq none .d (.seq (some nm2) (.seq none .d (.block (.loop nm3 .d))) (.seq none .d (.seq (some nm4) .d .d))))))) nmR [8] [] [(.int .i64 r),(.int .i64 c),(.int .i64 st),(.lst .i16 lv)]=f0 r c st lv:=T0 r c st lv
noncomputable def lvZ (lv:List Int) (t:Nat):Int:=IntKind.wrap .i64 (List.getD lv (t%lv.length) d_i16)
theorem loop (r c st : Int) (lv : List Int) (N : Nat) (hN : N ≤ 36) (hl0 : 0 < lv.length) (hl : lv.length ≤ 100) : ∀ (n i : Nat) (z : List Int), N < n + i → i ≤ N → z.length = i →
    f3 n r c st lv z (N:Int) (i:Int)=f2 r c st (z++(List.range' i (N - i)).map (lvZ lv)):=by
  intro n
  induction n with
  | zero=>intro i z h1 h2; omega
  | succ n ih =>
    intro i z h1 h2 h3
    show sh3 r c st lv z (N:Int) (i:Int) f2 (f3 n)=_
    unfold sh3
    by_cases hk:i < N
    · have hm : i % lv.length < lv.length := Nat.mod_lt _ hl0
      have hne:((Int.ofNat (List.length lv)) != 0)=true:=by
        have:Int.ofNat (List.length lv)≠0:=by simp; intro e; rw [e] at hl0; simp at hl0
        simpa using this
      rw [iltT (by omega),condT,hne,chkT,show Int.tmod (i:Int) (Int.ofNat lv.length)=((i%lv.length:Nat):Int) from tmodN i lv.length,inbT hm,chkT,toNat_nat,
        show (nle ((List.length z+List.length ([IntKind.wrap .i64 (List.getD lv (i%lv.length) d_i16)]:List Int)) * 8) 140737488355328&&nle (List.length z+List.length ([IntKind.wrap .i64 (List.getD lv (i%lv.length) d_i16)]:List Int)) 9223372036854775807)=true from by
          rw [nleT (by simp; omega),nleT (by simp; omega)]; rfl,chkT,wrapS i (by omega),ih (i+1) _ (by omega) hk (by simp [h3]),List.append_assoc]
      congr 2
      rw [show N - i=(N - (i+1))+1 by omega,List.range'_succ]
      rfl
    · have hi : i = N := by omega
      subst hi
      rw [iltF (by omega),condF,Nat.sub_self]
      simp
theorem f0_eq (r c st:Int) (lv:List Int) (hlv:List.all lv i16B=true):f0 r c st lv=outB true:=by
  have key:1≤r→r≤5→1≤c→c≤5→1≤st→st≤1000000→0 < lv.length→lv.length≤100→f1 r c st lv=outB true:=by
    intro r1 r2 c1 c2 s1 s2 l1 l2
    obtain ⟨Q,rfl⟩:=Int.eq_ofNat_of_zero_le (show 0≤r by omega)
    obtain ⟨C,rfl⟩:=Int.eq_ofNat_of_zero_le (show 0≤c by omega)
    have hN:(Q+1) * (C+1)≤36:=Nat.mul_le_mul (show Q+1≤6 by omega) (show C+1≤6 by omega)
    have hQC:2 * C * Q≤50:=Nat.mul_le_mul (show 2 * C≤10 by omega) (show Q≤5 by omega)
    show sh1 (Q:Int) (C:Int) st lv (f3 100000)=_
    unfold sh1
    have hw:IntKind.wrap .i64 (IntKind.wrap .i64 ((Q:Int)+1) * IntKind.wrap .i64 ((C:Int)+1))=(((Q+1) * (C+1):Nat):Int):=by
      rw [wrapS Q (by omega),wrapS C (by omega),← Int.natCast_mul]
      generalize (Q+1) * (C+1)=m at *
      exact wrapI (by omega) (by omega)
    rw [hw]
    have hlp:=loop (Q:Int) (C:Int) st lv ((Q+1) * (C+1)) hN l1 l2 100000 0 [] (by omega) (by omega) rfl
    refine hlp.trans ?_
    rw [List.nil_append,Nat.sub_zero]
    have hzl:((List.range' 0 ((Q+1) * (C+1))).map (lvZ lv)).length=(Q+1) * (C+1):=by simp
    have hzz:List.any ((List.range' 0 ((Q+1) * (C+1))).map (lvZ lv)) badZ=false:=by
      rw [List.any_eq_false]
      intro z hz
      obtain ⟨t,_,rfl⟩:=List.mem_map.1 hz
      have hm:t%lv.length < lv.length:=Nat.mod_lt _ l1
      have hb:=List.all_eq_true.1 hlv lv[t%lv.length] (List.getElem_mem hm)
      simp only [i16B,Bool.and_eq_true] at hb
      have b1:=ileI hb.1; have b2:=ileI hb.2
      unfold lvZ badZ
      rw [getD_lt hm,wrapI (by omega) (by omega),iltF (by omega),iltF (by omega)]
      simp
    generalize (List.range' 0 ((Q+1) * (C+1))).map (lvZ lv)=zs at hzl hzz
    have hsg:SG st zs Q C:=⟨by omega,by omega,s1,s2,hzl⟩
    have hqs:(Q:Int) * st≤16777216:=by
      have:=small_mul s1 s2 (x:=(Q:Int)) (b:=5) (by omega)
      omega
    have hcs:(C:Int) * st≤16777216:=by
      have:=small_mul s1 s2 (x:=(C:Int)) (b:=5) (by omega)
      omega
    have hp1:((Q:Int)+1) * ((C:Int)+1)=(((Q+1) * (C+1):Nat):Int):=by simp
    have hp2:2 * (Q:Int) * (C:Int)=((2 * C * Q:Nat):Int):=by simp only [Int.natCast_mul]; grind
    have hE:gridE (Q:Int) (C:Int) st zs=0:=by
      unfold gridE
      rw [gridB_F r1 c1 s1 hqs hcs,hp1,hp2,hzl,hzz]
      generalize (Q+1) * (C+1)=m at *
      generalize 2 * C * Q=m' at *
      rw [cond_false,iltF (by omega),iltF (by omega)]
      simp
    have hM:gridM (Q:Int) (C:Int) st zs=⟨gridS C st zs,gridG C 0 Q⟩:=by
      unfold gridM
      rw [hE]
      rfl
    have hq1:1≤Q:=by omega
    have hc1:1≤C:=by omega
    have hv:=grid_valid hsg hq1 hc1 hzz
    obtain ⟨hbk,b,hbl,hbn⟩:=grid_border hsg hq1 hc1 hzz
    have hsz:=(brd_of hbk).1
    have hgl:(gridG C 0 Q).length=2 * C * Q:=gridG_len C Q 0
    have hw2:IntKind.wrap .i64 (IntKind.wrap .i64 (2 * (Q:Int)) * (C:Int))=((2 * C * Q:Nat):Int):=by
      rw [wrapI (x:=2 * (Q:Int)) (by omega) (by omega),hp2]
      generalize 2 * C * Q=m at *
      exact wrapI (by omega) (by omega)
    have ha:argE ⟨gridS C st zs,gridG C 0 Q⟩=0:=by unfold argE; rw [hv]; rfl
    have hst:(st * st).natAbs≤1000000 * 1000000:=small_mul s1 s2 (by omega)
    have hw3:IntKind.wrap .i64 (IntKind.wrap .i64 (((2 * C * Q:Nat):Int) * st) * st)=((2 * C * Q:Nat):Int) * (st * st):=by
      have k1:(((2 * C * Q:Nat):Int) * st).natAbs≤50 * 1000000:=small_mul s1 s2 (by omega)
      have k2:(((2 * C * Q:Nat):Int) * (st * st)).natAbs≤50 * (1000000 * 1000000):=by rw [Int.natAbs_mul]; exact Nat.mul_le_mul (by omega) hst
      rw [wrapI (x:=((2 * C * Q:Nat):Int) * st) (by omega) (by omega),Int.mul_assoc]
      exact wrapI (by omega) (by omega)
    show sh2 (Q:Int) (C:Int) st zs f4=_
    unfold sh2
    rw [nleT (show zs.length≤90000 by rw [hzl]; omega),chkT,hE,hM,show ((0:Int) != 0)=false from rfl,condF,hsz,chkT,hv,show (!true)=false from rfl,condF]
    dsimp only
    rw [hgl,hw2,show (Int.ofNat (2 * C * Q) != ((2 * C * Q:Nat):Int))=false from by simp,condF]
    show sh4 (Q:Int) (C:Int) st (gridS C st zs) (gridG C 0 Q)=_
    unfold sh4
    rw [hsz,chkT,hbk,chkT,ha,show ((0:Int) == 0)=true from rfl,condT,condT,grid_total hsg hq1 hc1 hzz,hw2,hw3,beq_self_eq_true,condT,hbl]
    rw [show ((Int.ofNat (List.length [b])) == (1:Int))=true from rfl,condT,inb0 (show 0 < [b].length from Nat.one_pos),chkT,show List.getD [b] 0 d_ints=b from rfl,hbn,wrapI (x:=2 * (Q:Int)) (by omega) (by omega),wrapI (x:=2 * (C:Int)) (by omega) (by omega),wrapI (by omega) (by omega)]
    have:(Int.ofNat (2 * Q+2 * C) == 2 * (Q:Int)+2 * (C:Int))=true:=by simp
    rw [this]
    rfl
  show sh0 r c st lv f1=_
  unfold sh0
  rw [show (!true)=false from rfl,condF]
  cases h1:ilt r 1 with
  | true=>rfl
  | false =>
  cases h2:ilt 5 r with
  | true=>rfl
  | false =>
  cases h3:ilt c 1 with
  | true=>rfl
  | false =>
  cases h4:ilt 5 c with
  | true=>rfl
  | false =>
  cases h5:ilt st 1 with
  | true=>rfl
  | false =>
  cases h6:ilt 1000000 st with
  | true=>rfl
  | false =>
  cases h7:(Int.ofNat lv.length == 0) with
  | true=>rfl
  | false =>
  cases h8:ilt 100 (Int.ofNat lv.length) with
  | true=>rfl
  | false =>
  have h1:=iltN h1; have h2:=iltN h2; have h3:=iltN h3; have h4:=iltN h4; have h5:=iltN h5; have h6:=iltN h6; have h8:=iltN h8
  have h7:¬ Int.ofNat lv.length=0:=by simpa using h7
  exact key (by omega) (by omega) (by omega) (by omega) (by omega) (by omega) (by simp at h7; exact List.length_pos_iff.2 (by simpa using h7)) (by simp at h8; omega)
theorem ok:CtxOk Tryd.prog X:=ctxOk tab (spC awake.spOk (spC grid.spOk (spC valid.spOk (spC total.spOk (spC border.spOk spN))))) dpN
theorem okM:MOk Tryd.prog X:=fun g sp h=>by cases h
theorem spec (r:Int) (c:Int) (st:Int) (lv:List Int) (h:(List.all lv i16B)=true):CallSpec Tryd.prog E 4 [(.int .i64 r),(.int .i64 c),(.int .i64 st),(.lst .i16 lv)] (.bool (true)) [] :=
  runFn_sound ok okM Tryd.call4 Tryd.func4 (by kernel_rfl) (by kernel_rfl) (by kernel_rfl) (by show 4≤141; decide) (by decide) (by rfl) ((run r c st lv).trans (f0_eq r c st lv h))
noncomputable def sp:Sp U El:=fun args k=>match args with
  | [.int .i64 r,.int .i64 c,.int .i64 st,.lst .i16 lv]=>chk (List.all lv i16B) (k (.bool (true)) [])
  | _=>none
theorem spOk:SpOk Tryd.prog E 4 sp where
  det:=fun vs=>by
    unfold sp
    split
    · exact det_c _ _ _
    · exact ⟨none,fun _=>rfl⟩
  ok:=fun vs k r h=>by
    unfold sp at h
    split at h
    · obtain ⟨h1, h2⟩ := chk_some h
      exact ⟨_,_,spec _ _ _ _ h1,h2⟩
    · cases h
end lawRects
end Go.Proofs.YtnofdcckddfooaaDoor
