/- Complete and Covered of the document; the law ConflictsCorners by its own run. -/
import Derived.Test.YthdimnlkcgchoaaGreatVR
namespace Go.Proofs.YthdimnlkcgchoaaGreat
set_option linter.unusedSectionVars false
set_option linter.unusedSimpArgs false
set_option linter.unusedVariables false
set_option maxRecDepth 100000
theorem padM_len (l:List Rule) (n:Net) (s:List UInt8) (k:Nat):(corner (padM l n s) k).length=n.nds.length:=by rw [corner_length]; simp [padM]
theorem holdOk {n:Net} (hn:okN n=true) {v:List Int} {r:Rule} (h:hasLevR n.nds v r=true):(nle (namesL n).length 90000&&(nle r.rw.length 90000&&List.all r.rw (hasLevN (namesL n) v)))=true:=by
  simp only [hasLevR,Bool.and_eq_true] at h
  simp only [Bool.and_eq_true]
  refine ⟨by have:=okN_nds hn; simpa [namesL] using this,h.1,List.all_eq_true.2 fun c hc => ?_⟩
  have:=List.all_eq_true.1 h.2 c hc
  simp only [hasLev,Bool.and_eq_true] at this
  exact this.2
theorem few_le {l:List Rule} {n:Net} {s:List UInt8} (h:fewB l n s=true):countP l n s≤10000:=nleI h
noncomputable def resC (ms:List (List Int)):Option Nat→R
  | none=>outC true [] 0
  | some k=>outC false (corner ms k) 0
noncomputable def resV:Option Nat→R
  | none=>outV true 0
  | some k=>outV false 0
namespace rcomplete
noncomputable def bd:Code:=(Tryz.f27.body).getD .skip
noncomputable def X:Ctx U El:=⟨E,tds,zeros,eqs,specOf [(41,rnames.sp),(53,rgiven.sp),(68,rcount.sp),(69,rmarks.sp),(76,rfindLink.sp),(77,rcorner.sp),(78,rholds.sp)],100000,73,dspecOf [],fun _=>none⟩
noncomputable def nmR:Norm U:=⟨[],[6,7,8],[],[(7,.int)],[],[],[]⟩
noncomputable def RR:Kont U El:=fun st=>normK nmR st (retFin [6,7,8] [])
noncomputable def nm1:Norm U:=⟨[],[],[],[],[],[],[]⟩
noncomputable def nm2:Norm U:=⟨[(10,.ints),(12,.str)],[0,2,10,11,12,13],[10,12],[],[],[],[]⟩
noncomputable def nm3:Norm U:=⟨[(10,.ints),(12,.str)],[0,2,10,11,12,13],[10,12],[],[],[],[]⟩
noncomputable def nm4:Norm U:=⟨[(10,.ints),(12,.str),(14,.int)],[0,2,10,11,12,13,14,15],[10,12,14],[],[],[],[]⟩
noncomputable def nm5:Norm U:=⟨[(10,.ints),(12,.str),(14,.int)],[0,2,10,11,12,13,14,15,16],[10,12,14],[],[],[],[]⟩
noncomputable def nm6:Norm U:=⟨[(10,.ints),(12,.str),(14,.int)],[0,2,10,11,12,13,14,15,16],[10,12,14],[],[],[],[]⟩
abbrev Y1:=R
abbrev Y2:=(List Rule)→(List UInt8)→(List (List Int))→Int→(List (List UInt8))→Int→R
abbrev Y3:=(List Rule)→(List UInt8)→(List (List Int))→Int→(List (List UInt8))→Int→R
abbrev Y4:=(List Rule)→(List UInt8)→(List (List Int))→Int→(List (List UInt8))→Int→(List Int)→Bool→R
abbrev Y5:=(List Rule)→(List UInt8)→(List (List Int))→Int→(List (List UInt8))→Int→(List Int)→Bool→Int→R
abbrev Y6:=(List Rule)→(List UInt8)→(List (List Int))→Int→(List (List UInt8))→Int→(List Int)→Bool→Int→R
noncomputable def fr0 (l:List Rule) (n:Net) (s:List UInt8):St U El:=⟨[(0,(.lst .rule l)),(1,(.agg [(.lst .node n.nds),(.lst .link n.lks)])),(2,(.str s))],[]⟩
noncomputable def fr1:St U El:=⟨[],[]⟩
noncomputable def fr2 (l0:List Rule) (hA:List UInt8) (dA:List (List Int)) (eA:Int) (cA:List (List UInt8)) (nA:Int):St U El:=⟨[(0,(.lst .rule l0)),(2,(.str hA)),(10,(.ful 10)),(11,(.int .i64 eA)),(12,(.ful 12)),(13,(.int .i64 nA))],[(10,(.rows .ints dA)),(12,(.rows .str cA))]⟩
noncomputable def fr3 (l0:List Rule) (hA:List UInt8) (dA:List (List Int)) (eA:Int) (cA:List (List UInt8)) (nA:Int):St U El:=⟨[(0,(.lst .rule l0)),(2,(.str hA)),(10,(.ful 10)),(11,(.int .i64 eA)),(12,(.ful 12)),(13,(.int .i64 nA))],[(10,(.rows .ints dA)),(12,(.rows .str cA))]⟩
noncomputable def fr4 (l0:List Rule) (hA:List UInt8) (dA:List (List Int)) (eA:Int) (cA:List (List UInt8)) (nA:Int) (gA:List Int) (kA:Bool):St U El:=⟨[(0,(.lst .rule l0)),(2,(.str hA)),(10,(.ful 10)),(11,(.int .i64 eA)),(12,(.ful 12)),(13,(.int .i64 nA)),(14,(.ful 14)),(15,(.bool kA))],[(10,(.rows .ints dA)),(12,(.rows .str cA)),(14,(.rows .int gA))]⟩
noncomputable def fr5 (l0:List Rule) (hA:List UInt8) (dA:List (List Int)) (eA:Int) (cA:List (List UInt8)) (nA:Int) (gA:List Int) (kA:Bool) (oA:Int):St U El:=⟨[(0,(.lst .rule l0)),(2,(.str hA)),(10,(.ful 10)),(11,(.int .i64 eA)),(12,(.ful 12)),(13,(.int .i64 nA)),(14,(.ful 14)),(15,(.bool kA)),(16,(.int .i64 oA))],[(10,(.rows .ints dA)),(12,(.rows .str cA)),(14,(.rows .int gA))]⟩
noncomputable def fr6 (l0:List Rule) (hA:List UInt8) (dA:List (List Int)) (eA:Int) (cA:List (List UInt8)) (nA:Int) (gA:List Int) (kA:Bool) (oA:Int):St U El:=⟨[(0,(.lst .rule l0)),(2,(.str hA)),(10,(.ful 10)),(11,(.int .i64 eA)),(12,(.ful 12)),(13,(.int .i64 nA)),(14,(.ful 14)),(15,(.bool kA)),(16,(.int .i64 oA))],[(10,(.rows .ints dA)),(12,(.rows .str cA)),(14,(.rows .int gA))]⟩
noncomputable def sh0 (l:List Rule) (n:Net) (s:List UInt8) (k2:Y2):R :=
  chk (okN n) (condB ((givenZ l n) != (0:Int)) (some ((.tup [(.bool false),(.lst .int ([]:List Int)),(.int .i64 (givenZ l n))]),[])) (chk (okN n) (condB (ilt (linkZ n s) (0:Int)) (some ((.tup [(.bool false),(.lst .int ([]:List Int)),(.int .i64 (9:Int))]),[])) (chk ((okN n&&smallR l)) (chk (okMs (padM l n s)) (condB (ilt (10000:Int) (countZ (padM l n s))) (some ((.tup [(.bool false),(.lst .int ([]:List Int)),(.int .i64 (6:Int))]),[])) (chk (okN n) (k2 l s (padM l n s) (countZ (padM l n s)) (namesL n) (0:Int)))))))))
noncomputable def sh1:R :=
  some ((.tup [(.bool true),(.lst .int ([]:List Int)),(.int .i64 (0:Int))]),[])
noncomputable def sh2 (l0:List Rule) (hA:List UInt8) (dA:List (List Int)) (eA:Int) (cA:List (List UInt8)) (nA:Int) (k1:Y1) (k5:Y5):R :=
  condB (ilt nA eA) (chk ((okMs dA&&(ile 0 nA&&ile nA 10000))) (k5 l0 hA dA eA cA nA (corner dA (Int.toNat nA)) false (0:Int))) (k1)
noncomputable def sh3 (l0:List Rule) (hA:List UInt8) (dA:List (List Int)) (eA:Int) (cA:List (List UInt8)) (nA:Int) (k2:Y2):R :=
  k2 l0 hA dA eA cA (IntKind.wrap .i64 (nA+(1:Int)))
noncomputable def sh4 (l0:List Rule) (hA:List UInt8) (dA:List (List Int)) (eA:Int) (cA:List (List UInt8)) (nA:Int) (gA:List Int) (kA:Bool) (k3:Y3):R :=
  condB (!kA) (some ((.tup [(.bool false),(.lst .int gA),(.int .i64 (0:Int))]),[])) (k3 l0 hA dA eA cA nA)
noncomputable def sh5 (l0:List Rule) (hA:List UInt8) (dA:List (List Int)) (eA:Int) (cA:List (List UInt8)) (nA:Int) (gA:List Int) (kA:Bool) (oA:Int) (k4:Y4) (k6:Y6):R :=
  condB (ilt oA (Int.ofNat (List.length l0))) (condB kA (k6 l0 hA dA eA cA nA gA true oA) (chk (inb oA (List.length l0)) (condB (((List.getD l0 (Int.toNat oA) d_rule).rl) == hA) (chk (inb oA (List.length l0)) (chk ((nle (List.length cA) 90000&&(nle (List.length (Rule.rw (List.getD l0 (Int.toNat oA) d_rule))) 90000&&List.all (Rule.rw (List.getD l0 (Int.toNat oA) d_rule)) (hasLevN cA gA)))) (k6 l0 hA dA eA cA nA gA (holdN cA gA (Rule.rw (List.getD l0 (Int.toNat oA) d_rule))) oA))) (k6 l0 hA dA eA cA nA gA false oA)))) (k4 l0 hA dA eA cA nA gA kA)
noncomputable def sh6 (l0:List Rule) (hA:List UInt8) (dA:List (List Int)) (eA:Int) (cA:List (List UInt8)) (nA:Int) (gA:List Int) (kA:Bool) (oA:Int) (k5:Y5):R :=
  k5 l0 hA dA eA cA nA gA kA (IntKind.wrap .i64 (oA+(1:Int)))
noncomputable def it2 (Kb1:Kont U El) (n:Nat):Kont U El:=iter nm2 (fun st' K'=>exec X (cdp [1,1,1,1,1,1,1,1,0,1,0,0] bd) (.seq none .d (.seq (some nm3) (.block (.seq none .d (.seq none .d (.seq (some nm4) (.seq none .d (.block (.loop nm5 (.seq none .d (.seq (some nm6) .d .d))))) .d)))) .d)) st' K' (Eblk 0 (cutK nm1 Kb1) (fun _ _=>none)) RR) n
noncomputable def it5 (Kb1:Kont U El) (Kb3:Kont U El) (Kb4:Kont U El) (n:Nat):Kont U El:=iter nm5 (fun st' K'=>exec X (cdp [1,1,1,1,1,1,1,1,0,1,0,0,1,0,0,1,1,0,1,0,0] bd) (.seq none .d (.seq (some nm6) .d .d)) st' K' (Eblk 2 (cutK nm4 Kb4) (Eblk 1 (cutK nm3 Kb3) (Eblk 0 (cutK nm1 Kb1) (fun _ _=>none)))) RR) n
noncomputable def ct1:Kont U El:=fun st=>exec X (cdp [1,1,1,1,1,1,1,1,1] bd) .d st RR (fun _ _=>none) RR
noncomputable def ct3 (Kb1:Kont U El) (Kb2:Kont U El):Kont U El:=fun st=>exec X (cdp [1,1,1,1,1,1,1,1,0,1,0,0,1,1] bd) .d st (cutK nm2 Kb2) (Eblk 0 (cutK nm1 Kb1) (fun _ _=>none)) RR
noncomputable def ct4 (Kb1:Kont U El) (Kb3:Kont U El):Kont U El:=fun st=>exec X (cdp [1,1,1,1,1,1,1,1,0,1,0,0,1,0,0,1,1,1] bd) .d st (cutK nm3 Kb3) (Eblk 1 (cutK nm3 Kb3) (Eblk 0 (cutK nm1 Kb1) (fun _ _=>none))) RR
noncomputable def ct6 (Kb1:Kont U El) (Kb3:Kont U El) (Kb4:Kont U El) (Kb5:Kont U El):Kont U El:=fun st=>exec X (cdp [1,1,1,1,1,1,1,1,0,1,0,0,1,0,0,1,1,0,1,0,0,1,1] bd) .d st (cutK nm5 Kb5) (Eblk 2 (cutK nm4 Kb4) (Eblk 1 (cutK nm3 Kb3) (Eblk 0 (cutK nm1 Kb1) (fun _ _=>none)))) RR
theorem P0 (l n s):exec X (cdp [] bd) (.seq none .d (.seq none .d (.seq none .d (.seq none .d (.seq none .d (.seq none .d (.seq none .d (.seq none .d (.seq (some nm1) (.seq none .d (.block (.loop nm2 (.seq none .d (.seq (some nm3) (.block (.seq none .d (.seq none .d (.seq (some nm4) (.seq none .d (.block (.loop nm5 (.seq none .d (.seq (some nm6) .d .d))))) .d)))) .d))))) .d))))))))) (fr0 l n s) RR (fun _ _=>none) RR=sh0 l n s (fun y0 y1 y2 y3 y4 y5=>(hid (it2 (hid ct1) 100000)) (fr2 y0 y1 y2 y3 y4 y5)):=by kernel_rfl
theorem P1:exec X (cdp [1,1,1,1,1,1,1,1,1] bd) .d (fr1) RR (fun _ _=>none) RR=sh1:=by kernel_rfl
theorem P2 (l0 hA dA eA cA nA) (Kb1:Kont U El) (Kb2:Kont U El):exec X (cdp [1,1,1,1,1,1,1,1,0,1,0,0] bd) (.seq none .d (.seq (some nm3) (.block (.seq none .d (.seq none .d (.seq (some nm4) (.seq none .d (.block (.loop nm5 (.seq none .d (.seq (some nm6) .d .d))))) .d)))) .d)) (fr2 l0 hA dA eA cA nA) (cutK nm2 Kb2) (Eblk 0 (cutK nm1 Kb1) (fun _ _=>none)) RR=sh2 l0 hA dA eA cA nA (Kb1 (fr1)) (fun y0 y1 y2 y3 y4 y5 y6 y7 y8=>(hid (it5 Kb1 (hid (ct3 Kb1 Kb2)) (hid (ct4 Kb1 (hid (ct3 Kb1 Kb2)))) 100000)) (fr5 y0 y1 y2 y3 y4 y5 y6 y7 y8)):=by kernel_rfl
theorem P3 (l0 hA dA eA cA nA) (Kb1:Kont U El) (Kb2:Kont U El):exec X (cdp [1,1,1,1,1,1,1,1,0,1,0,0,1,1] bd) .d (fr3 l0 hA dA eA cA nA) (cutK nm2 Kb2) (Eblk 0 (cutK nm1 Kb1) (fun _ _=>none)) RR=sh3 l0 hA dA eA cA nA (fun y0 y1 y2 y3 y4 y5=>Kb2 (fr2 y0 y1 y2 y3 y4 y5)):=by kernel_rfl
theorem P4 (l0 hA dA eA cA nA gA kA) (Kb1:Kont U El) (Kb3:Kont U El):exec X (cdp [1,1,1,1,1,1,1,1,0,1,0,0,1,0,0,1,1,1] bd) .d (fr4 l0 hA dA eA cA nA gA kA) (cutK nm3 Kb3) (Eblk 1 (cutK nm3 Kb3) (Eblk 0 (cutK nm1 Kb1) (fun _ _=>none))) RR=sh4 l0 hA dA eA cA nA gA kA (fun y0 y1 y2 y3 y4 y5=>Kb3 (fr3 y0 y1 y2 y3 y4 y5)):=by kernel_rfl
theorem P5 (l0 hA dA eA cA nA gA kA oA) (Kb1:Kont U El) (Kb3:Kont U El) (Kb4:Kont U El) (Kb5:Kont U El):exec X (cdp [1,1,1,1,1,1,1,1,0,1,0,0,1,0,0,1,1,0,1,0,0] bd) (.seq none .d (.seq (some nm6) .d .d)) (fr5 l0 hA dA eA cA nA gA kA oA) (cutK nm5 Kb5) (Eblk 2 (cutK nm4 Kb4) (Eblk 1 (cutK nm3 Kb3) (Eblk 0 (cutK nm1 Kb1) (fun _ _=>none)))) RR=sh5 l0 hA dA eA cA nA gA kA oA (fun y0 y1 y2 y3 y4 y5 y6 y7=>Kb4 (fr4 y0 y1 y2 y3 y4 y5 y6 y7)) (fun y0 y1 y2 y3 y4 y5 y6 y7 y8=>(hid (ct6 Kb1 Kb3 Kb4 Kb5)) (fr6 y0 y1 y2 y3 y4 y5 y6 y7 y8)):=by kernel_rfl
theorem P6 (l0 hA dA eA cA nA gA kA oA) (Kb1:Kont U El) (Kb3:Kont U El) (Kb4:Kont U El) (Kb5:Kont U El):exec X (cdp [1,1,1,1,1,1,1,1,0,1,0,0,1,0,0,1,1,0,1,0,0,1,1] bd) .d (fr6 l0 hA dA eA cA nA gA kA oA) (cutK nm5 Kb5) (Eblk 2 (cutK nm4 Kb4) (Eblk 1 (cutK nm3 Kb3) (Eblk 0 (cutK nm1 Kb1) (fun _ _=>none)))) RR=sh6 l0 hA dA eA cA nA gA kA oA (fun y0 y1 y2 y3 y4 y5 y6 y7 y8=>Kb5 (fr5 y0 y1 y2 y3 y4 y5 y6 y7 y8)):=by kernel_rfl
noncomputable def f1:R:=sh1
noncomputable def f3 (k2:Y2) (l0:List Rule) (hA:List UInt8) (dA:List (List Int)) (eA:Int) (cA:List (List UInt8)) (nA:Int):R:=sh3 l0 hA dA eA cA nA k2
noncomputable def f4 (k2:Y2) (l0:List Rule) (hA:List UInt8) (dA:List (List Int)) (eA:Int) (cA:List (List UInt8)) (nA:Int) (gA:List Int) (kA:Bool):R:=sh4 l0 hA dA eA cA nA gA kA (f3 k2)
noncomputable def f6 (k2:Y2) (k5:Y5) (l0:List Rule) (hA:List UInt8) (dA:List (List Int)) (eA:Int) (cA:List (List UInt8)) (nA:Int) (gA:List Int) (kA:Bool) (oA:Int):R:=sh6 l0 hA dA eA cA nA gA kA oA k5
noncomputable def f5 (k2:Y2):Nat→Y5
  | 0=>fun _ _ _ _ _ _ _ _ _=>none
  | n+1=>fun l0 hA dA eA cA nA gA kA oA=>sh5 l0 hA dA eA cA nA gA kA oA (f4 k2) (f6 k2 (f5 k2 n))
noncomputable def f2:Nat→Y2
  | 0=>fun _ _ _ _ _ _=>none
  | n+1=>fun l0 hA dA eA cA nA=>sh2 l0 hA dA eA cA nA f1 (f5 (f2 n) 100000)
noncomputable def f0 (l:List Rule) (n:Net) (s:List UInt8):R:=sh0 l n s (f2 100000)
theorem T1:(hid ct1) (fr1)=f1:=by
  refine (congrFun (hid_eq _) _).trans <| (P1).trans ?_
  show _=sh1
  rfl
theorem T3 (KL2:Kont U El) (k2:Y2) (h2:∀ l0 hA dA eA cA nA,KL2 (fr2 l0 hA dA eA cA nA)=k2 l0 hA dA eA cA nA) (l0 hA dA eA cA nA):(hid (ct3 (hid ct1) KL2)) (fr3 l0 hA dA eA cA nA)=f3 k2 l0 hA dA eA cA nA:=by
  refine (congrFun (hid_eq _) _).trans <| (P3 l0 hA dA eA cA nA (hid ct1) KL2).trans ?_
  show _=sh3 l0 hA dA eA cA nA k2
  simp only [h2]
theorem T4 (KL2:Kont U El) (k2:Y2) (h2:∀ l0 hA dA eA cA nA,KL2 (fr2 l0 hA dA eA cA nA)=k2 l0 hA dA eA cA nA) (l0 hA dA eA cA nA gA kA):(hid (ct4 (hid ct1) (hid (ct3 (hid ct1) KL2)))) (fr4 l0 hA dA eA cA nA gA kA)=f4 k2 l0 hA dA eA cA nA gA kA:=by
  refine (congrFun (hid_eq _) _).trans <| (P4 l0 hA dA eA cA nA gA kA (hid ct1) (hid (ct3 (hid ct1) KL2))).trans ?_
  show _=sh4 l0 hA dA eA cA nA gA kA (f3 k2)
  simp only [T3 KL2 k2 h2]
theorem T6 (KL2:Kont U El) (KL5:Kont U El) (k2:Y2) (k5:Y5) (h2:∀ l0 hA dA eA cA nA,KL2 (fr2 l0 hA dA eA cA nA)=k2 l0 hA dA eA cA nA) (h5:∀ l0 hA dA eA cA nA gA kA oA,KL5 (fr5 l0 hA dA eA cA nA gA kA oA)=k5 l0 hA dA eA cA nA gA kA oA) (l0 hA dA eA cA nA gA kA oA):(hid (ct6 (hid ct1) (hid (ct3 (hid ct1) KL2)) (hid (ct4 (hid ct1) (hid (ct3 (hid ct1) KL2)))) KL5)) (fr6 l0 hA dA eA cA nA gA kA oA)=f6 k2 k5 l0 hA dA eA cA nA gA kA oA:=by
  refine (congrFun (hid_eq _) _).trans <| (P6 l0 hA dA eA cA nA gA kA oA (hid ct1) (hid (ct3 (hid ct1) KL2)) (hid (ct4 (hid ct1) (hid (ct3 (hid ct1) KL2)))) KL5).trans ?_
  show _=sh6 l0 hA dA eA cA nA gA kA oA k5
  simp only [h5]
theorem T5 (KL2:Kont U El) (k2:Y2) (h2:∀ l0 hA dA eA cA nA,KL2 (fr2 l0 hA dA eA cA nA)=k2 l0 hA dA eA cA nA):∀ (n:Nat),∀ l0 hA dA eA cA nA gA kA oA,it5 (hid ct1) (hid (ct3 (hid ct1) KL2)) (hid (ct4 (hid ct1) (hid (ct3 (hid ct1) KL2)))) n (fr5 l0 hA dA eA cA nA gA kA oA)=f5 k2 n l0 hA dA eA cA nA gA kA oA:=by
  intro n
  induction n with
  | zero=>intros; rfl
  | succ n ih =>
    intro l0 hA dA eA cA nA gA kA oA
    refine (P5 l0 hA dA eA cA nA gA kA oA (hid ct1) (hid (ct3 (hid ct1) KL2)) (hid (ct4 (hid ct1) (hid (ct3 (hid ct1) KL2)))) (it5 (hid ct1) (hid (ct3 (hid ct1) KL2)) (hid (ct4 (hid ct1) (hid (ct3 (hid ct1) KL2)))) n)).trans ?_
    show _=sh5 l0 hA dA eA cA nA gA kA oA (f4 k2) (f6 k2 (f5 k2 n))
    simp only [T4 KL2 k2 h2,T6 KL2 (it5 (hid ct1) (hid (ct3 (hid ct1) KL2)) (hid (ct4 (hid ct1) (hid (ct3 (hid ct1) KL2)))) n) k2 (f5 k2 n) h2 ih]
theorem H5 (KL2:Kont U El) (k2:Y2) (h2:∀ l0 hA dA eA cA nA,KL2 (fr2 l0 hA dA eA cA nA)=k2 l0 hA dA eA cA nA) (l0 hA dA eA cA nA gA kA oA):hid (it5 (hid ct1) (hid (ct3 (hid ct1) KL2)) (hid (ct4 (hid ct1) (hid (ct3 (hid ct1) KL2)))) 100000) (fr5 l0 hA dA eA cA nA gA kA oA)=f5 k2 100000 l0 hA dA eA cA nA gA kA oA:=(congrFun (hid_eq _) _).trans (T5 KL2 k2 h2 100000 l0 hA dA eA cA nA gA kA oA)
theorem T2:∀ (n:Nat),∀ l0 hA dA eA cA nA,it2 (hid ct1) n (fr2 l0 hA dA eA cA nA)=f2 n l0 hA dA eA cA nA:=by
  intro n
  induction n with
  | zero=>intros; rfl
  | succ n ih =>
    intro l0 hA dA eA cA nA
    refine (P2 l0 hA dA eA cA nA (hid ct1) (it2 (hid ct1) n)).trans ?_
    show _=sh2 l0 hA dA eA cA nA f1 (f5 (f2 n) 100000)
    simp only [T1,H5 (it2 (hid ct1) n) (f2 n) ih]
theorem H2 (l0 hA dA eA cA nA):hid (it2 (hid ct1) 100000) (fr2 l0 hA dA eA cA nA)=f2 100000 l0 hA dA eA cA nA:=(congrFun (hid_eq _) _).trans (T2 100000 l0 hA dA eA cA nA)
theorem T0 (l n s):exec X bd (.seq none .d (.seq none .d (.seq none .d (.seq none .d (.seq none .d (.seq none .d (.seq none .d (.seq none .d (.seq (some nm1) (.seq none .d (.block (.loop nm2 (.seq none .d (.seq (some nm3) (.block (.seq none .d (.seq none .d (.seq (some nm4) (.seq none .d (.block (.loop nm5 (.seq none .d (.seq (some nm6) .d .d))))) .d)))) .d))))) .d))))))))) (fr0 l n s) RR (fun _ _=>none) RR=f0 l n s:=by
  refine (P0 l n s).trans ?_
  show _=sh0 l n s (f2 100000)
  simp only [H2]
theorem run (l n s):runFn X bd (.seq none .d (.seq none .d (.seq none .d (.seq none .d (.seq none .d (.seq none .d (.seq none .d (.seq none .d (.seq (some nm1) (.seq none .d (.block (.loop nm2 (.seq none .d (.seq (some nm3) (.block (.seq none .d (.seq none .d (.seq (some nm4) (.seq none .d (.block (.loop nm5 (.seq none .d (.seq (some nm6) .d .d))))) .d)))) .d))))) .d))))))))) nmR [6,7,8] [] [(.lst .rule l),(.agg [(.lst .node n.nds),(.lst .link n.lks)]),(.str s)]=f0 l n s:=T0 l n s
theorem inner (k2 : Y2) (l : List Rule) (n0 : Net) (hn : okN n0 = true) (s : List UInt8) (ms : List (List Int)) (c i : Int) (v : List Int) (ha : ∀ r ∈ l, hasLevR n0.nds v r = true) (hl : l.length ≤ 60) : ∀ (n k : Nat) (b : Bool), l.length < n + k → k ≤ l.length →
    f5 k2 n l s ms c (namesL n0) i v b (k:Int)=f4 k2 l s ms c (namesL n0) i v (b||List.any (l.drop k) (fitsR s n0.nds v)):=by
  intro n
  induction n with
  | zero=>intro k b h1 h2; omega
  | succ n ih =>
    intro k b h1 h2
    show sh5 l s ms c (namesL n0) i v b (k:Int) (f4 k2) (f6 k2 (f5 k2 n))=_
    unfold sh5
    by_cases hk:k < l.length
    · have hk6 : ∀ b' : Bool, f6 k2 (f5 k2 n) l s ms c (namesL n0) i v b' (k : Int) = f4 k2 l s ms c (namesL n0) i v (b' || List.any (l.drop (k + 1)) (fitsR s n0.nds v)) := fun b' => by
        show f5 k2 n l s ms c (namesL n0) i v b' (IntKind.wrap .i64 ((k:Int)+1))=_
        rw [wrapS k (by omega)]
        exact ih (k+1) b' (by omega) hk
      rw [iltT (by simp; omega),inbT hk,toNat_nat,getD_lt hk,drop_lt hk,List.any_cons,holdOk hn (ha _ (List.getElem_mem hk)),hk6,hk6,hk6]
      have hf:fitsR s n0.nds v l[k]=((l[k].rl == s)&&holdN (namesL n0) v l[k].rw):=rfl
      rw [hf]
      cases b
      · cases l[k].rl == s<;>rfl
      · rfl
    · have : k = l.length := by omega
      subst this
      rw [iltF (by simp),List.drop_length,List.any_nil,Bool.or_false]
      rfl
theorem loop (l : List Rule) (n0 : Net) (hn : okN n0 = true) (s : List UInt8) (ms : List (List Int)) (hms : okMs ms = true) (c : Nat) (hc : c ≤ 10000) (ha : ∀ k, ∀ r ∈ l, hasLevR n0.nds (corner ms k) r = true) (hl : l.length ≤ 60) : ∀ (n i : Nat), c < n + i → i ≤ c →
    f2 n l s ms (c:Int) (namesL n0) (i:Int)=resC ms (firstN (fun k => !(someB l s n0.nds (corner ms k))) (c - i) i):=by
  intro n
  induction n with
  | zero=>intro i h1 h2; omega
  | succ n ih =>
    intro i h1 h2
    show sh2 l s ms (c:Int) (namesL n0) (i:Int) f1 (f5 (f2 n) 100000)=_
    unfold sh2
    by_cases hi:i < c
    · have e := inner (f2 n) l n0 hn s ms (c : Int) (i : Int) (corner ms i) (ha i) hl 100000 0 false (by omega) (by omega)
      rw [iltT (by omega),hms,ileT (show (0:Int)≤(i:Int) by omega),ileT (show (i:Int)≤10000 by omega),toNat_nat,show ((0:Int))=((0:Nat):Int) from rfl,e,List.drop_zero,Bool.false_or]
      show sh4 l s ms (c:Int) (namesL n0) (i:Int) (corner ms i) (someB l s n0.nds (corner ms i)) (f3 (f2 n))=_
      unfold sh4
      have e2:c - i=(c - (i+1))+1:=by omega
      rw [e2]
      simp only [firstN]
      cases someB l s n0.nds (corner ms i) with
      | false=>rfl
      | true =>
        show f2 n l s ms (c:Int) (namesL n0) (IntKind.wrap .i64 ((i:Int)+1))=_
        rw [wrapS i (by omega)]
        exact ih (i+1) (by omega) hi
    · have : i = c := by omega
      subst this
      rw [iltF (by omega),Nat.sub_self]
      rfl
theorem f0_eq (l : List Rule) (n : Net) (s : List UInt8) (h : okN n = true) : f0 l n s = outC (compB l n s) (compL l n s) (compE l n s) := by
  show sh0 l n s (f2 100000)=_
  unfold sh0 compB compL compE compOk
  rw [h]
  rcases given_cases l n with ⟨e1,e2,e3⟩ | ⟨e1,e2,e3⟩
  · obtain ⟨g1, g2, g3⟩ := given0 e1
    rw [e2,e3]
    cases ilt (linkZ n s) 0 with
    | true=>rfl
    | false =>
      have hs:=rules_small g1
      have hm:=padM_ok h hs s
      rw [hs,hm,countZ_eq s]
      cases hf:fewB l n s with
      | false=>rfl
      | true =>
        have hc:=few_le hf
        have e:=loop l n h s (padM l n s) hm (countP l n s) hc (fun k=>known_at h g1 g3 (padM_len l n s k)) (rulesB_len g1).1 100000 0 (by omega) (by omega)
        rw [cond_true,iltF (show ¬ (10000:Int) < (countP l n s:Int) by omega)]
        show f2 100000 l s (padM l n s) (countP l n s:Int) (namesL n) 0=_
        refine e.trans ?_
        rw [Nat.sub_zero]
        show resC (padM l n s) (gapO l n s l s n.nds)=outC (true&&Option.isNone (gapO l n s l s n.nds)) (gapL l n s l s n.nds) 0
        unfold gapL
        cases gapO l n s l s n.nds<;>rfl
  · rw [e2,e3]; rfl
theorem ok:CtxOk Tryz.prog X:=ctxOk tab (spC rnames.spOk (spC rgiven.spOk (spC rcount.spOk (spC rmarks.spOk (spC rfindLink.spOk (spC rcorner.spOk (spC rholds.spOk spN))))))) dpN
theorem okM:MOk Tryz.prog X:=fun g sp h=>by cases h
theorem spec (l:List Rule) (n:Net) (s:List UInt8) (h:(okN n)=true):CallSpec Tryz.prog E 27 [(.lst .rule l),(.agg [(.lst .node n.nds),(.lst .link n.lks)]),(.str s)] (.tup [(.bool (compB l n s)),(.lst .int (compL l n s)),(.int .i64 (compE l n s))]) [] :=
  runFn_sound ok okM Tryz.call27 Tryz.func27 (by kernel_rfl) (by kernel_rfl) (by kernel_rfl) (by show 3≤73; decide) (by decide) (by rfl) ((run l n s).trans (f0_eq l n s h))
noncomputable def sp:Sp U El:=fun args k=>match args with
  | [.lst .rule l,.agg [.lst .node n_nds,.lst .link n_lks],.str s]=>chk (okN (⟨n_nds,n_lks⟩:Net)) (k (.tup [(.bool (compB l (⟨n_nds,n_lks⟩:Net) s)),(.lst .int (compL l (⟨n_nds,n_lks⟩:Net) s)),(.int .i64 (compE l (⟨n_nds,n_lks⟩:Net) s))]) [])
  | _=>none
theorem spOk:SpOk Tryz.prog E 27 sp where
  det:=fun vs=>by
    unfold sp
    split
    · exact det_c _ _ _
    · exact ⟨none,fun _=>rfl⟩
  ok:=fun vs k r h=>by
    unfold sp at h
    split at h
    · obtain ⟨h1, h2⟩ := chk_some h
      exact ⟨_,_,spec _ ⟨_,_⟩ _ h1,h2⟩
    · cases h
end rcomplete
namespace rcovered
noncomputable def bd:Code:=(Tryz.f28.body).getD .skip
noncomputable def X:Ctx U El:=⟨E,tds,zeros,eqs,specOf [(41,rnames.sp),(53,rgiven.sp),(68,rcount.sp),(69,rmarks.sp),(77,rcorner.sp),(78,rholds.sp)],100000,109,dspecOf [],fun _=>none⟩
noncomputable def nmR:Norm U:=⟨[],[6,7],[],[],[],[],[]⟩
noncomputable def RR:Kont U El:=fun st=>normK nmR st (retFin [6,7] [])
noncomputable def nm1:Norm U:=⟨[],[0,2,4],[4],[],[],[],[(4,0,.node),(4,1,.link)]⟩
noncomputable def nm2:Norm U:=⟨[],[],[],[],[],[],[]⟩
noncomputable def nm3:Norm U:=⟨[(9,.ints),(11,.str)],[0,2,9,10,11,12],[9,11],[],[],[],[]⟩
noncomputable def nm4:Norm U:=⟨[(9,.ints),(11,.str)],[0,2,9,10,11,12],[9,11],[],[],[],[]⟩
noncomputable def nm5:Norm U:=⟨[(9,.ints),(11,.str)],[0,2,9,10,11,12,14],[9,11],[],[],[],[]⟩
noncomputable def nm6:Norm U:=⟨[(9,.ints),(11,.str),(13,.int)],[0,2,9,10,11,12,13,14,15],[9,11,13],[],[],[],[]⟩
noncomputable def nm7:Norm U:=⟨[(9,.ints),(11,.str),(13,.int)],[0,2,9,10,11,12,13,14,15],[9,11,13],[],[],[],[]⟩
abbrev Y1:=(List Rule)→Int→(List Node)→(List Lnk)→R
abbrev Y2:=R
abbrev Y3:=(List Rule)→Int→(List (List Int))→Int→(List (List UInt8))→Int→R
abbrev Y4:=(List Rule)→Int→(List (List Int))→Int→(List (List UInt8))→Int→R
abbrev Y5:=(List Rule)→Int→(List (List Int))→Int→(List (List UInt8))→Int→Bool→R
abbrev Y6:=(List Rule)→Int→(List (List Int))→Int→(List (List UInt8))→Int→(List Int)→Bool→Int→R
abbrev Y7:=(List Rule)→Int→(List (List Int))→Int→(List (List UInt8))→Int→(List Int)→Bool→Int→R
noncomputable def fr0 (l:List Rule) (n:Net) (kk:Int):St U El:=⟨[(0,(.lst .rule l)),(1,(.agg [(.lst .node n.nds),(.lst .link n.lks)])),(2,(.int .i64 kk))],[]⟩
noncomputable def fr1 (l0:List Rule) (lA:Int) (qA:List Node) (rA:List Lnk):St U El:=⟨[(0,(.lst .rule l0)),(2,(.int .i64 lA)),(4,(.ptr 4 0))],[(4,(.box 0 [(.lst .node qA),(.lst .link rA)]))]⟩
noncomputable def fr2:St U El:=⟨[],[]⟩
noncomputable def fr3 (l0:List Rule) (lA:Int) (fA:List (List Int)) (bA:Int) (aA:List (List UInt8)) (mA:Int):St U El:=⟨[(0,(.lst .rule l0)),(2,(.int .i64 lA)),(9,(.ful 9)),(10,(.int .i64 bA)),(11,(.ful 11)),(12,(.int .i64 mA))],[(9,(.rows .ints fA)),(11,(.rows .str aA))]⟩
noncomputable def fr4 (l0:List Rule) (lA:Int) (fA:List (List Int)) (bA:Int) (aA:List (List UInt8)) (mA:Int):St U El:=⟨[(0,(.lst .rule l0)),(2,(.int .i64 lA)),(9,(.ful 9)),(10,(.int .i64 bA)),(11,(.ful 11)),(12,(.int .i64 mA))],[(9,(.rows .ints fA)),(11,(.rows .str aA))]⟩
noncomputable def fr5 (l0:List Rule) (lA:Int) (fA:List (List Int)) (bA:Int) (aA:List (List UInt8)) (mA:Int) (iA:Bool):St U El:=⟨[(0,(.lst .rule l0)),(2,(.int .i64 lA)),(9,(.ful 9)),(10,(.int .i64 bA)),(11,(.ful 11)),(12,(.int .i64 mA)),(14,(.bool iA))],[(9,(.rows .ints fA)),(11,(.rows .str aA))]⟩
noncomputable def fr6 (l0:List Rule) (lA:Int) (fA:List (List Int)) (bA:Int) (aA:List (List UInt8)) (mA:Int) (jA:List Int) (iA:Bool) (pA:Int):St U El:=⟨[(0,(.lst .rule l0)),(2,(.int .i64 lA)),(9,(.ful 9)),(10,(.int .i64 bA)),(11,(.ful 11)),(12,(.int .i64 mA)),(13,(.ful 13)),(14,(.bool iA)),(15,(.int .i64 pA))],[(9,(.rows .ints fA)),(11,(.rows .str aA)),(13,(.rows .int jA))]⟩
noncomputable def fr7 (l0:List Rule) (lA:Int) (fA:List (List Int)) (bA:Int) (aA:List (List UInt8)) (mA:Int) (jA:List Int) (iA:Bool) (pA:Int):St U El:=⟨[(0,(.lst .rule l0)),(2,(.int .i64 lA)),(9,(.ful 9)),(10,(.int .i64 bA)),(11,(.ful 11)),(12,(.int .i64 mA)),(13,(.ful 13)),(14,(.bool iA)),(15,(.int .i64 pA))],[(9,(.rows .ints fA)),(11,(.rows .str aA)),(13,(.rows .int jA))]⟩
noncomputable def sh0 (l:List Rule) (n:Net) (kk:Int) (k1:Y1):R :=
  chk (okN n) (condB ((givenZ l n) != (0:Int)) (some ((.tup [(.bool false),(.int .i64 (givenZ l n))]),[])) (condB (ilt kk (0:Int)) (some ((.tup [(.bool false),(.int .i64 (2:Int))]),[])) (condB (ile (Int.ofNat (List.length l)) kk) (some ((.tup [(.bool false),(.int .i64 (2:Int))]),[])) (k1 l kk n.nds n.lks))))
noncomputable def sh1 (l0:List Rule) (lA:Int) (qA:List Node) (rA:List Lnk) (k3:Y3):R :=
  chk (inb lA (List.length l0)) (chk ((okN (⟨qA,rA⟩:Net)&&smallR l0)) (chk (okMs (padM l0 (⟨qA,rA⟩:Net) ((List.getD l0 (Int.toNat lA) d_rule).rl))) (condB (ilt (10000:Int) (countZ (padM l0 (⟨qA,rA⟩:Net) ((List.getD l0 (Int.toNat lA) d_rule).rl)))) (some ((.tup [(.bool false),(.int .i64 (6:Int))]),[])) (chk (okN (⟨qA,rA⟩:Net)) (k3 l0 lA (padM l0 (⟨qA,rA⟩:Net) ((List.getD l0 (Int.toNat lA) d_rule).rl)) (countZ (padM l0 (⟨qA,rA⟩:Net) ((List.getD l0 (Int.toNat lA) d_rule).rl))) (namesL (⟨qA,rA⟩:Net)) (0:Int))))))
noncomputable def sh2:R :=
  some ((.tup [(.bool true),(.int .i64 (0:Int))]),[])
noncomputable def sh3 (l0:List Rule) (lA:Int) (fA:List (List Int)) (bA:Int) (aA:List (List UInt8)) (mA:Int) (k2:Y2) (k4:Y4) (k6:Y6):R :=
  condB (ilt mA bA) (chk ((okMs fA&&(ile 0 mA&&ile mA 10000))) (chk (inb lA (List.length l0)) (chk ((nle (List.length aA) 90000&&(nle (List.length (Rule.rw (List.getD l0 (Int.toNat lA) d_rule))) 90000&&List.all (Rule.rw (List.getD l0 (Int.toNat lA) d_rule)) (hasLevN aA (corner fA (Int.toNat mA)))))) (condB (!(holdN aA (corner fA (Int.toNat mA)) (Rule.rw (List.getD l0 (Int.toNat lA) d_rule)))) (k4 l0 lA fA bA aA mA) (k6 l0 lA fA bA aA mA (corner fA (Int.toNat mA)) false (0:Int)))))) (k2)
noncomputable def sh4 (l0:List Rule) (lA:Int) (fA:List (List Int)) (bA:Int) (aA:List (List UInt8)) (mA:Int) (k3:Y3):R :=
  k3 l0 lA fA bA aA (IntKind.wrap .i64 (mA+(1:Int)))
noncomputable def sh5 (l0:List Rule) (lA:Int) (fA:List (List Int)) (bA:Int) (aA:List (List UInt8)) (mA:Int) (iA:Bool) (k4:Y4):R :=
  condB (!iA) (some ((.tup [(.bool false),(.int .i64 (0:Int))]),[])) (k4 l0 lA fA bA aA mA)
noncomputable def sh6 (l0:List Rule) (lA:Int) (fA:List (List Int)) (bA:Int) (aA:List (List UInt8)) (mA:Int) (jA:List Int) (iA:Bool) (pA:Int) (k5:Y5) (k7:Y7):R :=
  condB (ilt pA (Int.ofNat (List.length l0))) (condB iA (k7 l0 lA fA bA aA mA jA true pA) (condB (pA != lA) (chk (inb pA (List.length l0)) (chk (inb lA (List.length l0)) (condB (((List.getD l0 (Int.toNat pA) d_rule).rl) == ((List.getD l0 (Int.toNat lA) d_rule).rl)) (chk (inb pA (List.length l0)) (chk (inb lA (List.length l0)) (condB ((List.getD l0 (Int.toNat pA) d_rule).rs == (List.getD l0 (Int.toNat lA) d_rule).rs) (chk (inb pA (List.length l0)) (chk ((nle (List.length aA) 90000&&(nle (List.length (Rule.rw (List.getD l0 (Int.toNat pA) d_rule))) 90000&&List.all (Rule.rw (List.getD l0 (Int.toNat pA) d_rule)) (hasLevN aA jA)))) (k7 l0 lA fA bA aA mA jA (holdN aA jA (Rule.rw (List.getD l0 (Int.toNat pA) d_rule))) pA))) (k7 l0 lA fA bA aA mA jA false pA)))) (k7 l0 lA fA bA aA mA jA false pA)))) (k7 l0 lA fA bA aA mA jA false pA))) (k5 l0 lA fA bA aA mA iA)
noncomputable def sh7 (l0:List Rule) (lA:Int) (fA:List (List Int)) (bA:Int) (aA:List (List UInt8)) (mA:Int) (jA:List Int) (iA:Bool) (pA:Int) (k6:Y6):R :=
  k6 l0 lA fA bA aA mA jA iA (IntKind.wrap .i64 (pA+(1:Int)))
noncomputable def it3 (Kb2:Kont U El) (n:Nat):Kont U El:=iter nm3 (fun st' K'=>exec X (cdp [1,1,1,1,1,1,1,1,0,1,0,0] bd) (.seq none .d (.seq (some nm4) (.block (.seq none .d (.seq none .d (.seq none .d (.seq (some nm5) (.seq none .d (.block (.loop nm6 (.seq none .d (.seq (some nm7) .d .d))))) .d))))) .d)) st' K' (Eblk 0 (cutK nm2 Kb2) (fun _ _=>none)) RR) n
noncomputable def it6 (Kb2:Kont U El) (Kb4:Kont U El) (Kb5:Kont U El) (n:Nat):Kont U El:=iter nm6 (fun st' K'=>exec X (cdp [1,1,1,1,1,1,1,1,0,1,0,0,1,0,0,1,1,1,0,1,0,0] bd) (.seq none .d (.seq (some nm7) .d .d)) st' K' (Eblk 2 (cutK nm5 Kb5) (Eblk 1 (cutK nm4 Kb4) (Eblk 0 (cutK nm2 Kb2) (fun _ _=>none)))) RR) n
noncomputable def ct1:Kont U El:=fun st=>exec X (cdp [1,1,1,1] bd) (.seq none .d (.seq none .d (.seq none .d (.seq none .d (.seq (some nm2) (.seq none .d (.block (.loop nm3 (.seq none .d (.seq (some nm4) (.block (.seq none .d (.seq none .d (.seq none .d (.seq (some nm5) (.seq none .d (.block (.loop nm6 (.seq none .d (.seq (some nm7) .d .d))))) .d))))) .d))))) .d))))) st RR (fun _ _=>none) RR
noncomputable def ct2:Kont U El:=fun st=>exec X (cdp [1,1,1,1,1,1,1,1,1] bd) .d st RR (fun _ _=>none) RR
noncomputable def ct4 (Kb2:Kont U El) (Kb3:Kont U El):Kont U El:=fun st=>exec X (cdp [1,1,1,1,1,1,1,1,0,1,0,0,1,1] bd) .d st (cutK nm3 Kb3) (Eblk 0 (cutK nm2 Kb2) (fun _ _=>none)) RR
noncomputable def ct5 (Kb2:Kont U El) (Kb4:Kont U El):Kont U El:=fun st=>exec X (cdp [1,1,1,1,1,1,1,1,0,1,0,0,1,0,0,1,1,1,1] bd) .d st (cutK nm4 Kb4) (Eblk 1 (cutK nm4 Kb4) (Eblk 0 (cutK nm2 Kb2) (fun _ _=>none))) RR
noncomputable def ct7 (Kb2:Kont U El) (Kb4:Kont U El) (Kb5:Kont U El) (Kb6:Kont U El):Kont U El:=fun st=>exec X (cdp [1,1,1,1,1,1,1,1,0,1,0,0,1,0,0,1,1,1,0,1,0,0,1,1] bd) .d st (cutK nm6 Kb6) (Eblk 2 (cutK nm5 Kb5) (Eblk 1 (cutK nm4 Kb4) (Eblk 0 (cutK nm2 Kb2) (fun _ _=>none)))) RR
theorem P0 (l n kk):exec X (cdp [] bd) (.seq none .d (.seq none .d (.seq none .d (.seq (some nm1) .d (.seq none .d (.seq none .d (.seq none .d (.seq none .d (.seq (some nm2) (.seq none .d (.block (.loop nm3 (.seq none .d (.seq (some nm4) (.block (.seq none .d (.seq none .d (.seq none .d (.seq (some nm5) (.seq none .d (.block (.loop nm6 (.seq none .d (.seq (some nm7) .d .d))))) .d))))) .d))))) .d))))))))) (fr0 l n kk) RR (fun _ _=>none) RR=sh0 l n kk (fun y0 y1 y2 y3=>(hid ct1) (fr1 y0 y1 y2 y3)):=by kernel_rfl
theorem P1 (l0 lA qA rA):exec X (cdp [1,1,1,1] bd) (.seq none .d (.seq none .d (.seq none .d (.seq none .d (.seq (some nm2) (.seq none .d (.block (.loop nm3 (.seq none .d (.seq (some nm4) (.block (.seq none .d (.seq none .d (.seq none .d (.seq (some nm5) (.seq none .d (.block (.loop nm6 (.seq none .d (.seq (some nm7) .d .d))))) .d))))) .d))))) .d))))) (fr1 l0 lA qA rA) RR (fun _ _=>none) RR=sh1 l0 lA qA rA (fun y0 y1 y2 y3 y4 y5=>(hid (it3 (hid ct2) 100000)) (fr3 y0 y1 y2 y3 y4 y5)):=by kernel_rfl
theorem P2:exec X (cdp [1,1,1,1,1,1,1,1,1] bd) .d (fr2) RR (fun _ _=>none) RR=sh2:=by kernel_rfl
theorem P3 (l0 lA fA bA aA mA) (Kb2:Kont U El) (Kb3:Kont U El):exec X (cdp [1,1,1,1,1,1,1,1,0,1,0,0] bd) (.seq none .d (.seq (some nm4) (.block (.seq none .d (.seq none .d (.seq none .d (.seq (some nm5) (.seq none .d (.block (.loop nm6 (.seq none .d (.seq (some nm7) .d .d))))) .d))))) .d)) (fr3 l0 lA fA bA aA mA) (cutK nm3 Kb3) (Eblk 0 (cutK nm2 Kb2) (fun _ _=>none)) RR=sh3 l0 lA fA bA aA mA (Kb2 (fr2)) (fun y0 y1 y2 y3 y4 y5=>(hid (ct4 Kb2 Kb3)) (fr4 y0 y1 y2 y3 y4 y5)) (fun y0 y1 y2 y3 y4 y5 y6 y7 y8=>(hid (it6 Kb2 (hid (ct4 Kb2 Kb3)) (hid (ct5 Kb2 (hid (ct4 Kb2 Kb3)))) 100000)) (fr6 y0 y1 y2 y3 y4 y5 y6 y7 y8)):=by kernel_rfl
theorem P4 (l0 lA fA bA aA mA) (Kb2:Kont U El) (Kb3:Kont U El):exec X (cdp [1,1,1,1,1,1,1,1,0,1,0,0,1,1] bd) .d (fr4 l0 lA fA bA aA mA) (cutK nm3 Kb3) (Eblk 0 (cutK nm2 Kb2) (fun _ _=>none)) RR=sh4 l0 lA fA bA aA mA (fun y0 y1 y2 y3 y4 y5=>Kb3 (fr3 y0 y1 y2 y3 y4 y5)):=by kernel_rfl
theorem P5 (l0 lA fA bA aA mA iA) (Kb2:Kont U El) (Kb4:Kont U El):exec X (cdp [1,1,1,1,1,1,1,1,0,1,0,0,1,0,0,1,1,1,1] bd) .d (fr5 l0 lA fA bA aA mA iA) (cutK nm4 Kb4) (Eblk 1 (cutK nm4 Kb4) (Eblk 0 (cutK nm2 Kb2) (fun _ _=>none))) RR=sh5 l0 lA fA bA aA mA iA (fun y0 y1 y2 y3 y4 y5=>Kb4 (fr4 y0 y1 y2 y3 y4 y5)):=by kernel_rfl
theorem P6 (l0 lA fA bA aA mA jA iA pA) (Kb2:Kont U El) (Kb4:Kont U El) (Kb5:Kont U El) (Kb6:Kont U El):exec X (cdp [1,1,1,1,1,1,1,1,0,1,0,0,1,0,0,1,1,1,0,1,0,0] bd) (.seq none .d (.seq (some nm7) .d .d)) (fr6 l0 lA fA bA aA mA jA iA pA) (cutK nm6 Kb6) (Eblk 2 (cutK nm5 Kb5) (Eblk 1 (cutK nm4 Kb4) (Eblk 0 (cutK nm2 Kb2) (fun _ _=>none)))) RR=sh6 l0 lA fA bA aA mA jA iA pA (fun y0 y1 y2 y3 y4 y5 y6=>Kb5 (fr5 y0 y1 y2 y3 y4 y5 y6)) (fun y0 y1 y2 y3 y4 y5 y6 y7 y8=>(hid (ct7 Kb2 Kb4 Kb5 Kb6)) (fr7 y0 y1 y2 y3 y4 y5 y6 y7 y8)):=by kernel_rfl
theorem P7 (l0 lA fA bA aA mA jA iA pA) (Kb2:Kont U El) (Kb4:Kont U El) (Kb5:Kont U El) (Kb6:Kont U El):exec X (cdp [1,1,1,1,1,1,1,1,0,1,0,0,1,0,0,1,1,1,0,1,0,0,1,1] bd) .d (fr7 l0 lA fA bA aA mA jA iA pA) (cutK nm6 Kb6) (Eblk 2 (cutK nm5 Kb5) (Eblk 1 (cutK nm4 Kb4) (Eblk 0 (cutK nm2 Kb2) (fun _ _=>none)))) RR=sh7 l0 lA fA bA aA mA jA iA pA (fun y0 y1 y2 y3 y4 y5 y6 y7 y8=>Kb6 (fr6 y0 y1 y2 y3 y4 y5 y6 y7 y8)):=by kernel_rfl
noncomputable def f2:R:=sh2
noncomputable def f4 (k3:Y3) (l0:List Rule) (lA:Int) (fA:List (List Int)) (bA:Int) (aA:List (List UInt8)) (mA:Int):R:=sh4 l0 lA fA bA aA mA k3
noncomputable def f5 (k3:Y3) (l0:List Rule) (lA:Int) (fA:List (List Int)) (bA:Int) (aA:List (List UInt8)) (mA:Int) (iA:Bool):R:=sh5 l0 lA fA bA aA mA iA (f4 k3)
noncomputable def f7 (k3:Y3) (k6:Y6) (l0:List Rule) (lA:Int) (fA:List (List Int)) (bA:Int) (aA:List (List UInt8)) (mA:Int) (jA:List Int) (iA:Bool) (pA:Int):R:=sh7 l0 lA fA bA aA mA jA iA pA k6
noncomputable def f6 (k3:Y3):Nat→Y6
  | 0=>fun _ _ _ _ _ _ _ _ _=>none
  | n+1=>fun l0 lA fA bA aA mA jA iA pA=>sh6 l0 lA fA bA aA mA jA iA pA (f5 k3) (f7 k3 (f6 k3 n))
noncomputable def f3:Nat→Y3
  | 0=>fun _ _ _ _ _ _=>none
  | n+1=>fun l0 lA fA bA aA mA=>sh3 l0 lA fA bA aA mA f2 (f4 (f3 n)) (f6 (f3 n) 100000)
noncomputable def f1 (l0:List Rule) (lA:Int) (qA:List Node) (rA:List Lnk):R:=sh1 l0 lA qA rA (f3 100000)
noncomputable def f0 (l:List Rule) (n:Net) (kk:Int):R:=sh0 l n kk f1
theorem T2:(hid ct2) (fr2)=f2:=by
  refine (congrFun (hid_eq _) _).trans <| (P2).trans ?_
  show _=sh2
  rfl
theorem T4 (KL3:Kont U El) (k3:Y3) (h3:∀ l0 lA fA bA aA mA,KL3 (fr3 l0 lA fA bA aA mA)=k3 l0 lA fA bA aA mA) (l0 lA fA bA aA mA):(hid (ct4 (hid ct2) KL3)) (fr4 l0 lA fA bA aA mA)=f4 k3 l0 lA fA bA aA mA:=by
  refine (congrFun (hid_eq _) _).trans <| (P4 l0 lA fA bA aA mA (hid ct2) KL3).trans ?_
  show _=sh4 l0 lA fA bA aA mA k3
  simp only [h3]
theorem T5 (KL3:Kont U El) (k3:Y3) (h3:∀ l0 lA fA bA aA mA,KL3 (fr3 l0 lA fA bA aA mA)=k3 l0 lA fA bA aA mA) (l0 lA fA bA aA mA iA):(hid (ct5 (hid ct2) (hid (ct4 (hid ct2) KL3)))) (fr5 l0 lA fA bA aA mA iA)=f5 k3 l0 lA fA bA aA mA iA:=by
  refine (congrFun (hid_eq _) _).trans <| (P5 l0 lA fA bA aA mA iA (hid ct2) (hid (ct4 (hid ct2) KL3))).trans ?_
  show _=sh5 l0 lA fA bA aA mA iA (f4 k3)
  simp only [T4 KL3 k3 h3]
theorem T7 (KL3:Kont U El) (KL6:Kont U El) (k3:Y3) (k6:Y6) (h3:∀ l0 lA fA bA aA mA,KL3 (fr3 l0 lA fA bA aA mA)=k3 l0 lA fA bA aA mA) (h6:∀ l0 lA fA bA aA mA jA iA pA,KL6 (fr6 l0 lA fA bA aA mA jA iA pA)=k6 l0 lA fA bA aA mA jA iA pA) (l0 lA fA bA aA mA jA iA pA):(hid (ct7 (hid ct2) (hid (ct4 (hid ct2) KL3)) (hid (ct5 (hid ct2) (hid (ct4 (hid ct2) KL3)))) KL6)) (fr7 l0 lA fA bA aA mA jA iA pA)=f7 k3 k6 l0 lA fA bA aA mA jA iA pA:=by
  refine (congrFun (hid_eq _) _).trans <| (P7 l0 lA fA bA aA mA jA iA pA (hid ct2) (hid (ct4 (hid ct2) KL3)) (hid (ct5 (hid ct2) (hid (ct4 (hid ct2) KL3)))) KL6).trans ?_
  show _=sh7 l0 lA fA bA aA mA jA iA pA k6
  simp only [h6]
theorem T6 (KL3:Kont U El) (k3:Y3) (h3:∀ l0 lA fA bA aA mA,KL3 (fr3 l0 lA fA bA aA mA)=k3 l0 lA fA bA aA mA):∀ (n:Nat),∀ l0 lA fA bA aA mA jA iA pA,it6 (hid ct2) (hid (ct4 (hid ct2) KL3)) (hid (ct5 (hid ct2) (hid (ct4 (hid ct2) KL3)))) n (fr6 l0 lA fA bA aA mA jA iA pA)=f6 k3 n l0 lA fA bA aA mA jA iA pA:=by
  intro n
  induction n with
  | zero=>intros; rfl
  | succ n ih =>
    intro l0 lA fA bA aA mA jA iA pA
    refine (P6 l0 lA fA bA aA mA jA iA pA (hid ct2) (hid (ct4 (hid ct2) KL3)) (hid (ct5 (hid ct2) (hid (ct4 (hid ct2) KL3)))) (it6 (hid ct2) (hid (ct4 (hid ct2) KL3)) (hid (ct5 (hid ct2) (hid (ct4 (hid ct2) KL3)))) n)).trans ?_
    show _=sh6 l0 lA fA bA aA mA jA iA pA (f5 k3) (f7 k3 (f6 k3 n))
    simp only [T5 KL3 k3 h3,T7 KL3 (it6 (hid ct2) (hid (ct4 (hid ct2) KL3)) (hid (ct5 (hid ct2) (hid (ct4 (hid ct2) KL3)))) n) k3 (f6 k3 n) h3 ih]
theorem H6 (KL3:Kont U El) (k3:Y3) (h3:∀ l0 lA fA bA aA mA,KL3 (fr3 l0 lA fA bA aA mA)=k3 l0 lA fA bA aA mA) (l0 lA fA bA aA mA jA iA pA):hid (it6 (hid ct2) (hid (ct4 (hid ct2) KL3)) (hid (ct5 (hid ct2) (hid (ct4 (hid ct2) KL3)))) 100000) (fr6 l0 lA fA bA aA mA jA iA pA)=f6 k3 100000 l0 lA fA bA aA mA jA iA pA:=(congrFun (hid_eq _) _).trans (T6 KL3 k3 h3 100000 l0 lA fA bA aA mA jA iA pA)
theorem T3:∀ (n:Nat),∀ l0 lA fA bA aA mA,it3 (hid ct2) n (fr3 l0 lA fA bA aA mA)=f3 n l0 lA fA bA aA mA:=by
  intro n
  induction n with
  | zero=>intros; rfl
  | succ n ih =>
    intro l0 lA fA bA aA mA
    refine (P3 l0 lA fA bA aA mA (hid ct2) (it3 (hid ct2) n)).trans ?_
    show _=sh3 l0 lA fA bA aA mA f2 (f4 (f3 n)) (f6 (f3 n) 100000)
    simp only [T2,T4 (it3 (hid ct2) n) (f3 n) ih,H6 (it3 (hid ct2) n) (f3 n) ih]
theorem H3 (l0 lA fA bA aA mA):hid (it3 (hid ct2) 100000) (fr3 l0 lA fA bA aA mA)=f3 100000 l0 lA fA bA aA mA:=(congrFun (hid_eq _) _).trans (T3 100000 l0 lA fA bA aA mA)
theorem T1 (l0 lA qA rA):(hid ct1) (fr1 l0 lA qA rA)=f1 l0 lA qA rA:=by
  refine (congrFun (hid_eq _) _).trans <| (P1 l0 lA qA rA).trans ?_
  show _=sh1 l0 lA qA rA (f3 100000)
  simp only [H3]
theorem T0 (l n kk):exec X bd (.seq none .d (.seq none .d (.seq none .d (.seq (some nm1) .d (.seq none .d (.seq none .d (.seq none .d (.seq none .d (.seq (some nm2) (.seq none .d (.block (.loop nm3 (.seq none .d (.seq (some nm4) (.block (.seq none .d (.seq none .d (.seq none .d (.seq (some nm5) (.seq none .d (.block (.loop nm6 (.seq none .d (.seq (some nm7) .d .d))))) .d))))) .d))))) .d))))))))) (fr0 l n kk) RR (fun _ _=>none) RR=f0 l n kk:=by
  refine (P0 l n kk).trans ?_
  show _=sh0 l n kk f1
  simp only [T1]
theorem run (l n kk):runFn X bd (.seq none .d (.seq none .d (.seq none .d (.seq (some nm1) .d (.seq none .d (.seq none .d (.seq none .d (.seq none .d (.seq (some nm2) (.seq none .d (.block (.loop nm3 (.seq none .d (.seq (some nm4) (.block (.seq none .d (.seq none .d (.seq none .d (.seq (some nm5) (.seq none .d (.block (.loop nm6 (.seq none .d (.seq (some nm7) .d .d))))) .d))))) .d))))) .d))))))))) nmR [6,7] [] [(.lst .rule l),(.agg [(.lst .node n.nds),(.lst .link n.lks)]),(.int .i64 kk)]=f0 l n kk:=T0 l n kk
theorem inner (k3 : Y3) (l : List Rule) (kk : Nat) (hkk : kk < l.length) (n0 : Net) (hn : okN n0 = true) (ms : List (List Int)) (c i : Int) (v : List Int) (ha : ∀ r ∈ l, hasLevR n0.nds v r = true) (hl : l.length ≤ 60) : ∀ (n j : Nat) (b : Bool), l.length < n + j → j ≤ l.length →
    f6 k3 n l (kk:Int) ms c (namesL n0) i v b (j:Int)=f5 k3 l (kk:Int) ms c (namesL n0) i (b||anyI (othR l (kk:Int) n0.nds v) j (l.drop j)):=by
  intro n
  induction n with
  | zero=>intro j b h1 h2; omega
  | succ n ih =>
    intro j b h1 h2
    show sh6 l (kk:Int) ms c (namesL n0) i v b (j:Int) (f5 k3) (f7 k3 (f6 k3 n))=_
    unfold sh6
    by_cases hj:j < l.length
    · have hk7 : ∀ b' : Bool, f7 k3 (f6 k3 n) l (kk : Int) ms c (namesL n0) i v b' (j : Int) = f5 k3 l (kk : Int) ms c (namesL n0) i (b' || anyI (othR l (kk : Int) n0.nds v) (j + 1) (l.drop (j + 1))) := fun b' => by
        show f6 k3 n l (kk:Int) ms c (namesL n0) i v b' (IntKind.wrap .i64 ((j:Int)+1))=_
        rw [wrapS j (by omega)]
        exact ih (j+1) b' (by omega) hj
      rw [iltT (by simp; omega),inbT hj,inbT hkk,toNat_nat j,toNat_nat kk,getD_lt hj,getD_lt hkk,drop_lt hj,holdOk hn (ha _ (List.getElem_mem hj)),hk7,hk7,hk7]
      have hf:othR l (kk:Int) n0.nds v j l[j]=(((j:Int) != (kk:Int))&&((l[j].rl == l[kk].rl)&&((l[j].rs == l[kk].rs)&&holdN (namesL n0) v l[j].rw))):=by
        unfold othR
        rw [toNat_nat,getD_lt hkk]
        rfl
      have hf2:anyI (othR l (kk:Int) n0.nds v) j (l[j] :: l.drop (j+1))=(othR l (kk:Int) n0.nds v j l[j]||anyI (othR l (kk:Int) n0.nds v) (j+1) (l.drop (j+1))):=rfl
      rw [hf2,hf]
      cases b
      · cases (j : Int) != (kk : Int)
        · rfl
        · cases l[j].rl == l[kk].rl
          · rfl
          · cases l[j].rs == l[kk].rs<;>rfl
      · rfl
    · have : j = l.length := by omega
      subst this
      rw [iltF (by simp),List.drop_length,show anyI (othR l (kk:Int) n0.nds v) l.length []=false from rfl,Bool.or_false]
      rfl
theorem loop (l : List Rule) (kk : Nat) (hkk : kk < l.length) (n0 : Net) (hn : okN n0 = true) (ms : List (List Int)) (hms : okMs ms = true) (c : Nat) (hc : c ≤ 10000) (ha : ∀ k, ∀ r ∈ l, hasLevR n0.nds (corner ms k) r = true) (hl : l.length ≤ 60) : ∀ (n i : Nat), c < n + i → i ≤ c →
    f3 n l (kk:Int) ms (c:Int) (namesL n0) (i:Int)=resV (firstN (fun k => !(bif holdK l (kk:Int) n0.nds (corner ms k) then othB l (kk:Int) n0.nds (corner ms k) else true)) (c - i) i):=by
  intro n
  induction n with
  | zero=>intro i h1 h2; omega
  | succ n ih =>
    intro i h1 h2
    show sh3 l (kk:Int) ms (c:Int) (namesL n0) (i:Int) f2 (f4 (f3 n)) (f6 (f3 n) 100000)=_
    unfold sh3
    by_cases hi:i < c
    · have e := inner (f3 n) l kk hkk n0 hn ms (c : Int) (i : Int) (corner ms i) (ha i) hl 100000 0 false (by omega) (by omega)
      have hg:f4 (f3 n) l (kk:Int) ms (c:Int) (namesL n0) (i:Int)=resV (firstN (fun k => !(bif holdK l (kk:Int) n0.nds (corner ms k) then othB l (kk:Int) n0.nds (corner ms k) else true)) (c - (i+1)) (i+1)):=by
        show f3 n l (kk:Int) ms (c:Int) (namesL n0) (IntKind.wrap .i64 ((i:Int)+1))=_
        rw [wrapS i (by omega)]
        exact ih (i+1) (by omega) hi
      have e2:c - i=(c - (i+1))+1:=by omega
      have e3:holdK l (kk:Int) n0.nds (corner ms i)=holdN (namesL n0) (corner ms i) l[kk].rw:=by
        unfold holdK
        rw [toNat_nat,getD_lt hkk]
        rfl
      rw [iltT (by omega),hms,ileT (show (0:Int)≤(i:Int) by omega),ileT (show (i:Int)≤10000 by omega),toNat_nat i,toNat_nat kk,inbT hkk,getD_lt hkk,holdOk hn (ha i _ (List.getElem_mem hkk)),show ((0:Int))=((0:Nat):Int) from rfl,e,List.drop_zero,Bool.false_or,e2]
      simp only [firstN]
      rw [e3]
      cases holdN (namesL n0) (corner ms i) l[kk].rw with
      | false=>exact hg
      | true =>
        refine Eq.trans (b:=condB (!(othB l (kk:Int) n0.nds (corner ms i))) (resV (some i)) (f4 (f3 n) l (kk:Int) ms (c:Int) (namesL n0) (i:Int))) rfl ?_
        rw [hg,cond_true]
        cases othB l (kk:Int) n0.nds (corner ms i)<;>rfl
    · have : i = c := by omega
      subst this
      rw [iltF (by omega),Nat.sub_self]
      rfl
theorem f0_eq (l : List Rule) (n : Net) (kk : Int) (h : okN n = true) : f0 l n kk = outV (covB l n kk) (covE l n kk) := by
  show sh0 l n kk f1=_
  unfold sh0 covB covE covOk
  rw [h]
  rcases given_cases l n with ⟨e1,e2,e3⟩ | ⟨e1,e2,e3⟩
  · obtain ⟨g1, g2, g3⟩ := given0 e1
    rw [e2,e3]
    simp only [chkT,condF,rng_cond,Bool.true_and,cond_false]
    cases hk:rngB l kk with
    | false=>rfl
    | true =>
      show sh1 l kk n.nds n.lks (f3 100000)=_
      unfold sh1
      have h1':okN (⟨n.nds,n.lks⟩:Net)=true:=h
      have hs:=rules_small g1
      have hm:okMs (padM l (⟨n.nds,n.lks⟩:Net) (List.getD l (Int.toNat kk) d_rule).rl)=true:=padM_ok h hs _
      rw [(rng_inb hk).1,h1',hs,hm,countZ_eq (l:=l) (n:=⟨n.nds,n.lks⟩)]
      show condB (ilt 10000 (bif fewB l n (kRule l kk).rl then (countP l n (kRule l kk).rl:Int) else 10001)) _ _=_
      cases hf:fewB l n (kRule l kk).rl with
      | false=>rfl
      | true =>
        have hf':fewB l (⟨n.nds,n.lks⟩:Net) (List.getD l (Int.toNat kk) d_rule).rl=true:=hf
        have hc:=few_le hf
        have hr:0≤kk∧kk < Int.ofNat l.length:=by
          simp only [rngB,Bool.and_eq_true] at hk
          exact ⟨ileI hk.1,iltI hk.2⟩
        obtain ⟨k,rfl⟩:=Int.eq_ofNat_of_zero_le hr.1
        have hkl:k < l.length:=by have:=hr.2; simp at this; omega
        have e:=loop l k hkl n h (padM l n (kRule l (k:Int)).rl) (padM_ok h hs _) (countP l n (kRule l (k:Int)).rl) hc (fun j=>known_at h g1 g3 (padM_len l n _ j)) (rulesB_len g1).1 100000 0 (by omega) (by omega)
        rw [hf',cond_true,iltF (show ¬ (10000:Int) < (countP l n (kRule l (k:Int)).rl:Int) by omega)]
        show f3 100000 l (k:Int) (padM l n (kRule l (k:Int)).rl) (countP l n (kRule l (k:Int)).rl:Int) (namesL n) 0=_
        refine e.trans ?_
        rw [Nat.sub_zero]
        show resV (uncO l n (kRule l (k:Int)).rl l (k:Int) n.nds)=outV (true&&Option.isNone (uncO l n (kRule l (k:Int)).rl l (k:Int) n.nds)) 0
        cases uncO l n (kRule l (k:Int)).rl l (k:Int) n.nds<;>rfl
  · rw [e2,e3]; rfl
theorem ok:CtxOk Tryz.prog X:=ctxOk tab (spC rnames.spOk (spC rgiven.spOk (spC rcount.spOk (spC rmarks.spOk (spC rcorner.spOk (spC rholds.spOk spN)))))) dpN
theorem okM:MOk Tryz.prog X:=fun g sp h=>by cases h
theorem spec (l:List Rule) (n:Net) (kk:Int) (h:(okN n)=true):CallSpec Tryz.prog E 28 [(.lst .rule l),(.agg [(.lst .node n.nds),(.lst .link n.lks)]),(.int .i64 kk)] (.tup [(.bool (covB l n kk)),(.int .i64 (covE l n kk))]) [] :=
  runFn_sound ok okM Tryz.call28 Tryz.func28 (by kernel_rfl) (by kernel_rfl) (by kernel_rfl) (by show 3≤109; decide) (by decide) (by rfl) ((run l n kk).trans (f0_eq l n kk h))
noncomputable def sp:Sp U El:=fun args k=>match args with
  | [.lst .rule l,.agg [.lst .node n_nds,.lst .link n_lks],.int .i64 kk]=>chk (okN (⟨n_nds,n_lks⟩:Net)) (k (.tup [(.bool (covB l (⟨n_nds,n_lks⟩:Net) kk)),(.int .i64 (covE l (⟨n_nds,n_lks⟩:Net) kk))]) [])
  | _=>none
theorem spOk:SpOk Tryz.prog E 28 sp where
  det:=fun vs=>by
    unfold sp
    split
    · exact det_c _ _ _
    · exact ⟨none,fun _=>rfl⟩
  ok:=fun vs k r h=>by
    unfold sp at h
    split at h
    · obtain ⟨h1, h2⟩ := chk_some h
      exact ⟨_,_,spec _ ⟨_,_⟩ _ h1,h2⟩
    · cases h
end rcovered
theorem large_ok {l:List Rule} {n:Net} (h:largeB l n=false):okN n=true:=by
  simp only [largeB,Bool.or_eq_false_iff] at h
  obtain ⟨h1,h2,_,_,_,h3,_⟩:=h
  have a:=iltN h1; have b:=iltN h2
  simp only [okN,Bool.and_eq_true]
  refine ⟨nleT (by simp at a; omega),nleT (by simp at b; omega),List.all_eq_true.2 fun x hx => ?_⟩
  have:=List.any_eq_false.1 h3 x hx
  simp only [bigLink,Bool.or_eq_true,not_or] at this
  have:=this.1
  exact nleT (by simp [ilt] at this; omega)
end Go.Proofs.YthdimnlkcgchoaaGreat
