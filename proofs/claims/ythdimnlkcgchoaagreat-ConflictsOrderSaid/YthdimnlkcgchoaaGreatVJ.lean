import Derived.Test.YthdimnlkcgchoaaGreatVI
namespace Go.Proofs.YthdimnlkcgchoaaGreat
set_option linter.all false
set_option maxRecDepth 100000
noncomputable def contraB (n:Net) (a b:Rule):Bool:=(a.rl == b.rl)&&((a.rs != b.rs)&&leastB n.nds (a.rw++b.rw))
noncomputable def findFrom (n:Net) (i:Int) (a:Rule):Nat→List Rule→List Pair
 | _,[]=>[]
 | k,b :: l=>bif contraB n a b then ⟨i,(k:Int)⟩ :: findFrom n i a (k+1) l else findFrom n i a (k+1) l
noncomputable def findI (n:Net):Nat→List Rule→List Pair
 | _,[]=>[]
 | i,a :: l=>findFrom n i a (i+1) l++findI n (i+1) l
noncomputable def findP (l:List Rule) (n:Net):List Pair:=findI n 0 l
noncomputable def findL (l:List Rule) (n:Net):List Pair:=bif givenZ l n == 0 then findP l n else []
noncomputable def rngB (l:List Rule) (a:Int):Bool:=ile 0 a&&ilt a (Int.ofNat l.length)
noncomputable def witO (l:List Rule) (n:Net) (a b:Int):Option (List Int):=leastO n.nds ((List.getD l (Int.toNat a) d_rule).rw++(List.getD l (Int.toNat b) d_rule).rw)
noncomputable def witL (l:List Rule) (n:Net) (a b:Int):List Int:=bif givenZ l n == 0&&(rngB l a&&rngB l b) then (witO l n a b).getD [] else []
noncomputable def witE (l:List Rule) (n:Net) (a b:Int):Int:=bif givenZ l n != 0 then givenZ l n else bif rngB l a&&rngB l b then (bif (witO l n a b).isSome then 0 else 12) else 2
noncomputable def deadI (n:Net):Nat→List Rule→List Int
 | _,[]=>[]
 | i,a :: l=>bif leastB n.nds a.rw then deadI n (i+1) l else (i:Int) :: deadI n (i+1) l
noncomputable def deadL (l:List Rule) (n:Net):List Int:=bif givenZ l n == 0 then deadI n 0 l else []
noncomputable def accB (l:List Rule) (n:Net):Bool:=(givenZ l n == 0)&&(Int.ofNat (findP l n).length == 0)
theorem findFrom_len (n:Net) (i:Int) (a:Rule):∀ (l:List Rule) (k:Nat),(findFrom n i a k l).length≤l.length:=by
  intro l
  induction l with
  | nil=>intro k; simp [findFrom]
  | cons b l ih =>
    intro k
    have:=ih (k+1)
    simp only [findFrom,List.length_cons]
    cases contraB n a b
    · simp only [cond_false]; omega
    · simp only [cond_true,List.length_cons]; omega
theorem given0 {l:List Rule} {n:Net} (h:givenZ l n=0):rulesB l=true∧netB n=true∧knownB l n=true:=by
 unfold givenZ at h
 cases h1:rulesB l<;>cases h2:netB n<;>cases h3:knownB l n<;>simp_all
theorem two_ok {a b:Rule} (ha:ruleB a=true) (hb:ruleB b=true):(okR [a,b]&&okWs [a,b])=true:=by
 have h1:=(ruleB_len ha).1; have h2:=(ruleB_len hb).1
 simp only [okR,okWs,List.all_cons,List.all_nil,Bool.and_true,ruleB_okW ha,ruleB_okW hb,nleT (show a.rw.length≤90000 by omega),nleT (show b.rw.length≤90000 by omega),nleT (show ([a,b]:List Rule).length≤90000 by simp)]
theorem one_ok {a:Rule} (ha:ruleB a=true):(okR [a]&&okWs [a])=true:=by
 have h1:=(ruleB_len ha).1
 simp only [okR,okWs,List.all_cons,List.all_nil,Bool.and_true,ruleB_okW ha,nleT (show a.rw.length≤90000 by omega),nleT (show ([a]:List Rule).length≤90000 by simp)]
theorem flat2 (a b:Rule):List.flatMap Rule.rw [a,b]=a.rw++b.rw:=by simp
theorem flat1 (a:Rule):List.flatMap Rule.rw [a]=a.rw:=by simp
namespace least
noncomputable def bd:Code:=(Tryz.f63.body).getD .skip
noncomputable def X:Ctx U El:=⟨E,tds,zeros,eqs,specOf [(95,narrowed.sp),(97,empty.sp),(113,possible.sp)],100000,46,dspecOf [],fun _=>none,fun _=>none⟩
noncomputable def nmR:Norm U:=⟨[(4,.int)],[4,5],[4],[],[],[],[]⟩
noncomputable def RR:Kont U El:=fun st=>normK nmR st (retFin [4,5] [4])
noncomputable def nm1:Norm U:=⟨[(6,.int)],[6],[6],[],[],[],[]⟩
noncomputable def nm2:Norm U:=⟨[(6,.int)],[1,6,17,18,19],[6],[],[],[],[]⟩
noncomputable def nm3:Norm U:=⟨[(6,.int)],[1,6,17,18,19],[6],[],[],[],[]⟩
noncomputable def nm4:Norm U:=⟨[(6,.int)],[1,6,9,17,18,19],[6,9],[],[],[],[]⟩
noncomputable def nm5:Norm U:=⟨[(6,.int)],[1,6,8,9,17,18,19,25,26,27],[6,8,9],[],[],[],[(8,6,.knot)]⟩
abbrev Y1:=(List Int)→R
abbrev Y2:=(List Rule)→(List Int)→(List Node)→Int→Int→R
abbrev Y3:=(List Rule)→(List Int)→(List Node)→Int→Int→R
abbrev Y4:=(List Rule)→(List Int)→(List Node)→Int→Int→Span→R
abbrev Y5:=(List Rule)→(List Int)→(List Node)→Int→Int→(List Rule)→Int→Int→(List UInt8)→Int→Int→Int→Int→Int→(List Knot)→Bool→Int→Span→R
noncomputable def fr0 (n:Net) (l:List Rule):St U El:=⟨[(0,(.agg [(.lst .node n.nds),(.lst .link n.lks)])),(1,(.lst .rule l))],[]⟩
noncomputable def fr1 (aA:List Int):St U El:=⟨[(6,(.ful 6))],[(6,(.rows .int aA))]⟩
noncomputable def fr2 (l1:List Rule) (aA:List Int) (kA:List Node) (lA:Int) (jA:Int):St U El:=⟨[(1,(.lst .rule l1)),(6,(.ful 6)),(17,(.lst .node kA)),(18,(.int .i64 lA)),(19,(.int .i64 jA))],[(6,(.rows .int aA))]⟩
noncomputable def fr3 (l1:List Rule) (aA:List Int) (kA:List Node) (lA:Int) (jA:Int):St U El:=⟨[(1,(.lst .rule l1)),(6,(.ful 6)),(17,(.lst .node kA)),(18,(.int .i64 lA)),(19,(.int .i64 jA))],[(6,(.rows .int aA))]⟩
noncomputable def fr4 (l1:List Rule) (aA:List Int) (kA:List Node) (lA:Int) (jA:Int) (b9:Span):St U El:=⟨[(1,(.lst .rule l1)),(6,(.ful 6)),(9,(.ptr 9 0)),(17,(.lst .node kA)),(18,(.int .i64 lA)),(19,(.int .i64 jA))],[(6,(.rows .int aA)),(9,(.box 0 [(.int .i64 b9.slo),(.int .i64 b9.shi)]))]⟩
noncomputable def fr5 (l1:List Rule) (aA:List Int) (kA:List Node) (lA:Int) (jA:Int) (vA:List Rule) (wA:Int) (uA:Int) (hA:List UInt8) (iA:Int) (mA:Int) (nA:Int) (oA:Int) (pA:Int) (qA:List Knot) (rA:Bool) (sA:Int) (b9:Span):St U El:=⟨[(1,(.lst .rule l1)),(6,(.ful 6)),(8,(.ptr 8 0)),(9,(.ptr 9 0)),(17,(.lst .node kA)),(18,(.int .i64 lA)),(19,(.int .i64 jA)),(25,(.lst .rule vA)),(26,(.int .i64 wA)),(27,(.int .i64 uA))],[(6,(.rows .int aA)),(8,(.box 0 [(.str hA),(.int .i64 iA),(.int .i64 mA),(.int .i64 nA),(.int .i64 oA),(.int .i64 pA),(.lst .knot qA),(.bool rA),(.int .i64 sA)])),(9,(.box 0 [(.int .i64 b9.slo),(.int .i64 b9.shi)]))]⟩
noncomputable def sh0 (n:Net) (l:List Rule) (k2:Y2):R :=
 chk (ile 0 (0:Int)&&ile (0:Int) (Int.ofNat (List.length n.nds))&&ile ((Int.ofNat (List.length n.nds)) * 8) 140737488355328) (k2 l (List.replicate 0 d_int) n.nds (Int.ofNat (List.length n.nds)) (0:Int))
noncomputable def sh1 (aA:List Int):R :=
 some ((.tup [(.ful 0),(.bool true)]),[(0,.rows .int aA)])
noncomputable def sh2 (l1:List Rule) (aA:List Int) (kA:List Node) (lA:Int) (jA:Int) (k1:Y1) (k5:Y5):R :=
 condB (ilt jA lA) (chk (inb jA (List.length kA)) (k5 l1 aA kA lA jA l1 (Int.ofNat (List.length l1)) (0:Int) ((List.getD kA (Int.toNat jA) d_node).nn) ((List.getD kA (Int.toNat jA) d_node).nk) ((List.getD kA (Int.toNat jA) d_node).nx) ((List.getD kA (Int.toNat jA) d_node).ny) ((List.getD kA (Int.toNat jA) d_node).ni) ((List.getD kA (Int.toNat jA) d_node).ng) ((List.getD kA (Int.toNat jA) d_node).nh) ((List.getD kA (Int.toNat jA) d_node).np) ((List.getD kA (Int.toNat jA) d_node).nr) (possS (List.getD kA (Int.toNat jA) d_node)))) (k1 aA)
noncomputable def sh3 (l1:List Rule) (aA:List Int) (kA:List Node) (lA:Int) (jA:Int) (k2:Y2):R :=
 k2 l1 aA kA lA (IntKind.wrap .i64 (jA+(1:Int)))
noncomputable def sh4 (l1:List Rule) (aA:List Int) (kA:List Node) (lA:Int) (jA:Int) (b9:Span) (k3:Y3):R :=
 condB (ilt (Span.shi b9) (Span.slo b9)) (some ((.tup [(.ful 0),(.bool false)]),[(0,.rows .int ([]:List Int))])) (chk (nle ((List.length aA+List.length ([b9.slo]:List Int)) * 8) 140737488355328&&nle (List.length aA+List.length ([b9.slo]:List Int)) 9223372036854775807) (k3 l1 (aA++([b9.slo]:List Int)) kA lA jA))
noncomputable def sh5 (l1:List Rule) (aA:List Int) (kA:List Node) (lA:Int) (jA:Int) (vA:List Rule) (wA:Int) (uA:Int) (hA:List UInt8) (iA:Int) (mA:Int) (nA:Int) (oA:Int) (pA:Int) (qA:List Knot) (rA:Bool) (sA:Int) (b9:Span) (k4:Y4) (k5:Y5):R :=
 condB (ilt uA wA) (chk (inb uA (List.length vA)) (chk (okW (Rule.rw (List.getD vA (Int.toNat uA) d_rule))) (k5 l1 aA kA lA jA vA wA (IntKind.wrap .i64 (uA+(1:Int))) hA iA mA nA oA pA qA rA sA (nar hA b9 (Rule.rw (List.getD vA (Int.toNat uA) d_rule)))))) (k4 l1 aA kA lA jA b9)
noncomputable def it2 (Kb1:Kont U El) (n:Nat):Kont U El:=iter nm2 (fun st' K'=>exec X (cdp [1,1,0,1,0,0] bd) (.seq none .d (.seq none .d (.seq (some nm3) (.block (.seq none .d (.seq none .d (.seq (some nm4) (.seq none .d (.block (.loop nm5 .d))) .d)))) .d))) st' K' (Eblk 0 (cutK nm1 Kb1) (fun _ _=>none)) RR) n
noncomputable def it5 (Kb1 Kb3 Kb4:Kont U El) (n:Nat):Kont U El:=iter nm5 (fun st' K'=>exec X (cdp [1,1,0,1,0,0,1,1,0,0,1,1,0,1,0,0] bd) .d st' K' (Eblk 2 (cutK nm4 Kb4) (Eblk 1 (cutK nm3 Kb3) (Eblk 0 (cutK nm1 Kb1) (fun _ _=>none)))) RR) n
noncomputable def ct1:Kont U El:=fun st=>exec X (cdp [1,1,1] bd) .d st RR (fun _ _=>none) RR
noncomputable def ct3 (Kb1 Kb2:Kont U El):Kont U El:=fun st=>exec X (cdp [1,1,0,1,0,0,1,1,1] bd) .d st (cutK nm2 Kb2) (Eblk 0 (cutK nm1 Kb1) (fun _ _=>none)) RR
noncomputable def ct4 (Kb1 Kb3:Kont U El):Kont U El:=fun st=>exec X (cdp [1,1,0,1,0,0,1,1,0,0,1,1,1] bd) .d st (cutK nm3 Kb3) (Eblk 1 (cutK nm3 Kb3) (Eblk 0 (cutK nm1 Kb1) (fun _ _=>none))) RR
theorem P0 (n l):exec X (cdp [] bd) (.seq none .d (.seq none .d (.seq (some nm1) (.seq none .d (.block (.loop nm2 (.seq none .d (.seq none .d (.seq (some nm3) (.block (.seq none .d (.seq none .d (.seq (some nm4) (.seq none .d (.block (.loop nm5 .d))) .d)))) .d)))))) .d))) (fr0 n l) RR (fun _ _=>none) RR=sh0 n l (fun y0 y1 y2 y3 y4=>(hid (it2 (hid ct1) 100000)) (fr2 y0 y1 y2 y3 y4)):=by kernel_rfl
theorem P1 (aA):ct1 (fr1 aA)=sh1 aA:=by kernel_rfl
theorem P2 (l1 aA kA lA jA) (Kb1 Kb2:Kont U El):exec X (cdp [1,1,0,1,0,0] bd) (.seq none .d (.seq none .d (.seq (some nm3) (.block (.seq none .d (.seq none .d (.seq (some nm4) (.seq none .d (.block (.loop nm5 .d))) .d)))) .d))) (fr2 l1 aA kA lA jA) (cutK nm2 Kb2) (Eblk 0 (cutK nm1 Kb1) (fun _ _=>none)) RR=sh2 l1 aA kA lA jA (fun y0=>Kb1 (fr1 y0)) (fun y0 y1 y2 y3 y4 y5 y6 y7 y8 y9 y10 y11 y12 y13 y14 y15 y16 y17=>(hid (it5 Kb1 (hid (ct3 Kb1 Kb2)) (hid (ct4 Kb1 (hid (ct3 Kb1 Kb2)))) 100000)) (fr5 y0 y1 y2 y3 y4 y5 y6 y7 y8 y9 y10 y11 y12 y13 y14 y15 y16 y17)):=by kernel_rfl
theorem P3 (l1 aA kA lA jA) (Kb1 Kb2:Kont U El):ct3 Kb1 Kb2 (fr3 l1 aA kA lA jA)=sh3 l1 aA kA lA jA (fun y0 y1 y2 y3 y4=>Kb2 (fr2 y0 y1 y2 y3 y4)):=by kernel_rfl
theorem P4 (l1 aA kA lA jA b9) (Kb1 Kb3:Kont U El):ct4 Kb1 Kb3 (fr4 l1 aA kA lA jA b9)=sh4 l1 aA kA lA jA b9 (fun y0 y1 y2 y3 y4=>Kb3 (fr3 y0 y1 y2 y3 y4)):=by kernel_rfl
theorem P5 (l1 aA kA lA jA vA wA uA hA iA mA nA oA pA qA rA sA b9) (Kb1 Kb3 Kb4 Kb5:Kont U El):exec X (cdp [1,1,0,1,0,0,1,1,0,0,1,1,0,1,0,0] bd) .d (fr5 l1 aA kA lA jA vA wA uA hA iA mA nA oA pA qA rA sA b9) (cutK nm5 Kb5) (Eblk 2 (cutK nm4 Kb4) (Eblk 1 (cutK nm3 Kb3) (Eblk 0 (cutK nm1 Kb1) (fun _ _=>none)))) RR=sh5 l1 aA kA lA jA vA wA uA hA iA mA nA oA pA qA rA sA b9 (fun y0 y1 y2 y3 y4 y5=>Kb4 (fr4 y0 y1 y2 y3 y4 y5)) (fun y0 y1 y2 y3 y4 y5 y6 y7 y8 y9 y10 y11 y12 y13 y14 y15 y16 y17=>Kb5 (fr5 y0 y1 y2 y3 y4 y5 y6 y7 y8 y9 y10 y11 y12 y13 y14 y15 y16 y17)):=by kernel_rfl
noncomputable def f1 (aA:List Int):R:=sh1 aA
noncomputable def f3 (k2:Y2) (l1:List Rule) (aA:List Int) (kA:List Node) (lA:Int) (jA:Int):R:=sh3 l1 aA kA lA jA k2
noncomputable def f4 (k2:Y2) (l1:List Rule) (aA:List Int) (kA:List Node) (lA:Int) (jA:Int) (b9:Span):R:=sh4 l1 aA kA lA jA b9 (f3 k2)
noncomputable def f5 (k2:Y2):Nat→Y5
 | 0=>fun _ _ _ _ _ _ _ _ _ _ _ _ _ _ _ _ _ _=>none
 | n+1=>fun l1 aA kA lA jA vA wA uA hA iA mA nA oA pA qA rA sA b9=>sh5 l1 aA kA lA jA vA wA uA hA iA mA nA oA pA qA rA sA b9 (f4 k2) (f5 k2 n)
noncomputable def f2:Nat→Y2
 | 0=>fun _ _ _ _ _=>none
 | n+1=>fun l1 aA kA lA jA=>sh2 l1 aA kA lA jA f1 (f5 (f2 n) 100000)
noncomputable def f0 (n:Net) (l:List Rule):R:=sh0 n l (f2 100000)
theorem T1 (aA):(hid ct1) (fr1 aA)=f1 aA:=by
 refine (congrFun (hid_eq _) _).trans <| (P1 aA).trans ?_
 show _=sh1 aA
 rfl
theorem T3 (KL2:Kont U El) (k2:Y2) (h2:∀ l1 aA kA lA jA,KL2 (fr2 l1 aA kA lA jA)=k2 l1 aA kA lA jA) (l1 aA kA lA jA):(hid (ct3 (hid ct1) KL2)) (fr3 l1 aA kA lA jA)=f3 k2 l1 aA kA lA jA:=by
 refine (congrFun (hid_eq _) _).trans <| (P3 l1 aA kA lA jA (hid ct1) KL2).trans ?_
 show _=sh3 l1 aA kA lA jA k2
 simp only [h2]
theorem T4 (KL2:Kont U El) (k2:Y2) (h2:∀ l1 aA kA lA jA,KL2 (fr2 l1 aA kA lA jA)=k2 l1 aA kA lA jA) (l1 aA kA lA jA b9):(hid (ct4 (hid ct1) (hid (ct3 (hid ct1) KL2)))) (fr4 l1 aA kA lA jA b9)=f4 k2 l1 aA kA lA jA b9:=by
 refine (congrFun (hid_eq _) _).trans <| (P4 l1 aA kA lA jA b9 (hid ct1) (hid (ct3 (hid ct1) KL2))).trans ?_
 show _=sh4 l1 aA kA lA jA b9 (f3 k2)
 simp only [T3 KL2 k2 h2]
theorem T5 (KL2:Kont U El) (k2:Y2) (h2:∀ l1 aA kA lA jA,KL2 (fr2 l1 aA kA lA jA)=k2 l1 aA kA lA jA):∀ (n:Nat),∀ l1 aA kA lA jA vA wA uA hA iA mA nA oA pA qA rA sA b9,it5 (hid ct1) (hid (ct3 (hid ct1) KL2)) (hid (ct4 (hid ct1) (hid (ct3 (hid ct1) KL2)))) n (fr5 l1 aA kA lA jA vA wA uA hA iA mA nA oA pA qA rA sA b9)=f5 k2 n l1 aA kA lA jA vA wA uA hA iA mA nA oA pA qA rA sA b9:=by
  intro n
  induction n with
  | zero=>intros; rfl
  | succ n ih =>
    intro l1 aA kA lA jA vA wA uA hA iA mA nA oA pA qA rA sA b9
    refine (P5 l1 aA kA lA jA vA wA uA hA iA mA nA oA pA qA rA sA b9 (hid ct1) (hid (ct3 (hid ct1) KL2)) (hid (ct4 (hid ct1) (hid (ct3 (hid ct1) KL2)))) (it5 (hid ct1) (hid (ct3 (hid ct1) KL2)) (hid (ct4 (hid ct1) (hid (ct3 (hid ct1) KL2)))) n)).trans ?_
    show _=sh5 l1 aA kA lA jA vA wA uA hA iA mA nA oA pA qA rA sA b9 (f4 k2) (f5 k2 n)
    simp only [T4 KL2 k2 h2,ih]
theorem H5 (KL2:Kont U El) (k2:Y2) (h2:∀ l1 aA kA lA jA,KL2 (fr2 l1 aA kA lA jA)=k2 l1 aA kA lA jA) (l1 aA kA lA jA vA wA uA hA iA mA nA oA pA qA rA sA b9):hid (it5 (hid ct1) (hid (ct3 (hid ct1) KL2)) (hid (ct4 (hid ct1) (hid (ct3 (hid ct1) KL2)))) 100000) (fr5 l1 aA kA lA jA vA wA uA hA iA mA nA oA pA qA rA sA b9)=f5 k2 100000 l1 aA kA lA jA vA wA uA hA iA mA nA oA pA qA rA sA b9:=(congrFun (hid_eq _) _).trans (T5 KL2 k2 h2 100000 l1 aA kA lA jA vA wA uA hA iA mA nA oA pA qA rA sA b9)
theorem T2:∀ (n:Nat),∀ l1 aA kA lA jA,it2 (hid ct1) n (fr2 l1 aA kA lA jA)=f2 n l1 aA kA lA jA:=by
  intro n
  induction n with
  | zero=>intros; rfl
  | succ n ih =>
    intro l1 aA kA lA jA
    refine (P2 l1 aA kA lA jA (hid ct1) (it2 (hid ct1) n)).trans ?_
    show _=sh2 l1 aA kA lA jA f1 (f5 (f2 n) 100000)
    simp only [T1,H5 (it2 (hid ct1) n) (f2 n) ih]
theorem H2 (l1 aA kA lA jA):hid (it2 (hid ct1) 100000) (fr2 l1 aA kA lA jA)=f2 100000 l1 aA kA lA jA:=(congrFun (hid_eq _) _).trans (T2 100000 l1 aA kA lA jA)
theorem T0 (n l):exec X bd (.seq none .d (.seq none .d (.seq (some nm1) (.seq none .d (.block (.loop nm2 (.seq none .d (.seq none .d (.seq (some nm3) (.block (.seq none .d (.seq none .d (.seq (some nm4) (.seq none .d (.block (.loop nm5 .d))) .d)))) .d)))))) .d))) (fr0 n l) RR (fun _ _=>none) RR=f0 n l:=by
 refine (P0 n l).trans ?_
 show _=sh0 n l (f2 100000)
 simp only [H2]
theorem run (n l):runFn X bd (.seq none .d (.seq none .d (.seq (some nm1) (.seq none .d (.block (.loop nm2 (.seq none .d (.seq none .d (.seq (some nm3) (.block (.seq none .d (.seq none .d (.seq (some nm4) (.seq none .d (.block (.loop nm5 .d))) .d)))) .d)))))) .d))) nmR [4,5] [4] [(.agg [(.lst .node n.nds),(.lst .link n.lks)]),(.lst .rule l)]=f0 n l:=T0 n l
theorem inner (l:List Rule) (hl:l.length≤90000) (hw:okWs l=true) (out:List Int) (nds:List Node) (lA jA:Int) (x:Node) (k2:List Rule→List Int→List Node→Int→Int→R):∀ (n j:Nat) (s:Span),l.length < n+j→j≤l.length →
    f5 k2 n l out nds lA jA l (Int.ofNat l.length) (j:Int) x.nn x.nk x.nx x.ny x.ni x.ng x.nh x.np x.nr s=f4 k2 l out nds lA jA (nar x.nn s (List.flatMap Rule.rw (l.drop j))):=by
  intro n
  induction n with
  | zero=>intro j s h1 h2; omega
  | succ n ih =>
    intro j s h1 h2
    show sh5 l out nds lA jA l (Int.ofNat l.length) (j:Int) x.nn x.nk x.nx x.ny x.ni x.ng x.nh x.np x.nr s (f4 k2) (f5 k2 n)=_
    unfold sh5
    by_cases hj:j < l.length
    · rw [iltT (by simp; omega), inbT hj, toNat_nat, getD_lt hj, drop_lt hj, List.all_eq_true.1 hw _ (List.getElem_mem hj), wrapS j (by omega), ih (j + 1) _ (by omega) hj, List.flatMap_cons, nar_append]
      rfl
    · have : j = l.length := by omega
      subst this
      rw [iltF (by simp),List.drop_length]
      rfl
theorem loop (l : List Rule) (hl : l.length ≤ 90000) (hw : okWs l = true) (nds : List Node) (hn : nds.length ≤ 90000) : ∀ (n i : Nat) (out : List Int), nds.length < n + i → i ≤ nds.length → out.length = i → f2 n l out nds (Int.ofNat nds.length) (i : Int) = leastR out (leastO (nds.drop i) (List.flatMap Rule.rw l)) := by
  intro n
  induction n with
  | zero=>intro i out h1 h2; omega
  | succ n ih =>
    intro i out h1 h2 h3
    show sh2 l out nds (Int.ofNat nds.length) (i:Int) f1 (f5 (f2 n) 100000)=_
    unfold sh2
    by_cases hi:i < nds.length
    · rw [iltT (by simp; omega), inbT hi, toNat_nat, getD_lt hi, drop_lt hi]
      have e:=inner l hl hw out nds (Int.ofNat nds.length) (i:Int) nds[i] (f2 n) 100000 0 (possS nds[i]) (by omega) (by omega)
      rw [show ((0:Int))=((0:Nat):Int) from rfl,e,List.drop_zero]
      show chk true (sh4 l out nds (Int.ofNat nds.length) (i:Int) _ (f3 (f2 n)))=_
      unfold sh4 leastO
      generalize nar nds[i].nn (possS nds[i]) (List.flatMap Rule.rw l)=s
      cases ilt s.shi s.slo with
      | true=>rfl
      | false =>
        rw [nleT (show _≤140737488355328 by simp; omega),nleT (show _≤9223372036854775807 by simp; omega)]
        show f2 n l (out++[s.slo]) nds (Int.ofNat nds.length) (IntKind.wrap .i64 ((i:Int)+1))=_
        rw [wrapS i (by omega),ih (i+1) _ (by omega) hi (by simp; omega),leastR_map]
        rfl
    · have : i = nds.length := by omega
      subst this
      rw [iltF (by simp),List.drop_length]
      simp only [condF,leastO,leastR,List.append_nil]
      rfl
theorem f0_eq (n:Net) (l:List Rule) (h:(okN n&&(okR l&&okWs l))=true):f0 n l=some (.tup [.ful 0,.bool (leastB n.nds (List.flatMap Rule.rw l))],[(0,.rows .int (leastL n.nds (List.flatMap Rule.rw l)))]):=by
 simp only [Bool.and_eq_true] at h
 have h1:=nleI (okN_nds h.1)
 have h2:=h.2.1
 simp only [okR,Bool.and_eq_true] at h2
 show sh0 n l (f2 100000)=_
 unfold sh0
 rw [ileT (by omega),ileT (by simp),ileT (by simp; omega)]
 exact (loop l (nleI h2.1) h.2.2 n.nds h1 100000 0 [] (by omega) (by omega) rfl).trans (leastR_spec _ _)
theorem ok:CtxOk Tryz.prog X:=ctxOk tab (spC narrowed.spOk (spC empty.spOk (spC possible.spOk spN))) dpN
theorem okM:MOk Tryz.prog X:=fun g sp h=>by cases h
theorem spec (n:Net) (l:List Rule) (h:((okN n&&(okR l&&okWs l)))=true):CallSpec Tryz.prog E 63 [(.agg [(.lst .node n.nds),(.lst .link n.lks)]),(.lst .rule l)] (.tup [(.ful 0),(.bool (leastB (Net.nds n) (List.flatMap Rule.rw l)))]) [(0,.rows .int (leastL (Net.nds n) (List.flatMap Rule.rw l)))] :=
 rfs ok okM Tryz.call63 Tryz.func63 ((run n l).trans (f0_eq n l h))
noncomputable def sp:Sp U El:=fun args k=>match args with
 | [.agg [.lst .node n_nds,.lst .link n_lks],.lst .rule l]=>chk ((okN (⟨n_nds,n_lks⟩:Net)&&(okR l&&okWs l))) (k (.tup [(.ful 0),(.bool (leastB (Net.nds (⟨n_nds,n_lks⟩:Net)) (List.flatMap Rule.rw l)))]) [(0,.rows .int (leastL (Net.nds (⟨n_nds,n_lks⟩:Net)) (List.flatMap Rule.rw l)))])
 | _=>none
theorem spOk:SpOk Tryz.prog E 63 sp:=⟨fun vs=>by unfold sp;split;exact det_c _ _ _;exact ⟨none,fun _=>rfl⟩,fun vs k r h=>by unfold sp at h;split at h;(obtain ⟨h1,h2⟩:=chk_some h;exact ⟨_,_,spec ⟨_,_⟩ _ h1,h2⟩);cases h⟩
end least
end Go.Proofs.YthdimnlkcgchoaaGreat
