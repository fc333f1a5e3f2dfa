import Derived.Test.YthdimnlkcgchoaaGreatVE
namespace Go.Proofs.YthdimnlkcgchoaaGreat
set_option linter.all false
set_option maxRecDepth 100000
noncomputable def nodeBad (n:Net) (i:Nat) (x:Node):Bool:=!(nodeB x)||(nodeZ n x.nn != (i:Int))
noncomputable def linkBad (n:Net) (i:Nat) (x:Lnk):Bool :=
 !(linkB x)||((linkZ n x.ln != (i:Int))||(ilt (nodeZ n x.lf) 0||(ilt (nodeZ n x.lt) 0||((List.getD n.nds (Int.toNat (nodeZ n x.lf)) d_node).nk == 3))))
noncomputable def netB (n:Net):Bool :=
 !(ilt 300 (Int.ofNat n.nds.length))&&(!(ilt 400 (Int.ofNat n.lks.length))&&(allI (fun i x=>!(nodeBad n i x)) 0 n.nds&&allI (fun i x=>!(linkBad n i x)) 0 n.lks))
theorem nodeZ_inb {n:Net} {s:List UInt8} (h:¬ nodeZ n s < 0):inb (nodeZ n s) n.nds.length=true:=by
 unfold nodeZ at *
 rcases findZ_range (isNode s) n.nds 0 with h1 | ⟨h1,h2⟩
 ·omega
 ·simp only [inb,ile,ilt,Bool.and_eq_true,decide_eq_true_eq]; omega
namespace nvalid
noncomputable def bd:Code:=(Tryz.f102.body).getD .skip
noncomputable def X:Ctx U El:=⟨E,tds,zeros,eqs,specOf [(118,nlink.sp),(136,rightNode.sp),(137,nnode.sp),(138,rightLink.sp)],100000,80,dspecOf [],fun _=>none,fun _=>none⟩
noncomputable def nmR:Norm U:=⟨[],[2],[],[],[],[],[]⟩
noncomputable def RR:Kont U El:=fun st=>normK nmR st (retFin [2] [])
noncomputable def nm1:Norm U:=⟨[],[1],[1],[],[],[],[(1,0,.node),(1,1,.link)]⟩
noncomputable def nm2:Norm U:=⟨[],[1],[1],[],[],[],[(1,0,.node),(1,1,.link)]⟩
noncomputable def nm3:Norm U:=⟨[],[1,19,20,21],[1],[],[],[],[(1,0,.node),(1,1,.link)]⟩
noncomputable def nm4:Norm U:=⟨[],[1,19,20,21],[1],[],[],[],[(1,0,.node),(1,1,.link)]⟩
noncomputable def nm5:Norm U:=⟨[],[],[],[],[],[],[]⟩
noncomputable def nm6:Norm U:=⟨[],[1,39,40,41],[1],[],[],[],[(1,0,.node),(1,1,.link)]⟩
noncomputable def nm7:Norm U:=⟨[],[1,39,40,41],[1],[],[],[],[(1,0,.node),(1,1,.link)]⟩
noncomputable def nm8:Norm U:=⟨[],[1,6,39,40,41],[1,6],[],[],[],[(1,0,.node),(1,1,.link),(6,10,.knot)]⟩
abbrev Y1:=(List Node)→(List Lnk)→R
abbrev Y2:=(List Node)→(List Lnk)→R
abbrev Y3:=(List Node)→Int→Int→(List Node)→(List Lnk)→R
abbrev Y4:=(List Node)→Int→Int→(List Node)→(List Lnk)→R
abbrev Y5:=R
abbrev Y6:=(List Lnk)→Int→Int→(List Node)→(List Lnk)→R
abbrev Y7:=(List Lnk)→Int→Int→(List Node)→(List Lnk)→R
abbrev Y8:=(List Lnk)→Int→Int→(List Node)→(List Lnk)→(List UInt8)→(List UInt8)→(List UInt8)→Int→Int→Int→Int→(List UInt8)→Int→Int→(List Knot)→R
noncomputable def fr0 (n:Net):St U El:=⟨[(0,(.agg [(.lst .node n.nds),(.lst .link n.lks)]))],[]⟩
noncomputable def fr1 (bA:List Node) (aA:List Lnk):St U El:=⟨[(1,(.ptr 1 0))],[(1,(.box 0 [(.lst .node bA),(.lst .link aA)]))]⟩
noncomputable def fr2 (bA:List Node) (aA:List Lnk):St U El:=⟨[(1,(.ptr 1 0))],[(1,(.box 0 [(.lst .node bA),(.lst .link aA)]))]⟩
noncomputable def fr3 (iA:List Node) (jA:Int) (fA:Int) (bA:List Node) (aA:List Lnk):St U El:=⟨[(1,(.ptr 1 0)),(19,(.lst .node iA)),(20,(.int .i64 jA)),(21,(.int .i64 fA))],[(1,(.box 0 [(.lst .node bA),(.lst .link aA)]))]⟩
noncomputable def fr4 (iA:List Node) (jA:Int) (fA:Int) (bA:List Node) (aA:List Lnk):St U El:=⟨[(1,(.ptr 1 0)),(19,(.lst .node iA)),(20,(.int .i64 jA)),(21,(.int .i64 fA))],[(1,(.box 0 [(.lst .node bA),(.lst .link aA)]))]⟩
noncomputable def fr5:St U El:=⟨[],[]⟩
noncomputable def fr6 (dA:List Lnk) (eA:Int) (cA:Int) (bA:List Node) (aA:List Lnk):St U El:=⟨[(1,(.ptr 1 0)),(39,(.lst .link dA)),(40,(.int .i64 eA)),(41,(.int .i64 cA))],[(1,(.box 0 [(.lst .node bA),(.lst .link aA)]))]⟩
noncomputable def fr7 (dA:List Lnk) (eA:Int) (cA:Int) (bA:List Node) (aA:List Lnk):St U El:=⟨[(1,(.ptr 1 0)),(39,(.lst .link dA)),(40,(.int .i64 eA)),(41,(.int .i64 cA))],[(1,(.box 0 [(.lst .node bA),(.lst .link aA)]))]⟩
noncomputable def fr8 (dA:List Lnk) (eA:Int) (cA:Int) (bA:List Node) (aA:List Lnk) (wA:List UInt8) (lA:List UInt8) (mA:List UInt8) (xA:Int) (yA:Int) (zA:Int) (aB:Int) (bB:List UInt8) (cB:Int) (dB:Int) (hA:List Knot):St U El:=⟨[(1,(.ptr 1 0)),(6,(.ptr 6 0)),(39,(.lst .link dA)),(40,(.int .i64 eA)),(41,(.int .i64 cA))],[(1,(.box 0 [(.lst .node bA),(.lst .link aA)])),(6,(.box 0 [(.str wA),(.str lA),(.str mA),(.int .i64 xA),(.int .i64 yA),(.int .i64 zA),(.int .i64 aB),(.str bB),(.int .i64 cB),(.int .i64 dB),(.lst .knot hA)]))]⟩
noncomputable def sh0 (n:Net) (k1:Y1):R :=
 condB (ilt (300:Int) (Int.ofNat (List.length n.nds))) (some ((.bool false),[])) (condB (ilt (400:Int) (Int.ofNat (List.length n.lks))) (some ((.bool false),[])) (k1 n.nds n.lks))
noncomputable def sh1 (bA:List Node) (aA:List Lnk) (k3:Y3):R :=
 k3 bA (Int.ofNat (List.length bA)) (0:Int) bA aA
noncomputable def sh2 (bA:List Node) (aA:List Lnk) (k6:Y6):R :=
 k6 aA (Int.ofNat (List.length aA)) (0:Int) bA aA
noncomputable def sh3 (iA:List Node) (jA:Int) (fA:Int) (bA:List Node) (aA:List Lnk) (k2:Y2) (k4:Y4):R :=
 condB (ilt fA jA) (chk (inb fA (List.length iA)) (condB (!(nodeB (List.getD iA (Int.toNat fA) d_node))) (some ((.bool false),[])) (chk (okN (⟨bA,aA⟩:Net)) (condB ((nodeZ (⟨bA,aA⟩:Net) ((List.getD iA (Int.toNat fA) d_node).nn)) != fA) (some ((.bool false),[])) (k4 iA jA fA bA aA))))) (k2 bA aA)
noncomputable def sh4 (iA:List Node) (jA:Int) (fA:Int) (bA:List Node) (aA:List Lnk) (k3:Y3):R :=
 k3 iA jA (IntKind.wrap .i64 (fA+(1:Int))) bA aA
noncomputable def sh5:R :=
 some ((.bool true),[])
noncomputable def sh6 (dA:List Lnk) (eA:Int) (cA:Int) (bA:List Node) (aA:List Lnk) (k5:Y5) (k8:Y8):R :=
 condB (ilt cA eA) (chk (inb cA (List.length dA)) (chk (nle (List.length (Lnk.lv (List.getD dA (Int.toNat cA) d_link))) 90000) (condB (!(linkB (List.getD dA (Int.toNat cA) d_link))) (some ((.bool false),[])) (chk (okN (⟨bA,aA⟩:Net)) (condB ((linkZ (⟨bA,aA⟩:Net) ((List.getD dA (Int.toNat cA) d_link).ln)) != cA) (some ((.bool false),[])) (k8 dA eA cA bA aA ((List.getD dA (Int.toNat cA) d_link).ln) ((List.getD dA (Int.toNat cA) d_link).lf) ((List.getD dA (Int.toNat cA) d_link).lt) ((List.getD dA (Int.toNat cA) d_link).lk) ((List.getD dA (Int.toNat cA) d_link).ll) ((List.getD dA (Int.toNat cA) d_link).lu) ((List.getD dA (Int.toNat cA) d_link).ld) ((List.getD dA (Int.toNat cA) d_link).lc) ((List.getD dA (Int.toNat cA) d_link).lw) ((List.getD dA (Int.toNat cA) d_link).lh) ((List.getD dA (Int.toNat cA) d_link).lv))))))) (k5)
noncomputable def sh7 (dA:List Lnk) (eA:Int) (cA:Int) (bA:List Node) (aA:List Lnk) (k6:Y6):R :=
 k6 dA eA (IntKind.wrap .i64 (cA+(1:Int))) bA aA
noncomputable def sh8 (dA:List Lnk) (eA:Int) (cA:Int) (bA:List Node) (aA:List Lnk) (wA:List UInt8) (lA:List UInt8) (mA:List UInt8) (xA:Int) (yA:Int) (zA:Int) (aB:Int) (bB:List UInt8) (cB:Int) (dB:Int) (hA:List Knot) (k7:Y7):R :=
 chk (okN (⟨bA,aA⟩:Net)) (condB (ilt (nodeZ (⟨bA,aA⟩:Net) lA) (0:Int)) (some ((.bool false),[])) (chk (okN (⟨bA,aA⟩:Net)) (condB (ilt (nodeZ (⟨bA,aA⟩:Net) mA) (0:Int)) (some ((.bool false),[])) (chk (inb (nodeZ (⟨bA,aA⟩:Net) lA) (List.length bA)) (condB ((List.getD bA (Int.toNat (nodeZ (⟨bA,aA⟩:Net) lA)) d_node).nk == (3:Int)) (some ((.bool false),[])) (k7 dA eA cA bA aA))))))
noncomputable def it3 (Kb2:Kont U El) (n:Nat):Kont U El:=iter nm3 (fun st' K'=>exec X (cdp [1,1,0,1,0,0] bd) (.seq none .d (.seq none .d (.seq (some nm4) .d .d))) st' K' (Eblk 0 (cutK nm2 Kb2) (fun _ _=>none)) RR) n
noncomputable def it6 (Kb5:Kont U El) (n:Nat):Kont U El:=iter nm6 (fun st' K'=>exec X (cdp [1,1,1,0,1,0,0] bd) (.seq none .d (.seq none .d (.seq (some nm7) (.block (.seq none .d (.seq (some nm8) .d .d))) .d))) st' K' (Eblk 2 (cutK nm5 Kb5) (fun _ _=>none)) RR) n
noncomputable def ct1:Kont U El:=fun st=>exec X (cdp [1,1] bd) (.seq (some nm2) (.seq none .d (.block (.loop nm3 (.seq none .d (.seq none .d (.seq (some nm4) .d .d)))))) (.seq (some nm5) (.seq none .d (.block (.loop nm6 (.seq none .d (.seq none .d (.seq (some nm7) (.block (.seq none .d (.seq (some nm8) .d .d))) .d)))))) .d)) st RR (fun _ _=>none) RR
noncomputable def ct2:Kont U El:=fun st=>exec X (cdp [1,1,1] bd) (.seq (some nm5) (.seq none .d (.block (.loop nm6 (.seq none .d (.seq none .d (.seq (some nm7) (.block (.seq none .d (.seq (some nm8) .d .d))) .d)))))) .d) st RR (fun _ _=>none) RR
noncomputable def ct4 (Kb2 Kb3:Kont U El):Kont U El:=fun st=>exec X (cdp [1,1,0,1,0,0,1,1,1] bd) .d st (cutK nm3 Kb3) (Eblk 0 (cutK nm2 Kb2) (fun _ _=>none)) RR
noncomputable def ct5:Kont U El:=fun st=>exec X (cdp [1,1,1,1] bd) .d st RR (fun _ _=>none) RR
noncomputable def ct7 (Kb5 Kb6:Kont U El):Kont U El:=fun st=>exec X (cdp [1,1,1,0,1,0,0,1,1,1] bd) .d st (cutK nm6 Kb6) (Eblk 2 (cutK nm5 Kb5) (fun _ _=>none)) RR
noncomputable def ct8 (Kb5 Kb7:Kont U El):Kont U El:=fun st=>exec X (cdp [1,1,1,0,1,0,0,1,1,0,0,1,1] bd) .d st (cutK nm7 Kb7) (Eblk 3 (cutK nm7 Kb7) (Eblk 2 (cutK nm5 Kb5) (fun _ _=>none))) RR
theorem P0 (n):exec X (cdp [] bd) (.seq none .d (.seq (some nm1) .d (.seq (some nm2) (.seq none .d (.block (.loop nm3 (.seq none .d (.seq none .d (.seq (some nm4) .d .d)))))) (.seq (some nm5) (.seq none .d (.block (.loop nm6 (.seq none .d (.seq none .d (.seq (some nm7) (.block (.seq none .d (.seq (some nm8) .d .d))) .d)))))) .d)))) (fr0 n) RR (fun _ _=>none) RR=sh0 n (fun y0 y1=>(hid ct1) (fr1 y0 y1)):=by kernel_rfl
theorem P1 (bA aA):ct1 (fr1 bA aA)=sh1 bA aA (fun y0 y1 y2 y3 y4=>(hid (it3 (hid ct2) 100000)) (fr3 y0 y1 y2 y3 y4)):=by kernel_rfl
theorem P2 (bA aA):ct2 (fr2 bA aA)=sh2 bA aA (fun y0 y1 y2 y3 y4=>(hid (it6 (hid ct5) 100000)) (fr6 y0 y1 y2 y3 y4)):=by kernel_rfl
theorem P3 (iA jA fA bA aA) (Kb2 Kb3:Kont U El):exec X (cdp [1,1,0,1,0,0] bd) (.seq none .d (.seq none .d (.seq (some nm4) .d .d))) (fr3 iA jA fA bA aA) (cutK nm3 Kb3) (Eblk 0 (cutK nm2 Kb2) (fun _ _=>none)) RR=sh3 iA jA fA bA aA (fun y0 y1=>Kb2 (fr2 y0 y1)) (fun y0 y1 y2 y3 y4=>(hid (ct4 Kb2 Kb3)) (fr4 y0 y1 y2 y3 y4)):=by kernel_rfl
theorem P4 (iA jA fA bA aA) (Kb2 Kb3:Kont U El):ct4 Kb2 Kb3 (fr4 iA jA fA bA aA)=sh4 iA jA fA bA aA (fun y0 y1 y2 y3 y4=>Kb3 (fr3 y0 y1 y2 y3 y4)):=by kernel_rfl
theorem P5:ct5 (fr5)=sh5:=by kernel_rfl
theorem P6 (dA eA cA bA aA) (Kb5 Kb6:Kont U El):exec X (cdp [1,1,1,0,1,0,0] bd) (.seq none .d (.seq none .d (.seq (some nm7) (.block (.seq none .d (.seq (some nm8) .d .d))) .d))) (fr6 dA eA cA bA aA) (cutK nm6 Kb6) (Eblk 2 (cutK nm5 Kb5) (fun _ _=>none)) RR=sh6 dA eA cA bA aA (Kb5 (fr5)) (fun y0 y1 y2 y3 y4 y5 y6 y7 y8 y9 y10 y11 y12 y13 y14 y15=>(hid (ct8 Kb5 (hid (ct7 Kb5 Kb6)))) (fr8 y0 y1 y2 y3 y4 y5 y6 y7 y8 y9 y10 y11 y12 y13 y14 y15)):=by kernel_rfl
theorem P7 (dA eA cA bA aA) (Kb5 Kb6:Kont U El):ct7 Kb5 Kb6 (fr7 dA eA cA bA aA)=sh7 dA eA cA bA aA (fun y0 y1 y2 y3 y4=>Kb6 (fr6 y0 y1 y2 y3 y4)):=by kernel_rfl
theorem P8 (dA eA cA bA aA wA lA mA xA yA zA aB bB cB dB hA) (Kb5 Kb7:Kont U El):ct8 Kb5 Kb7 (fr8 dA eA cA bA aA wA lA mA xA yA zA aB bB cB dB hA)=sh8 dA eA cA bA aA wA lA mA xA yA zA aB bB cB dB hA (fun y0 y1 y2 y3 y4=>Kb7 (fr7 y0 y1 y2 y3 y4)):=by kernel_rfl
noncomputable def f5:R:=sh5
noncomputable def f7 (k6:Y6) (dA:List Lnk) (eA:Int) (cA:Int) (bA:List Node) (aA:List Lnk):R:=sh7 dA eA cA bA aA k6
noncomputable def f8 (k6:Y6) (dA:List Lnk) (eA:Int) (cA:Int) (bA:List Node) (aA:List Lnk) (wA:List UInt8) (lA:List UInt8) (mA:List UInt8) (xA:Int) (yA:Int) (zA:Int) (aB:Int) (bB:List UInt8) (cB:Int) (dB:Int) (hA:List Knot):R:=sh8 dA eA cA bA aA wA lA mA xA yA zA aB bB cB dB hA (f7 k6)
noncomputable def f6:Nat→Y6
 | 0=>fun _ _ _ _ _=>none
 | n+1=>fun dA eA cA bA aA=>sh6 dA eA cA bA aA f5 (f8 (f6 n))
noncomputable def f2 (bA:List Node) (aA:List Lnk):R:=sh2 bA aA (f6 100000)
noncomputable def f4 (k3:Y3) (iA:List Node) (jA:Int) (fA:Int) (bA:List Node) (aA:List Lnk):R:=sh4 iA jA fA bA aA k3
noncomputable def f3:Nat→Y3
 | 0=>fun _ _ _ _ _=>none
 | n+1=>fun iA jA fA bA aA=>sh3 iA jA fA bA aA f2 (f4 (f3 n))
noncomputable def f1 (bA:List Node) (aA:List Lnk):R:=sh1 bA aA (f3 100000)
noncomputable def f0 (n:Net):R:=sh0 n f1
theorem T5:(hid ct5) (fr5)=f5:=by
 refine (congrFun (hid_eq _) _).trans <| (P5).trans ?_
 show _=sh5
 rfl
theorem T7 (KL6:Kont U El) (k6:Y6) (h6:∀ dA eA cA bA aA,KL6 (fr6 dA eA cA bA aA)=k6 dA eA cA bA aA) (dA eA cA bA aA):(hid (ct7 (hid ct5) KL6)) (fr7 dA eA cA bA aA)=f7 k6 dA eA cA bA aA:=by
 refine (congrFun (hid_eq _) _).trans <| (P7 dA eA cA bA aA (hid ct5) KL6).trans ?_
 show _=sh7 dA eA cA bA aA k6
 simp only [h6]
theorem T8 (KL6:Kont U El) (k6:Y6) (h6:∀ dA eA cA bA aA,KL6 (fr6 dA eA cA bA aA)=k6 dA eA cA bA aA) (dA eA cA bA aA wA lA mA xA yA zA aB bB cB dB hA):(hid (ct8 (hid ct5) (hid (ct7 (hid ct5) KL6)))) (fr8 dA eA cA bA aA wA lA mA xA yA zA aB bB cB dB hA)=f8 k6 dA eA cA bA aA wA lA mA xA yA zA aB bB cB dB hA:=by
 refine (congrFun (hid_eq _) _).trans <| (P8 dA eA cA bA aA wA lA mA xA yA zA aB bB cB dB hA (hid ct5) (hid (ct7 (hid ct5) KL6))).trans ?_
 show _=sh8 dA eA cA bA aA wA lA mA xA yA zA aB bB cB dB hA (f7 k6)
 simp only [T7 KL6 k6 h6]
theorem T6:∀ (n:Nat),∀ dA eA cA bA aA,it6 (hid ct5) n (fr6 dA eA cA bA aA)=f6 n dA eA cA bA aA:=by
  intro n
  induction n with
  | zero=>intros; rfl
  | succ n ih =>
    intro dA eA cA bA aA
    refine (P6 dA eA cA bA aA (hid ct5) (it6 (hid ct5) n)).trans ?_
    show _=sh6 dA eA cA bA aA f5 (f8 (f6 n))
    simp only [T5,T8 (it6 (hid ct5) n) (f6 n) ih]
theorem H6 (dA eA cA bA aA):hid (it6 (hid ct5) 100000) (fr6 dA eA cA bA aA)=f6 100000 dA eA cA bA aA:=(congrFun (hid_eq _) _).trans (T6 100000 dA eA cA bA aA)
theorem T2 (bA aA):(hid ct2) (fr2 bA aA)=f2 bA aA:=by
 refine (congrFun (hid_eq _) _).trans <| (P2 bA aA).trans ?_
 show _=sh2 bA aA (f6 100000)
 simp only [H6]
theorem T4 (KL3:Kont U El) (k3:Y3) (h3:∀ iA jA fA bA aA,KL3 (fr3 iA jA fA bA aA)=k3 iA jA fA bA aA) (iA jA fA bA aA):(hid (ct4 (hid ct2) KL3)) (fr4 iA jA fA bA aA)=f4 k3 iA jA fA bA aA:=by
 refine (congrFun (hid_eq _) _).trans <| (P4 iA jA fA bA aA (hid ct2) KL3).trans ?_
 show _=sh4 iA jA fA bA aA k3
 simp only [h3]
theorem T3:∀ (n:Nat),∀ iA jA fA bA aA,it3 (hid ct2) n (fr3 iA jA fA bA aA)=f3 n iA jA fA bA aA:=by
  intro n
  induction n with
  | zero=>intros; rfl
  | succ n ih =>
    intro iA jA fA bA aA
    refine (P3 iA jA fA bA aA (hid ct2) (it3 (hid ct2) n)).trans ?_
    show _=sh3 iA jA fA bA aA f2 (f4 (f3 n))
    simp only [T2,T4 (it3 (hid ct2) n) (f3 n) ih]
theorem H3 (iA jA fA bA aA):hid (it3 (hid ct2) 100000) (fr3 iA jA fA bA aA)=f3 100000 iA jA fA bA aA:=(congrFun (hid_eq _) _).trans (T3 100000 iA jA fA bA aA)
theorem T1 (bA aA):(hid ct1) (fr1 bA aA)=f1 bA aA:=by
 refine (congrFun (hid_eq _) _).trans <| (P1 bA aA).trans ?_
 show _=sh1 bA aA (f3 100000)
 simp only [H3]
theorem T0 (n):exec X bd (.seq none .d (.seq (some nm1) .d (.seq (some nm2) (.seq none .d (.block (.loop nm3 (.seq none .d (.seq none .d (.seq (some nm4) .d .d)))))) (.seq (some nm5) (.seq none .d (.block (.loop nm6 (.seq none .d (.seq none .d (.seq (some nm7) (.block (.seq none .d (.seq (some nm8) .d .d))) .d)))))) .d)))) (fr0 n) RR (fun _ _=>none) RR=f0 n:=by
 refine (P0 n).trans ?_
 show _=sh0 n f1
 simp only [T1]
theorem run (n):runFn X bd (.seq none .d (.seq (some nm1) .d (.seq (some nm2) (.seq none .d (.block (.loop nm3 (.seq none .d (.seq none .d (.seq (some nm4) .d .d)))))) (.seq (some nm5) (.seq none .d (.block (.loop nm6 (.seq none .d (.seq none .d (.seq (some nm7) (.block (.seq none .d (.seq (some nm8) .d .d))) .d)))))) .d)))) nmR [2] [] [(.agg [(.lst .node n.nds),(.lst .link n.lks)])]=f0 n:=T0 n
theorem f0_eq (n : Net) (h : okN n = true) : f0 n = outB (netB n) := by
  obtain ⟨nds,lks⟩:=n
  have hn:∀ nds' lks',(⟨nds',lks'⟩:Net)=⟨nds',lks'⟩:=fun _ _=>rfl
  have hl1:=nleI (okN_nds h)
  have hl2:=nleI (okN_lks h)
  have hv:=okN_lv h
  simp only at hl1 hl2 hv
  show sh0 ⟨nds,lks⟩ f1=_
  unfold sh0 netB
  simp only
  by_cases h1:(300:Int) < Int.ofNat nds.length
  · rw [iltT h1]; rfl
  · by_cases h2 : (400 : Int) < Int.ofNat lks.length
    · rw [iltF h1,iltT h2]; rfl
    · rw [iltF h1, iltF h2]
      show f1 nds lks=_
      have e2 : f2 nds lks = outB (allI (fun i x => !(linkBad ⟨nds, lks⟩ i x)) 0 lks) := by
        refine (grun_eq lks (by omega) (fun n_ (_:Unit) i_=>f6 n_ lks (Int.ofNat lks.length) i_ nds lks) (fun u i x k=>condB (linkBad ⟨nds,lks⟩ i x) (outB false) (k u)) (fun _=>outB true) (fun n_ u_ i_ hi_=>?_) (fun n_ u_=>?_) 100000 0 () (by omega) (by omega)).trans ((grun_bad (linkBad ⟨nds,lks⟩) (fun _=>outB true) false lks 0).trans ?_)
        · show sh6 lks (Int.ofNat lks.length) i_ nds lks f5 (f8 (f6 n_)) = condB (linkBad ⟨nds, lks⟩ i_ lks[i_]) (outB false) (f6 n_ lks (Int.ofNat lks.length) (IntKind.wrap .i64 ((i_ : Int) + 1)) nds lks)
          unfold sh6
          rw [iltT (by simp; omega),inbT hi_,toNat_nat,getD_lt hi_,hv _ (List.getElem_mem hi_),h]
          generalize lks[i_]=x
          have e8:f8 (f6 n_) lks (Int.ofNat lks.length) (i_:Int) nds lks x.ln x.lf x.lt x.lk x.ll x.lu x.ld x.lc x.lw x.lh x.lv=condB (ilt (nodeZ ⟨nds,lks⟩ x.lf) 0||(ilt (nodeZ ⟨nds,lks⟩ x.lt) 0||((List.getD nds (Int.toNat (nodeZ ⟨nds,lks⟩ x.lf)) d_node).nk == 3))) (outB false) (f6 n_ lks (Int.ofNat lks.length) (IntKind.wrap .i64 ((i_:Int)+1)) nds lks):=by
            show sh8 lks (Int.ofNat lks.length) (i_:Int) nds lks x.ln x.lf x.lt x.lk x.ll x.lu x.ld x.lc x.lw x.lh x.lv (f7 (f6 n_))=_
            unfold sh8
            rw [h]
            have e7:f7 (f6 n_) lks (Int.ofNat lks.length) (i_:Int) nds lks=f6 n_ lks (Int.ofNat lks.length) (IntKind.wrap .i64 ((i_:Int)+1)) nds lks:=rfl
            rw [e7]
            by_cases hz:nodeZ ⟨nds,lks⟩ x.lf < 0
            · rw [iltT hz]; rfl
            · rw [iltF hz, nodeZ_inb hz]
              simp only [chkT,condF,oB,cOr2,Bool.false_or]
          rw [e8]
          simp only [chkT,condT,oB,cOr2]
          rfl
        · show sh6 lks (Int.ofNat lks.length) (lks.length : Int) nds lks f5 (f8 (f6 n_)) = _
          unfold sh6
          rw [iltF (by simp)]
          rfl
        · cases allI (fun i x=>!linkBad ⟨nds,lks⟩ i x) 0 lks<;>rfl
      refine (grun_eq nds (by omega) (fun n_ (_:Unit) i_=>f3 n_ nds (Int.ofNat nds.length) i_ nds lks) (fun u i x k=>condB (nodeBad ⟨nds,lks⟩ i x) (outB false) (k u)) (fun _=>f2 nds lks) (fun n_ u_ i_ hi_=>?_) (fun n_ u_=>?_) 100000 0 () (by omega) (by omega)).trans ((grun_bad (nodeBad ⟨nds,lks⟩) (fun _=>f2 nds lks) false nds 0).trans ?_)
      · show sh3 nds (Int.ofNat nds.length) i_ nds lks f2 (f4 (f3 n_)) = condB (nodeBad ⟨nds, lks⟩ i_ nds[i_]) (outB false) (f3 n_ nds (Int.ofNat nds.length) (IntKind.wrap .i64 ((i_ : Int) + 1)) nds lks)
        unfold sh3
        rw [iltT (by simp; omega),inbT hi_,toNat_nat,getD_lt hi_,h]
        have e7:f4 (f3 n_) nds (Int.ofNat nds.length) (i_:Int) nds lks=f3 n_ nds (Int.ofNat nds.length) (IntKind.wrap .i64 ((i_:Int)+1)) nds lks:=rfl
        rw [e7]
        simp only [chkT,condT,oB,cOr2]
        rfl
      · show sh3 nds (Int.ofNat nds.length) (nds.length : Int) nds lks f2 (f4 (f3 n_)) = _
        unfold sh3
        rw [iltF (by simp)]
        rfl
      · rw [e2]
        exact cAnd outB _ _
theorem ok:CtxOk Tryz.prog X:=ctxOk tab (spC nlink.spOk (spC rightNode.spOk (spC nnode.spOk (spC rightLink.spOk spN)))) dpN
theorem okM:MOk Tryz.prog X:=fun g sp h=>by cases h
theorem spec (n:Net) (h:(okN n)=true):CallSpec Tryz.prog E 102 [(.agg [(.lst .node n.nds),(.lst .link n.lks)])] (.bool (netB n)) [] :=
 rfs ok okM Tryz.call102 Tryz.func102 ((run n).trans (f0_eq n h))
noncomputable def sp:Sp U El:=fun args k=>match args with
 | [.agg [.lst .node n_nds,.lst .link n_lks]]=>chk (okN (⟨n_nds,n_lks⟩:Net)) (k (.bool (netB (⟨n_nds,n_lks⟩:Net))) [])
 | _=>none
theorem spOk:SpOk Tryz.prog E 102 sp:=⟨fun vs=>by unfold sp;split;exact det_c _ _ _;exact ⟨none,fun _=>rfl⟩,fun vs k r h=>by unfold sp at h;split at h;(obtain ⟨h1,h2⟩:=chk_some h;exact ⟨_,_,spec ⟨_,_⟩ h1,h2⟩);cases h⟩
end nvalid
namespace rnvalid
noncomputable def bd:Code:=(Tryz.f38.body).getD .skip
noncomputable def X:Ctx U El:=⟨E,tds,zeros,eqs,specOf [(76,rfindLink.sp),(82,rrightNode.sp),(83,rfindNode.sp),(84,rrightLink.sp)],100000,88,dspecOf [],fun _=>none,fun _=>none⟩
noncomputable def nmR:Norm U:=⟨[],[2],[],[],[],[],[]⟩
noncomputable def RR:Kont U El:=fun st=>normK nmR st (retFin [2] [])
noncomputable def nm1:Norm U:=⟨[],[1],[1],[],[],[],[(1,0,.node),(1,1,.link)]⟩
noncomputable def nm2:Norm U:=⟨[],[1],[1],[],[],[],[(1,0,.node),(1,1,.link)]⟩
noncomputable def nm3:Norm U:=⟨[],[1,3],[1],[],[],[],[(1,0,.node),(1,1,.link)]⟩
noncomputable def nm4:Norm U:=⟨[],[1,3],[1],[],[],[],[(1,0,.node),(1,1,.link)]⟩
noncomputable def nm5:Norm U:=⟨[],[],[],[],[],[],[]⟩
noncomputable def nm6:Norm U:=⟨[],[1,4],[1],[],[],[],[(1,0,.node),(1,1,.link)]⟩
noncomputable def nm7:Norm U:=⟨[],[1,4],[1],[],[],[],[(1,0,.node),(1,1,.link)]⟩
noncomputable def nm8:Norm U:=⟨[],[1,4,5],[1,5],[],[],[],[(1,0,.node),(1,1,.link),(5,10,.knot)]⟩
abbrev Y1:=(List Node)→(List Lnk)→R
abbrev Y2:=(List Node)→(List Lnk)→R
abbrev Y3:=Int→(List Node)→(List Lnk)→R
abbrev Y4:=Int→(List Node)→(List Lnk)→R
abbrev Y5:=R
abbrev Y6:=Int→(List Node)→(List Lnk)→R
abbrev Y7:=Int→(List Node)→(List Lnk)→R
abbrev Y8:=Int→(List Node)→(List Lnk)→(List UInt8)→(List UInt8)→(List UInt8)→Int→Int→Int→Int→(List UInt8)→Int→Int→(List Knot)→R
noncomputable def fr0 (n:Net):St U El:=⟨[(0,(.agg [(.lst .node n.nds),(.lst .link n.lks)]))],[]⟩
noncomputable def fr1 (bA:List Node) (aA:List Lnk):St U El:=⟨[(1,(.ptr 1 0))],[(1,(.box 0 [(.lst .node bA),(.lst .link aA)]))]⟩
noncomputable def fr2 (bA:List Node) (aA:List Lnk):St U El:=⟨[(1,(.ptr 1 0))],[(1,(.box 0 [(.lst .node bA),(.lst .link aA)]))]⟩
noncomputable def fr3 (i3:Int) (bA:List Node) (aA:List Lnk):St U El:=⟨[(1,(.ptr 1 0)),(3,(.int .i64 i3))],[(1,(.box 0 [(.lst .node bA),(.lst .link aA)]))]⟩
noncomputable def fr4 (i3:Int) (bA:List Node) (aA:List Lnk):St U El:=⟨[(1,(.ptr 1 0)),(3,(.int .i64 i3))],[(1,(.box 0 [(.lst .node bA),(.lst .link aA)]))]⟩
noncomputable def fr5:St U El:=⟨[],[]⟩
noncomputable def fr6 (i4:Int) (bA:List Node) (aA:List Lnk):St U El:=⟨[(1,(.ptr 1 0)),(4,(.int .i64 i4))],[(1,(.box 0 [(.lst .node bA),(.lst .link aA)]))]⟩
noncomputable def fr7 (i4:Int) (bA:List Node) (aA:List Lnk):St U El:=⟨[(1,(.ptr 1 0)),(4,(.int .i64 i4))],[(1,(.box 0 [(.lst .node bA),(.lst .link aA)]))]⟩
noncomputable def fr8 (i4:Int) (bA:List Node) (aA:List Lnk) (nA:List UInt8) (kA:List UInt8) (oA:List UInt8) (pA:Int) (qA:Int) (rA:Int) (sA:Int) (tA:List UInt8) (uA:Int) (vA:Int) (gA:List Knot):St U El:=⟨[(1,(.ptr 1 0)),(4,(.int .i64 i4)),(5,(.ptr 5 0))],[(1,(.box 0 [(.lst .node bA),(.lst .link aA)])),(5,(.box 0 [(.str nA),(.str kA),(.str oA),(.int .i64 pA),(.int .i64 qA),(.int .i64 rA),(.int .i64 sA),(.str tA),(.int .i64 uA),(.int .i64 vA),(.lst .knot gA)]))]⟩
noncomputable def sh0 (n:Net) (k1:Y1):R :=
 condB (ilt (300:Int) (Int.ofNat (List.length n.nds))) (some ((.bool false),[])) (condB (ilt (400:Int) (Int.ofNat (List.length n.lks))) (some ((.bool false),[])) (k1 n.nds n.lks))
noncomputable def sh1 (bA:List Node) (aA:List Lnk) (k3:Y3):R :=
 k3 (0:Int) bA aA
noncomputable def sh2 (bA:List Node) (aA:List Lnk) (k6:Y6):R :=
 k6 (0:Int) bA aA
noncomputable def sh3 (i3:Int) (bA:List Node) (aA:List Lnk) (k2:Y2) (k4:Y4):R :=
 condB (ilt i3 (Int.ofNat (List.length bA))) (chk (inb i3 (List.length bA)) (condB (!(nodeB (List.getD bA (Int.toNat i3) d_node))) (some ((.bool false),[])) (chk (inb i3 (List.length bA)) (chk (okN (⟨bA,aA⟩:Net)) (condB ((nodeZ (⟨bA,aA⟩:Net) ((List.getD bA (Int.toNat i3) d_node).nn)) != i3) (some ((.bool false),[])) (k4 i3 bA aA)))))) (k2 bA aA)
noncomputable def sh4 (i3:Int) (bA:List Node) (aA:List Lnk) (k3:Y3):R :=
 k3 (IntKind.wrap .i64 (i3+(1:Int))) bA aA
noncomputable def sh5:R :=
 some ((.bool true),[])
noncomputable def sh6 (i4:Int) (bA:List Node) (aA:List Lnk) (k5:Y5) (k8:Y8):R :=
 condB (ilt i4 (Int.ofNat (List.length aA))) (chk (inb i4 (List.length aA)) (condB (!(linkB (List.getD aA (Int.toNat i4) d_link))) (some ((.bool false),[])) (chk (okN (⟨bA,aA⟩:Net)) (condB ((linkZ (⟨bA,aA⟩:Net) ((List.getD aA (Int.toNat i4) d_link).ln)) != i4) (some ((.bool false),[])) (chk (okN (⟨bA,aA⟩:Net)) (condB (ilt (nodeZ (⟨bA,aA⟩:Net) ((List.getD aA (Int.toNat i4) d_link).lt)) (0:Int)) (some ((.bool false),[])) (k8 i4 bA aA ((List.getD aA (Int.toNat i4) d_link).ln) ((List.getD aA (Int.toNat i4) d_link).lf) ((List.getD aA (Int.toNat i4) d_link).lt) ((List.getD aA (Int.toNat i4) d_link).lk) ((List.getD aA (Int.toNat i4) d_link).ll) ((List.getD aA (Int.toNat i4) d_link).lu) ((List.getD aA (Int.toNat i4) d_link).ld) ((List.getD aA (Int.toNat i4) d_link).lc) ((List.getD aA (Int.toNat i4) d_link).lw) ((List.getD aA (Int.toNat i4) d_link).lh) ((List.getD aA (Int.toNat i4) d_link).lv)))))))) (k5)
noncomputable def sh7 (i4:Int) (bA:List Node) (aA:List Lnk) (k6:Y6):R :=
 k6 (IntKind.wrap .i64 (i4+(1:Int))) bA aA
noncomputable def sh8 (i4:Int) (bA:List Node) (aA:List Lnk) (nA:List UInt8) (kA:List UInt8) (oA:List UInt8) (pA:Int) (qA:Int) (rA:Int) (sA:Int) (tA:List UInt8) (uA:Int) (vA:Int) (gA:List Knot) (k7:Y7):R :=
 chk (okN (⟨bA,aA⟩:Net)) (condB (ilt (nodeZ (⟨bA,aA⟩:Net) kA) (0:Int)) (some ((.bool false),[])) (chk (inb (nodeZ (⟨bA,aA⟩:Net) kA) (List.length bA)) (condB ((List.getD bA (Int.toNat (nodeZ (⟨bA,aA⟩:Net) kA)) d_node).nk == (3:Int)) (some ((.bool false),[])) (k7 i4 bA aA))))
noncomputable def it3 (Kb2:Kont U El) (n:Nat):Kont U El:=iter nm3 (fun st' K'=>exec X (cdp [1,1,0,1,0,0] bd) (.seq none .d (.seq (some nm4) .d .d)) st' K' (Eblk 0 (cutK nm2 Kb2) (fun _ _=>none)) RR) n
noncomputable def it6 (Kb5:Kont U El) (n:Nat):Kont U El:=iter nm6 (fun st' K'=>exec X (cdp [1,1,1,0,1,0,0] bd) (.seq none .d (.seq (some nm7) (.block (.seq none .d (.seq (some nm8) .d .d))) .d)) st' K' (Eblk 2 (cutK nm5 Kb5) (fun _ _=>none)) RR) n
noncomputable def ct1:Kont U El:=fun st=>exec X (cdp [1,1] bd) (.seq (some nm2) (.seq none .d (.block (.loop nm3 (.seq none .d (.seq (some nm4) .d .d))))) (.seq (some nm5) (.seq none .d (.block (.loop nm6 (.seq none .d (.seq (some nm7) (.block (.seq none .d (.seq (some nm8) .d .d))) .d))))) .d)) st RR (fun _ _=>none) RR
noncomputable def ct2:Kont U El:=fun st=>exec X (cdp [1,1,1] bd) (.seq (some nm5) (.seq none .d (.block (.loop nm6 (.seq none .d (.seq (some nm7) (.block (.seq none .d (.seq (some nm8) .d .d))) .d))))) .d) st RR (fun _ _=>none) RR
noncomputable def ct4 (Kb2 Kb3:Kont U El):Kont U El:=fun st=>exec X (cdp [1,1,0,1,0,0,1,1] bd) .d st (cutK nm3 Kb3) (Eblk 0 (cutK nm2 Kb2) (fun _ _=>none)) RR
noncomputable def ct5:Kont U El:=fun st=>exec X (cdp [1,1,1,1] bd) .d st RR (fun _ _=>none) RR
noncomputable def ct7 (Kb5 Kb6:Kont U El):Kont U El:=fun st=>exec X (cdp [1,1,1,0,1,0,0,1,1] bd) .d st (cutK nm6 Kb6) (Eblk 2 (cutK nm5 Kb5) (fun _ _=>none)) RR
noncomputable def ct8 (Kb5 Kb7:Kont U El):Kont U El:=fun st=>exec X (cdp [1,1,1,0,1,0,0,1,0,0,1,1] bd) .d st (cutK nm7 Kb7) (Eblk 3 (cutK nm7 Kb7) (Eblk 2 (cutK nm5 Kb5) (fun _ _=>none))) RR
theorem P0 (n):exec X (cdp [] bd) (.seq none .d (.seq (some nm1) .d (.seq (some nm2) (.seq none .d (.block (.loop nm3 (.seq none .d (.seq (some nm4) .d .d))))) (.seq (some nm5) (.seq none .d (.block (.loop nm6 (.seq none .d (.seq (some nm7) (.block (.seq none .d (.seq (some nm8) .d .d))) .d))))) .d)))) (fr0 n) RR (fun _ _=>none) RR=sh0 n (fun y0 y1=>(hid ct1) (fr1 y0 y1)):=by kernel_rfl
theorem P1 (bA aA):ct1 (fr1 bA aA)=sh1 bA aA (fun y0 y1 y2=>(hid (it3 (hid ct2) 100000)) (fr3 y0 y1 y2)):=by kernel_rfl
theorem P2 (bA aA):ct2 (fr2 bA aA)=sh2 bA aA (fun y0 y1 y2=>(hid (it6 (hid ct5) 100000)) (fr6 y0 y1 y2)):=by kernel_rfl
theorem P3 (i3 bA aA) (Kb2 Kb3:Kont U El):exec X (cdp [1,1,0,1,0,0] bd) (.seq none .d (.seq (some nm4) .d .d)) (fr3 i3 bA aA) (cutK nm3 Kb3) (Eblk 0 (cutK nm2 Kb2) (fun _ _=>none)) RR=sh3 i3 bA aA (fun y0 y1=>Kb2 (fr2 y0 y1)) (fun y0 y1 y2=>(hid (ct4 Kb2 Kb3)) (fr4 y0 y1 y2)):=by kernel_rfl
theorem P4 (i3 bA aA) (Kb2 Kb3:Kont U El):ct4 Kb2 Kb3 (fr4 i3 bA aA)=sh4 i3 bA aA (fun y0 y1 y2=>Kb3 (fr3 y0 y1 y2)):=by kernel_rfl
theorem P5:ct5 (fr5)=sh5:=by kernel_rfl
theorem P6 (i4 bA aA) (Kb5 Kb6:Kont U El):exec X (cdp [1,1,1,0,1,0,0] bd) (.seq none .d (.seq (some nm7) (.block (.seq none .d (.seq (some nm8) .d .d))) .d)) (fr6 i4 bA aA) (cutK nm6 Kb6) (Eblk 2 (cutK nm5 Kb5) (fun _ _=>none)) RR=sh6 i4 bA aA (Kb5 (fr5)) (fun y0 y1 y2 y3 y4 y5 y6 y7 y8 y9 y10 y11 y12 y13=>(hid (ct8 Kb5 (hid (ct7 Kb5 Kb6)))) (fr8 y0 y1 y2 y3 y4 y5 y6 y7 y8 y9 y10 y11 y12 y13)):=by kernel_rfl
theorem P7 (i4 bA aA) (Kb5 Kb6:Kont U El):ct7 Kb5 Kb6 (fr7 i4 bA aA)=sh7 i4 bA aA (fun y0 y1 y2=>Kb6 (fr6 y0 y1 y2)):=by kernel_rfl
theorem P8 (i4 bA aA nA kA oA pA qA rA sA tA uA vA gA) (Kb5 Kb7:Kont U El):ct8 Kb5 Kb7 (fr8 i4 bA aA nA kA oA pA qA rA sA tA uA vA gA)=sh8 i4 bA aA nA kA oA pA qA rA sA tA uA vA gA (fun y0 y1 y2=>Kb7 (fr7 y0 y1 y2)):=by kernel_rfl
noncomputable def f5:R:=sh5
noncomputable def f7 (k6:Y6) (i4:Int) (bA:List Node) (aA:List Lnk):R:=sh7 i4 bA aA k6
noncomputable def f8 (k6:Y6) (i4:Int) (bA:List Node) (aA:List Lnk) (nA:List UInt8) (kA:List UInt8) (oA:List UInt8) (pA:Int) (qA:Int) (rA:Int) (sA:Int) (tA:List UInt8) (uA:Int) (vA:Int) (gA:List Knot):R:=sh8 i4 bA aA nA kA oA pA qA rA sA tA uA vA gA (f7 k6)
noncomputable def f6:Nat→Y6
 | 0=>fun _ _ _=>none
 | n+1=>fun i4 bA aA=>sh6 i4 bA aA f5 (f8 (f6 n))
noncomputable def f2 (bA:List Node) (aA:List Lnk):R:=sh2 bA aA (f6 100000)
noncomputable def f4 (k3:Y3) (i3:Int) (bA:List Node) (aA:List Lnk):R:=sh4 i3 bA aA k3
noncomputable def f3:Nat→Y3
 | 0=>fun _ _ _=>none
 | n+1=>fun i3 bA aA=>sh3 i3 bA aA f2 (f4 (f3 n))
noncomputable def f1 (bA:List Node) (aA:List Lnk):R:=sh1 bA aA (f3 100000)
noncomputable def f0 (n:Net):R:=sh0 n f1
theorem T5:(hid ct5) (fr5)=f5:=by
 refine (congrFun (hid_eq _) _).trans <| (P5).trans ?_
 show _=sh5
 rfl
theorem T7 (KL6:Kont U El) (k6:Y6) (h6:∀ i4 bA aA,KL6 (fr6 i4 bA aA)=k6 i4 bA aA) (i4 bA aA):(hid (ct7 (hid ct5) KL6)) (fr7 i4 bA aA)=f7 k6 i4 bA aA:=by
 refine (congrFun (hid_eq _) _).trans <| (P7 i4 bA aA (hid ct5) KL6).trans ?_
 show _=sh7 i4 bA aA k6
 simp only [h6]
theorem T8 (KL6:Kont U El) (k6:Y6) (h6:∀ i4 bA aA,KL6 (fr6 i4 bA aA)=k6 i4 bA aA) (i4 bA aA nA kA oA pA qA rA sA tA uA vA gA):(hid (ct8 (hid ct5) (hid (ct7 (hid ct5) KL6)))) (fr8 i4 bA aA nA kA oA pA qA rA sA tA uA vA gA)=f8 k6 i4 bA aA nA kA oA pA qA rA sA tA uA vA gA:=by
 refine (congrFun (hid_eq _) _).trans <| (P8 i4 bA aA nA kA oA pA qA rA sA tA uA vA gA (hid ct5) (hid (ct7 (hid ct5) KL6))).trans ?_
 show _=sh8 i4 bA aA nA kA oA pA qA rA sA tA uA vA gA (f7 k6)
 simp only [T7 KL6 k6 h6]
theorem T6:∀ (n:Nat),∀ i4 bA aA,it6 (hid ct5) n (fr6 i4 bA aA)=f6 n i4 bA aA:=by
  intro n
  induction n with
  | zero=>intros; rfl
  | succ n ih =>
    intro i4 bA aA
    refine (P6 i4 bA aA (hid ct5) (it6 (hid ct5) n)).trans ?_
    show _=sh6 i4 bA aA f5 (f8 (f6 n))
    simp only [T5,T8 (it6 (hid ct5) n) (f6 n) ih]
theorem H6 (i4 bA aA):hid (it6 (hid ct5) 100000) (fr6 i4 bA aA)=f6 100000 i4 bA aA:=(congrFun (hid_eq _) _).trans (T6 100000 i4 bA aA)
theorem T2 (bA aA):(hid ct2) (fr2 bA aA)=f2 bA aA:=by
 refine (congrFun (hid_eq _) _).trans <| (P2 bA aA).trans ?_
 show _=sh2 bA aA (f6 100000)
 simp only [H6]
theorem T4 (KL3:Kont U El) (k3:Y3) (h3:∀ i3 bA aA,KL3 (fr3 i3 bA aA)=k3 i3 bA aA) (i3 bA aA):(hid (ct4 (hid ct2) KL3)) (fr4 i3 bA aA)=f4 k3 i3 bA aA:=by
 refine (congrFun (hid_eq _) _).trans <| (P4 i3 bA aA (hid ct2) KL3).trans ?_
 show _=sh4 i3 bA aA k3
 simp only [h3]
theorem T3:∀ (n:Nat),∀ i3 bA aA,it3 (hid ct2) n (fr3 i3 bA aA)=f3 n i3 bA aA:=by
  intro n
  induction n with
  | zero=>intros; rfl
  | succ n ih =>
    intro i3 bA aA
    refine (P3 i3 bA aA (hid ct2) (it3 (hid ct2) n)).trans ?_
    show _=sh3 i3 bA aA f2 (f4 (f3 n))
    simp only [T2,T4 (it3 (hid ct2) n) (f3 n) ih]
theorem H3 (i3 bA aA):hid (it3 (hid ct2) 100000) (fr3 i3 bA aA)=f3 100000 i3 bA aA:=(congrFun (hid_eq _) _).trans (T3 100000 i3 bA aA)
theorem T1 (bA aA):(hid ct1) (fr1 bA aA)=f1 bA aA:=by
 refine (congrFun (hid_eq _) _).trans <| (P1 bA aA).trans ?_
 show _=sh1 bA aA (f3 100000)
 simp only [H3]
theorem T0 (n):exec X bd (.seq none .d (.seq (some nm1) .d (.seq (some nm2) (.seq none .d (.block (.loop nm3 (.seq none .d (.seq (some nm4) .d .d))))) (.seq (some nm5) (.seq none .d (.block (.loop nm6 (.seq none .d (.seq (some nm7) (.block (.seq none .d (.seq (some nm8) .d .d))) .d))))) .d)))) (fr0 n) RR (fun _ _=>none) RR=f0 n:=by
 refine (P0 n).trans ?_
 show _=sh0 n f1
 simp only [T1]
theorem run (n):runFn X bd (.seq none .d (.seq (some nm1) .d (.seq (some nm2) (.seq none .d (.block (.loop nm3 (.seq none .d (.seq (some nm4) .d .d))))) (.seq (some nm5) (.seq none .d (.block (.loop nm6 (.seq none .d (.seq (some nm7) (.block (.seq none .d (.seq (some nm8) .d .d))) .d))))) .d)))) nmR [2] [] [(.agg [(.lst .node n.nds),(.lst .link n.lks)])]=f0 n:=T0 n
theorem f0_eq (n : Net) (h : okN n = true) : f0 n = outB (netB n) := by
  obtain ⟨nds,lks⟩:=n
  have hl1:=nleI (okN_nds h)
  have hl2:=nleI (okN_lks h)
  simp only at hl1 hl2
  show sh0 ⟨nds,lks⟩ f1=_
  unfold sh0 netB
  simp only
  by_cases h1:(300:Int) < Int.ofNat nds.length
  · rw [iltT h1]; rfl
  · by_cases h2 : (400 : Int) < Int.ofNat lks.length
    · rw [iltF h1,iltT h2]; rfl
    · rw [iltF h1, iltF h2]
      show f1 nds lks=_
      have e2 : f2 nds lks = outB (allI (fun i x => !(linkBad ⟨nds, lks⟩ i x)) 0 lks) := by
        refine (grun_eq lks (by omega) (fun n_ (_:Unit) i_=>f6 n_ i_ nds lks) (fun u i x k=>condB (linkBad ⟨nds,lks⟩ i x) (outB false) (k u)) (fun _=>outB true) (fun n_ u_ i_ hi_=>?_) (fun n_ u_=>?_) 100000 0 () (by omega) (by omega)).trans ((grun_bad (linkBad ⟨nds,lks⟩) (fun _=>outB true) false lks 0).trans ?_)
        · show sh6 i_ nds lks f5 (f8 (f6 n_)) = condB (linkBad ⟨nds, lks⟩ i_ lks[i_]) (outB false) (f6 n_ (IntKind.wrap .i64 ((i_ : Int) + 1)) nds lks)
          unfold sh6
          rw [iltT (by simp; omega),inbT hi_,toNat_nat,getD_lt hi_,h]
          generalize lks[i_]=x
          have e8:f8 (f6 n_) (i_:Int) nds lks x.ln x.lf x.lt x.lk x.ll x.lu x.ld x.lc x.lw x.lh x.lv=condB (ilt (nodeZ ⟨nds,lks⟩ x.lf) 0||((List.getD nds (Int.toNat (nodeZ ⟨nds,lks⟩ x.lf)) d_node).nk == 3)) (outB false) (f6 n_ (IntKind.wrap .i64 ((i_:Int)+1)) nds lks):=by
            show sh8 (i_:Int) nds lks x.ln x.lf x.lt x.lk x.ll x.lu x.ld x.lc x.lw x.lh x.lv (f7 (f6 n_))=_
            unfold sh8
            rw [h]
            have e7:f7 (f6 n_) (i_:Int) nds lks=f6 n_ (IntKind.wrap .i64 ((i_:Int)+1)) nds lks:=rfl
            rw [e7]
            by_cases hz:nodeZ ⟨nds,lks⟩ x.lf < 0
            · rw [iltT hz]; rfl
            · rw [iltF hz, nodeZ_inb hz]
              simp only [chkT,condF,oB,cOr2,Bool.false_or]
          rw [e8]
          simp only [chkT,condT,oB,cOr2]
          congr 1
          unfold linkBad
          simp only
          generalize ((List.getD nds (Int.toNat (nodeZ ⟨nds,lks⟩ x.lf)) d_node).nk == 3)=a,ilt (nodeZ ⟨nds,lks⟩ x.lf) 0=b,ilt (nodeZ ⟨nds,lks⟩ x.lt) 0=c,(linkZ ⟨nds,lks⟩ x.ln != (i_:Int))=d,linkB x=e
          revert a b c d e; decide
        · show sh6 (lks.length : Int) nds lks f5 (f8 (f6 n_)) = _
          unfold sh6
          rw [iltF (by simp)]
          rfl
        · cases allI (fun i x=>!linkBad ⟨nds,lks⟩ i x) 0 lks<;>rfl
      refine (grun_eq nds (by omega) (fun n_ (_:Unit) i_=>f3 n_ i_ nds lks) (fun u i x k=>condB (nodeBad ⟨nds,lks⟩ i x) (outB false) (k u)) (fun _=>f2 nds lks) (fun n_ u_ i_ hi_=>?_) (fun n_ u_=>?_) 100000 0 () (by omega) (by omega)).trans ((grun_bad (nodeBad ⟨nds,lks⟩) (fun _=>f2 nds lks) false nds 0).trans ?_)
      · show sh3 i_ nds lks f2 (f4 (f3 n_)) = condB (nodeBad ⟨nds, lks⟩ i_ nds[i_]) (outB false) (f3 n_ (IntKind.wrap .i64 ((i_ : Int) + 1)) nds lks)
        unfold sh3
        rw [iltT (by simp; omega),inbT hi_,toNat_nat,getD_lt hi_,h]
        have e7:f4 (f3 n_) (i_:Int) nds lks=f3 n_ (IntKind.wrap .i64 ((i_:Int)+1)) nds lks:=rfl
        rw [e7]
        simp only [chkT,condT,oB,cOr2]
        rfl
      · show sh3 (nds.length : Int) nds lks f2 (f4 (f3 n_)) = _
        unfold sh3
        rw [iltF (by simp)]
        rfl
      · rw [e2]
        exact cAnd outB _ _
theorem ok:CtxOk Tryz.prog X:=ctxOk tab (spC rfindLink.spOk (spC rrightNode.spOk (spC rfindNode.spOk (spC rrightLink.spOk spN)))) dpN
theorem okM:MOk Tryz.prog X:=fun g sp h=>by cases h
theorem spec (n:Net) (h:(okN n)=true):CallSpec Tryz.prog E 38 [(.agg [(.lst .node n.nds),(.lst .link n.lks)])] (.bool (netB n)) [] :=
 rfs ok okM Tryz.call38 Tryz.func38 ((run n).trans (f0_eq n h))
noncomputable def sp:Sp U El:=fun args k=>match args with
 | [.agg [.lst .node n_nds,.lst .link n_lks]]=>chk (okN (⟨n_nds,n_lks⟩:Net)) (k (.bool (netB (⟨n_nds,n_lks⟩:Net))) [])
 | _=>none
theorem spOk:SpOk Tryz.prog E 38 sp:=⟨fun vs=>by unfold sp;split;exact det_c _ _ _;exact ⟨none,fun _=>rfl⟩,fun vs k r h=>by unfold sp at h;split at h;(obtain ⟨h1,h2⟩:=chk_some h;exact ⟨_,_,spec ⟨_,_⟩ h1,h2⟩);cases h⟩
end rnvalid
namespace nLink
noncomputable def bd:Code:=(Tryz.f70.body).getD .skip
noncomputable def X:Ctx U El:=⟨E,tds,zeros,eqs,specOf [(102,nvalid.sp),(117,found.sp),(118,nlink.sp)],100000,16,dspecOf [],fun _=>none,fun _=>none⟩
noncomputable def nmR:Norm U:=⟨[],[4,5],[],[],[],[],[]⟩
noncomputable def RR:Kont U El:=fun st=>normK nmR st (retFin [4,5] [])
noncomputable def fr0 (n:Net) (s:List UInt8):St U El:=⟨[(0,(.agg [(.lst .node n.nds),(.lst .link n.lks)])),(1,(.str s))],[]⟩
noncomputable def sh0 (n:Net) (s:List UInt8):R :=
 chk (okN n) (condB (!(netB n)) (some ((.tup [(.int .i64 (0:Int)),(.int .i64 (1:Int))]),[])) (chk (okN n) (some ((.tup [(.int .i64 ((bif ilt (linkZ n s) 0 then 0 else (linkZ n s)))),(.int .i64 ((bif ilt (linkZ n s) 0 then 9 else 0)))]),[]))))
theorem P0 (n s):exec X (cdp [] bd) .d (fr0 n s) RR (fun _ _=>none) RR=sh0 n s:=by kernel_rfl
noncomputable def f0 (n:Net) (s:List UInt8):R:=sh0 n s
theorem T0 (n s):exec X bd .d (fr0 n s) RR (fun _ _=>none) RR=f0 n s:=by
 refine (P0 n s).trans ?_
 show _=sh0 n s
 rfl
theorem run (n s):runFn X bd .d nmR [4,5] [] [(.agg [(.lst .node n.nds),(.lst .link n.lks)]),(.str s)]=f0 n s:=T0 n s
theorem f0_eq (n:Net) (s:List UInt8) (h:okN n=true):f0 n s=some (.tup [.int .i64 (bif netB n then (bif ilt (linkZ n s) 0 then 0 else linkZ n s) else 0),.int .i64 (bif netB n then (bif ilt (linkZ n s) 0 then 9 else 0) else 1)],[]):=by
 show sh0 n s=_
 unfold sh0
 rw [h]
 cases netB n<;>rfl
theorem ok:CtxOk Tryz.prog X:=ctxOk tab (spC nvalid.spOk (spC found.spOk (spC nlink.spOk spN))) dpN
theorem okM:MOk Tryz.prog X:=fun g sp h=>by cases h
theorem spec (n:Net) (s:List UInt8) (h:(okN n)=true):CallSpec Tryz.prog E 70 [(.agg [(.lst .node n.nds),(.lst .link n.lks)]),(.str s)] (.tup [(.int .i64 ((bif netB n then (bif ilt (linkZ n s) 0 then 0 else linkZ n s) else 0))),(.int .i64 ((bif netB n then (bif ilt (linkZ n s) 0 then 9 else 0) else 1)))]) [] :=
 rfs ok okM Tryz.call70 Tryz.func70 ((run n s).trans (f0_eq n s h))
noncomputable def sp:Sp U El:=fun args k=>match args with
 | [.agg [.lst .node n_nds,.lst .link n_lks],.str s]=>chk (okN (⟨n_nds,n_lks⟩:Net)) (k (.tup [(.int .i64 ((bif netB (⟨n_nds,n_lks⟩:Net) then (bif ilt (linkZ (⟨n_nds,n_lks⟩:Net) s) 0 then 0 else linkZ (⟨n_nds,n_lks⟩:Net) s) else 0))),(.int .i64 ((bif netB (⟨n_nds,n_lks⟩:Net) then (bif ilt (linkZ (⟨n_nds,n_lks⟩:Net) s) 0 then 9 else 0) else 1)))]) [])
 | _=>none
theorem spOk:SpOk Tryz.prog E 70 sp:=⟨fun vs=>by unfold sp;split;exact det_c _ _ _;exact ⟨none,fun _=>rfl⟩,fun vs k r h=>by unfold sp at h;split at h;(obtain ⟨h1,h2⟩:=chk_some h;exact ⟨_,_,spec ⟨_,_⟩ _ h1,h2⟩);cases h⟩
end nLink
end Go.Proofs.YthdimnlkcgchoaaGreat
