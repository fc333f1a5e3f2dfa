/- Programs that fit a network. -/
import Derived.Test.YthdimnlkcgchoaaGreatVG
namespace Go.Proofs.YthdimnlkcgchoaaGreat
set_option linter.unusedSectionVars false
set_option linter.unusedSimpArgs false
set_option linter.unusedVariables false
set_option maxRecDepth 100000
theorem gf {α Q:Type} (q:Nat→α→Bool) (fin:Unit→Q) (v:Q):∀ (l:List α) (i:Nat),l7 (σ:=Unit) (fun _ i x k=>aa (q i x) v (k ())) fin () i l=aa (eJ (fun i x => !q i x) i l) (fin ()) v:=by
  intro l
  induction l with
  | nil=>intro i; rfl
  | cons x l ih =>
    intro i
    simp only [l7,eJ]
    cases q i x
    · exact ih (i+1)
    · rfl
noncomputable def aU (n:Net):List (List UInt8):=n.nds.map Node.nn
noncomputable def gL (n:Net) (s:List UInt8):Bool:=List.any n.nds (bk s)
noncomputable def d7 (n:Net) (r:Rule):Bool := !(ilt (aF n r.rl) 0)&&List.all r.rw (fun c=>gL n c.cn)
noncomputable def ca (l:List Rule) (n:Net):Bool:=List.all l (d7 n)
noncomputable def aV (l:List Rule) (n:Net):Int:=bif a6 l then (bif cz n then (bif ca l n then 0 else 9) else 1) else 1
theorem iZ (s:List UInt8):∀ (l:List Node) (i:Nat),aN (fun x=>x == s) i (l.map Node.nn)=aN (bk s) i l:=by
  intro l
  induction l with
  | nil=>intro i; rfl
  | cons x l ih =>
    intro i
    simp only [List.map_cons,aN,ih]
    rfl
theorem qV (z:Int):ilt z 0 = !(ile 0 z):=by rw [fv]
theorem j7 (n:Net) (s:List UInt8):ilt (aN (fun x=>x == s) 0 (aU n)) 0 = !(gL n s):=by
  unfold aU gL
  rw [iZ,qV,b8]
namespace rfind
noncomputable def bd:Code:=(Tryz.f122.body).getD .skip
noncomputable def X:Ctx U El:=⟨E,tds,zeros,eqs,aC [],100000,19,ap [],fun _=>none⟩
noncomputable def nmR:Norm U:=⟨[],[4],[],[],[],[],[]⟩
noncomputable def RR:ab U El:=fun st=>aE nmR st (aD [4] [])
noncomputable def nm1:Norm U:=⟨[],[],[],[],[],[],[]⟩
noncomputable def nm2:Norm U:=⟨[],[0,1,5],[],[],[],[],[]⟩
abbrev Y1:=R
abbrev Y2:=(List (List UInt8))→(List UInt8)→Int→R
noncomputable def fr0 (l:List (List UInt8)) (s:List UInt8):St U El:=⟨[(0,(.lst .str l)),(1,(.str s))],[]⟩
noncomputable def fr1:St U El:=⟨[],[]⟩
noncomputable def fr2 (l0:List (List UInt8)) (s1:List UInt8) (i5:Int):St U El:=⟨[(0,(.lst .str l0)),(1,(.str s1)),(5,(.int .i64 i5))],[]⟩
noncomputable def sh0 (l:List (List UInt8)) (s:List UInt8) (k2:Y2):R :=
  k2 l s (0:Int)
noncomputable def sh1:R :=
  some ((.int .i64 (-1:Int)),[])
noncomputable def sh2 (l0:List (List UInt8)) (s1:List UInt8) (i5:Int) (k1:Y1) (k2:Y2):R :=
  aa (ilt i5 (Int.ofNat (List.length l0))) (chk (inb i5 (List.length l0)) (aa ((List.getD l0 (Int.toNat i5) sN) == s1) (some ((.int .i64 i5),[])) (k2 l0 s1 (IntKind.wrap .i64 (i5+(1:Int)))))) (k1)
noncomputable def it2 (Kb1:ab U El) (n:Nat):ab U El:=bw nm2 (fun st' K'=>ac X (cdp [1,0,1,0,0] bd) .d st' K' (aq 0 (ah nm1 Kb1) (fun _ _=>none)) RR) n
noncomputable def ct1:ab U El:=fun st=>ac X (cdp [1,1] bd) .d st RR (fun _ _=>none) RR
theorem P0 (l s):ac X (cdp [] bd) (.seq none .d (.seq (some nm1) (.seq none .d (.block (.loop nm2 .d))) .d)) (fr0 l s) RR (fun _ _=>none) RR=sh0 l s (fun y0 y1 y2=>(hid (it2 (hid ct1) 100000)) (fr2 y0 y1 y2)):=by kernel_rfl
theorem P1:ct1 (fr1)=sh1:=by kernel_rfl
theorem P2 (l0 s1 i5) (Kb1 Kb2:ab U El):ac X (cdp [1,0,1,0,0] bd) .d (fr2 l0 s1 i5) (ah nm2 Kb2) (aq 0 (ah nm1 Kb1) (fun _ _=>none)) RR=sh2 l0 s1 i5 (Kb1 (fr1)) (fun y0 y1 y2=>Kb2 (fr2 y0 y1 y2)):=by kernel_rfl
noncomputable def f1:R:=sh1
noncomputable def f2:Nat→Y2
  | 0=>fun _ _ _=>none
  | n+1=>fun l0 s1 i5=>sh2 l0 s1 i5 f1 (f2 n)
noncomputable def f0 (l:List (List UInt8)) (s:List UInt8):R:=sh0 l s (f2 100000)
theorem T1:(hid ct1) (fr1)=f1:=by
  refine (congrFun (ai _) _).trans <| (P1).trans ?_
  show _=sh1
  rfl
theorem T2:∀ (n:Nat),∀ l0 s1 i5,it2 (hid ct1) n (fr2 l0 s1 i5)=f2 n l0 s1 i5:=by
  intro n
  induction n with
  | zero=>intros; rfl
  | succ n ih =>
    intro l0 s1 i5
    refine (P2 l0 s1 i5 (hid ct1) (it2 (hid ct1) n)).trans ?_
    show _=sh2 l0 s1 i5 f1 (f2 n)
    simp only [T1,ih]
theorem H2 (l0 s1 i5):hid (it2 (hid ct1) 100000) (fr2 l0 s1 i5)=f2 100000 l0 s1 i5:=(congrFun (ai _) _).trans (T2 100000 l0 s1 i5)
theorem T0 (l s):ac X bd (.seq none .d (.seq (some nm1) (.seq none .d (.block (.loop nm2 .d))) .d)) (fr0 l s) RR (fun _ _=>none) RR=f0 l s:=by
  refine (P0 l s).trans ?_
  show _=sh0 l s (f2 100000)
  simp only [H2]
theorem run (l s):aJ X bd (.seq none .d (.seq (some nm1) (.seq none .d (.block (.loop nm2 .d))) .d)) nmR [4] [] [(.lst .str l),(.str s)]=f0 l s:=T0 l s
theorem f0_eq (l:List (List UInt8)) (s:List UInt8) (h:nle (List.length l) 90000=true):f0 l s=bH (aN (fun x=>x == s) 0 l):=by
  have hl:=bQ h
  refine (bu l (by omega) (fun n_ (_:Unit) i_=>f2 n_ l s i_) _ (fun _=>bH (-1)) (fun n_ u_ i_ hi_ => ?_) (fun n_ u_ => ?_) 100000 0 () (by omega) (by omega)).trans (bM (fun x=>x == s) bH l 0)
  · show sh2 l s i_ f1 (f2 n_) = _
    unfold sh2
    rw [aX (by simp; omega),aW hi_,ak,ar hi_]
    rfl
  · show sh2 l s (l.length : Int) f1 (f2 n_) = _
    unfold sh2
    rw [aR (by simp)]
    rfl
theorem ok:CtxOk Tryz.prog X:=aI tab spN dpN
theorem okM:MOk Tryz.prog X:=fun g sp h=>by cases h
theorem spec (l:List (List UInt8)) (s:List UInt8) (h:(nle (List.length l) 90000)=true):aj Tryz.prog E 122 [(.lst .str l),(.str s)] (.int .i64 (aN (fun x=>x == s) 0 l)) [] :=
  ae ok okM Tryz.call122 Tryz.func122 (by kernel_rfl) (by kernel_rfl) (by kernel_rfl) (by show 2≤19; decide) (by decide) (by rfl) ((run l s).trans (f0_eq l s h))
noncomputable def sp:Sp U El:=fun args k=>match args with
  | [.lst .str l,.str s]=>chk (nle (List.length l) 90000) (k (.int .i64 (aN (fun x=>x == s) 0 l)) [])
  | _=>none
theorem spOk:SpOk Tryz.prog E 122 sp where
  det:=fun vs=>by
    unfold sp
    split
    · exact aY _ _ _
    · exact ⟨none,fun _=>rfl⟩
  ok:=fun vs k r h=>by
    unfold sp at h
    split at h
    · obtain ⟨h1, h2⟩ := af h
      exact ⟨_,_,spec _ _ h1,h2⟩
    · cases h
end rfind
namespace rnames
noncomputable def bd:Code:=(Tryz.f41.body).getD .skip
noncomputable def X:Ctx U El:=⟨E,tds,zeros,eqs,aC [],100000,22,ap [],fun _=>none⟩
noncomputable def nmR:Norm U:=⟨[(2,.str)],[2],[2],[],[],[],[]⟩
noncomputable def RR:ab U El:=fun st=>aE nmR st (aD [2] [2])
noncomputable def nm1:Norm U:=⟨[(3,.str)],[3],[3],[],[],[],[]⟩
noncomputable def nm2:Norm U:=⟨[(3,.str)],[1,3,4],[3,1],[],[],[],[(1,0,.node),(1,1,.link)]⟩
abbrev Y1:=(List (List UInt8))→R
abbrev Y2:=(List (List UInt8))→Int→(List Node)→(List Lnk)→R
noncomputable def fr0 (n:Net):St U El:=⟨[(0,(.agg [(.lst .node n.nds),(.lst .link n.lks)]))],[]⟩
noncomputable def fr1 (dA:List (List UInt8)):St U El:=⟨[(3,(.ful 3))],[(3,(.rows .str dA))]⟩
noncomputable def fr2 (dA:List (List UInt8)) (i4:Int) (hA:List Node) (iA:List Lnk):St U El:=⟨[(1,(.ptr 1 0)),(3,(.ful 3)),(4,(.int .i64 i4))],[(3,(.rows .str dA)),(1,(.box 0 [(.lst .node hA),(.lst .link iA)]))]⟩
noncomputable def sh0 (n:Net) (k2:Y2):R :=
  k2 ([]:List (List UInt8)) (0:Int) n.nds n.lks
noncomputable def sh1 (dA:List (List UInt8)):R :=
  some ((.ful 0),[(0,.rows .str dA)])
noncomputable def sh2 (dA:List (List UInt8)) (i4:Int) (hA:List Node) (iA:List Lnk) (k1:Y1) (k2:Y2):R :=
  aa (ilt i4 (Int.ofNat (List.length hA))) (chk (inb i4 (List.length hA)) (chk (nle ((List.length dA+List.length ([(List.getD hA (Int.toNat i4) aO).nn]:List (List UInt8))) * 16) 140737488355328&&nle (List.length dA+List.length ([(List.getD hA (Int.toNat i4) aO).nn]:List (List UInt8))) 9223372036854775807) (k2 (dA++([(List.getD hA (Int.toNat i4) aO).nn]:List (List UInt8))) (IntKind.wrap .i64 (i4+(1:Int))) hA iA))) (k1 dA)
noncomputable def it2 (Kb1:ab U El) (n:Nat):ab U El:=bw nm2 (fun st' K'=>ac X (cdp [1,1,0,1,0,0] bd) .d st' K' (aq 0 (ah nm1 Kb1) (fun _ _=>none)) RR) n
noncomputable def ct1:ab U El:=fun st=>ac X (cdp [1,1,1] bd) .d st RR (fun _ _=>none) RR
theorem P0 (n):ac X (cdp [] bd) (.seq none .d (.seq none .d (.seq (some nm1) (.seq none .d (.block (.loop nm2 .d))) .d))) (fr0 n) RR (fun _ _=>none) RR=sh0 n (fun y0 y1 y2 y3=>(hid (it2 (hid ct1) 100000)) (fr2 y0 y1 y2 y3)):=by kernel_rfl
theorem P1 (dA):ct1 (fr1 dA)=sh1 dA:=by kernel_rfl
theorem P2 (dA i4 hA iA) (Kb1 Kb2:ab U El):ac X (cdp [1,1,0,1,0,0] bd) .d (fr2 dA i4 hA iA) (ah nm2 Kb2) (aq 0 (ah nm1 Kb1) (fun _ _=>none)) RR=sh2 dA i4 hA iA (fun y0=>Kb1 (fr1 y0)) (fun y0 y1 y2 y3=>Kb2 (fr2 y0 y1 y2 y3)):=by kernel_rfl
noncomputable def f1 (dA:List (List UInt8)):R:=sh1 dA
noncomputable def f2:Nat→Y2
  | 0=>fun _ _ _ _=>none
  | n+1=>fun dA i4 hA iA=>sh2 dA i4 hA iA f1 (f2 n)
noncomputable def f0 (n:Net):R:=sh0 n (f2 100000)
theorem T1 (dA):(hid ct1) (fr1 dA)=f1 dA:=by
  refine (congrFun (ai _) _).trans <| (P1 dA).trans ?_
  show _=sh1 dA
  rfl
theorem T2:∀ (n:Nat),∀ dA i4 hA iA,it2 (hid ct1) n (fr2 dA i4 hA iA)=f2 n dA i4 hA iA:=by
  intro n
  induction n with
  | zero=>intros; rfl
  | succ n ih =>
    intro dA i4 hA iA
    refine (P2 dA i4 hA iA (hid ct1) (it2 (hid ct1) n)).trans ?_
    show _=sh2 dA i4 hA iA f1 (f2 n)
    simp only [T1,ih]
theorem H2 (dA i4 hA iA):hid (it2 (hid ct1) 100000) (fr2 dA i4 hA iA)=f2 100000 dA i4 hA iA:=(congrFun (ai _) _).trans (T2 100000 dA i4 hA iA)
theorem T0 (n):ac X bd (.seq none .d (.seq none .d (.seq (some nm1) (.seq none .d (.block (.loop nm2 .d))) .d))) (fr0 n) RR (fun _ _=>none) RR=f0 n:=by
  refine (P0 n).trans ?_
  show _=sh0 n (f2 100000)
  simp only [H2]
theorem run (n):aJ X bd (.seq none .d (.seq none .d (.seq (some nm1) (.seq none .d (.block (.loop nm2 .d))) .d))) nmR [2] [2] [(.agg [(.lst .node n.nds),(.lst .link n.lks)])]=f0 n:=T0 n
theorem loop (nds:List Node) (lks:List Lnk) (hl:nds.length≤90000):∀ (n i:Nat),nds.length < n+i→i≤nds.length→f2 n ((nds.take i).map Node.nn) (i:Int) nds lks=some (.ful 0,[(0,.rows .str (nds.map Node.nn))]):=by
  intro n
  induction n with
  | zero=>intro i h1 h2; omega
  | succ n ih =>
    intro i h1 h2
    show sh2 ((nds.take i).map Node.nn) (i:Int) nds lks f1 (f2 n)=_
    unfold sh2
    by_cases hi:i < nds.length
    · rw [aX (by simp; omega), aW hi, ak, ar hi, bD i (by omega)]
      have e:∀ x:Node,((nds.take i).map Node.nn)++([x.nn]:List (List UInt8))=((nds.take i)++[x]).map Node.nn:=fun x=>by simp
      rw [e,← dN hi,ih (i+1) (by omega) hi]
      rw [bE (show _≤140737488355328 by simp; omega),bE (show _≤9223372036854775807 by simp; omega)]
      rfl
    · have : i = nds.length := by omega
      subst this
      rw [aR (by simp),List.take_length]
      rfl
theorem f0_eq (n:Net) (h:okN n=true):f0 n=some (.ful 0,[(0,.rows .str (aU n))]):=by
  have hl:=bQ (cr h)
  exact loop n.nds n.lks hl 100000 0 (by omega) (by omega)
theorem ok:CtxOk Tryz.prog X:=aI tab spN dpN
theorem okM:MOk Tryz.prog X:=fun g sp h=>by cases h
theorem spec (n:Net) (h:(okN n)=true):aj Tryz.prog E 41 [(.agg [(.lst .node n.nds),(.lst .link n.lks)])] (.ful 0) [(0,.rows .str (aU n))] :=
  ae ok okM Tryz.call41 Tryz.func41 (by kernel_rfl) (by kernel_rfl) (by kernel_rfl) (by show 1≤22; decide) (by decide) (by rfl) ((run n).trans (f0_eq n h))
noncomputable def sp:Sp U El:=fun args k=>match args with
  | [.agg [.lst .node n_nds,.lst .link n_lks]]=>chk (okN (⟨n_nds,n_lks⟩:Net)) (k (.ful 0) [(0,.rows .str (aU (⟨n_nds,n_lks⟩:Net)))])
  | _=>none
theorem spOk:SpOk Tryz.prog E 41 sp where
  det:=fun vs=>by
    unfold sp
    split
    · exact aY _ _ _
    · exact ⟨none,fun _=>rfl⟩
  ok:=fun vs k r h=>by
    unfold sp at h
    split at h
    · obtain ⟨h1, h2⟩ := af h
      exact ⟨_,_,spec ⟨_,_⟩ h1,h2⟩
    · cases h
end rnames
namespace rknown
noncomputable def bd:Code:=(Tryz.f107.body).getD .skip
noncomputable def X:Ctx U El:=⟨E,tds,zeros,eqs,aC [(41,rnames.sp),(76,rfindLink.sp),(122,rfind.sp)],100000,46,ap [],fun _=>none⟩
noncomputable def nmR:Norm U:=⟨[],[4],[],[],[],[],[]⟩
noncomputable def RR:ab U El:=fun st=>aE nmR st (aD [4] [])
noncomputable def nm1:Norm U:=⟨[],[],[],[],[],[],[]⟩
noncomputable def nm2:Norm U:=⟨[(5,.str)],[0,3,5,6],[5,3],[],[],[],[(3,0,.node),(3,1,.link)]⟩
noncomputable def nm3:Norm U:=⟨[(5,.str)],[0,3,5,6],[5,3],[],[],[],[(3,0,.node),(3,1,.link)]⟩
noncomputable def nm4:Norm U:=⟨[(5,.str)],[0,3,5,6,7],[5,3],[],[],[],[(3,0,.node),(3,1,.link)]⟩
abbrev Y1:=R
abbrev Y2:=(List Rule)→(List (List UInt8))→Int→(List Node)→(List Lnk)→R
abbrev Y3:=(List Rule)→(List (List UInt8))→Int→(List Node)→(List Lnk)→R
abbrev Y4:=(List Rule)→(List (List UInt8))→Int→Int→(List Node)→(List Lnk)→R
noncomputable def fr0 (l:List Rule) (n:Net):St U El:=⟨[(0,(.lst .rule l)),(1,(.agg [(.lst .node n.nds),(.lst .link n.lks)]))],[]⟩
noncomputable def fr1:St U El:=⟨[],[]⟩
noncomputable def fr2 (l0:List Rule) (cA:List (List UInt8)) (i6:Int) (aA:List Node) (bA:List Lnk):St U El:=⟨[(0,(.lst .rule l0)),(3,(.ptr 3 0)),(5,(.ful 5)),(6,(.int .i64 i6))],[(5,(.rows .str cA)),(3,(.box 0 [(.lst .node aA),(.lst .link bA)]))]⟩
noncomputable def fr3 (l0:List Rule) (cA:List (List UInt8)) (i6:Int) (aA:List Node) (bA:List Lnk):St U El:=⟨[(0,(.lst .rule l0)),(3,(.ptr 3 0)),(5,(.ful 5)),(6,(.int .i64 i6))],[(5,(.rows .str cA)),(3,(.box 0 [(.lst .node aA),(.lst .link bA)]))]⟩
noncomputable def fr4 (l0:List Rule) (cA:List (List UInt8)) (i6:Int) (jA:Int) (aA:List Node) (bA:List Lnk):St U El:=⟨[(0,(.lst .rule l0)),(3,(.ptr 3 0)),(5,(.ful 5)),(6,(.int .i64 i6)),(7,(.int .i64 jA))],[(5,(.rows .str cA)),(3,(.box 0 [(.lst .node aA),(.lst .link bA)]))]⟩
noncomputable def sh0 (l:List Rule) (n:Net) (k2:Y2):R :=
  chk (okN n) (k2 l (aU n) (0:Int) n.nds n.lks)
noncomputable def sh1:R :=
  some ((.bool true),[])
noncomputable def sh2 (l0:List Rule) (cA:List (List UInt8)) (i6:Int) (aA:List Node) (bA:List Lnk) (k1:Y1) (k4:Y4):R :=
  aa (ilt i6 (Int.ofNat (List.length l0))) (chk (inb i6 (List.length l0)) (chk (okN (⟨aA,bA⟩:Net)) (aa (ilt (aF (⟨aA,bA⟩:Net) ((List.getD l0 (Int.toNat i6) az).rl)) (0:Int)) (some ((.bool false),[])) (k4 l0 cA i6 (0:Int) aA bA)))) (k1)
noncomputable def sh3 (l0:List Rule) (cA:List (List UInt8)) (i6:Int) (aA:List Node) (bA:List Lnk) (k2:Y2):R :=
  k2 l0 cA (IntKind.wrap .i64 (i6+(1:Int))) aA bA
noncomputable def sh4 (l0:List Rule) (cA:List (List UInt8)) (i6:Int) (jA:Int) (aA:List Node) (bA:List Lnk) (k3:Y3) (k4:Y4):R :=
  chk (inb i6 (List.length l0)) (aa (ilt jA (Int.ofNat (List.length ((List.getD l0 (Int.toNat i6) az).rw)))) (chk (inb i6 (List.length l0)) (chk (inb jA (List.length ((List.getD l0 (Int.toNat i6) az).rw))) (chk (nle (List.length cA) 90000) (aa (ilt (aN (fun x=>x == ((List.getD ((List.getD l0 (Int.toNat i6) az).rw) (Int.toNat jA) cI).cn)) 0 cA) (0:Int)) (some ((.bool false),[])) (k4 l0 cA i6 (IntKind.wrap .i64 (jA+(1:Int))) aA bA))))) (k3 l0 cA i6 aA bA))
noncomputable def it2 (Kb1:ab U El) (n:Nat):ab U El:=bw nm2 (fun st' K'=>ac X (cdp [1,1,0,1,0,0] bd) (.seq none .d (.seq (some nm3) (.block (.seq none .d (.seq none .d (.block (.loop nm4 .d))))) .d)) st' K' (aq 0 (ah nm1 Kb1) (fun _ _=>none)) RR) n
noncomputable def it4 (Kb1 Kb3:ab U El) (n:Nat):ab U El:=bw nm4 (fun st' K'=>ac X (cdp [1,1,0,1,0,0,1,0,0,1,1,0,0] bd) .d st' K' (aq 2 (ah nm3 Kb3) (aq 1 (ah nm3 Kb3) (aq 0 (ah nm1 Kb1) (fun _ _=>none)))) RR) n
noncomputable def ct1:ab U El:=fun st=>ac X (cdp [1,1,1] bd) .d st RR (fun _ _=>none) RR
noncomputable def ct3 (Kb1 Kb2:ab U El):ab U El:=fun st=>ac X (cdp [1,1,0,1,0,0,1,1] bd) .d st (ah nm2 Kb2) (aq 0 (ah nm1 Kb1) (fun _ _=>none)) RR
theorem P0 (l n):ac X (cdp [] bd) (.seq none .d (.seq none .d (.seq (some nm1) (.seq none .d (.block (.loop nm2 (.seq none .d (.seq (some nm3) (.block (.seq none .d (.seq none .d (.block (.loop nm4 .d))))) .d))))) .d))) (fr0 l n) RR (fun _ _=>none) RR=sh0 l n (fun y0 y1 y2 y3 y4=>(hid (it2 (hid ct1) 100000)) (fr2 y0 y1 y2 y3 y4)):=by kernel_rfl
theorem P1:ct1 (fr1)=sh1:=by kernel_rfl
theorem P2 (l0 cA i6 aA bA) (Kb1 Kb2:ab U El):ac X (cdp [1,1,0,1,0,0] bd) (.seq none .d (.seq (some nm3) (.block (.seq none .d (.seq none .d (.block (.loop nm4 .d))))) .d)) (fr2 l0 cA i6 aA bA) (ah nm2 Kb2) (aq 0 (ah nm1 Kb1) (fun _ _=>none)) RR=sh2 l0 cA i6 aA bA (Kb1 (fr1)) (fun y0 y1 y2 y3 y4 y5=>(hid (it4 Kb1 (hid (ct3 Kb1 Kb2)) 100000)) (fr4 y0 y1 y2 y3 y4 y5)):=by kernel_rfl
theorem P3 (l0 cA i6 aA bA) (Kb1 Kb2:ab U El):ct3 Kb1 Kb2 (fr3 l0 cA i6 aA bA)=sh3 l0 cA i6 aA bA (fun y0 y1 y2 y3 y4=>Kb2 (fr2 y0 y1 y2 y3 y4)):=by kernel_rfl
theorem P4 (l0 cA i6 jA aA bA) (Kb1 Kb3 Kb4:ab U El):ac X (cdp [1,1,0,1,0,0,1,0,0,1,1,0,0] bd) .d (fr4 l0 cA i6 jA aA bA) (ah nm4 Kb4) (aq 2 (ah nm3 Kb3) (aq 1 (ah nm3 Kb3) (aq 0 (ah nm1 Kb1) (fun _ _=>none)))) RR=sh4 l0 cA i6 jA aA bA (fun y0 y1 y2 y3 y4=>Kb3 (fr3 y0 y1 y2 y3 y4)) (fun y0 y1 y2 y3 y4 y5=>Kb4 (fr4 y0 y1 y2 y3 y4 y5)):=by kernel_rfl
noncomputable def f1:R:=sh1
noncomputable def f3 (k2:Y2) (l0:List Rule) (cA:List (List UInt8)) (i6:Int) (aA:List Node) (bA:List Lnk):R:=sh3 l0 cA i6 aA bA k2
noncomputable def f4 (k2:Y2):Nat→Y4
  | 0=>fun _ _ _ _ _ _=>none
  | n+1=>fun l0 cA i6 jA aA bA=>sh4 l0 cA i6 jA aA bA (f3 k2) (f4 k2 n)
noncomputable def f2:Nat→Y2
  | 0=>fun _ _ _ _ _=>none
  | n+1=>fun l0 cA i6 aA bA=>sh2 l0 cA i6 aA bA f1 (f4 (f2 n) 100000)
noncomputable def f0 (l:List Rule) (n:Net):R:=sh0 l n (f2 100000)
theorem T1:(hid ct1) (fr1)=f1:=by
  refine (congrFun (ai _) _).trans <| (P1).trans ?_
  show _=sh1
  rfl
theorem T3 (KL2:ab U El) (k2:Y2) (h2:∀ l0 cA i6 aA bA,KL2 (fr2 l0 cA i6 aA bA)=k2 l0 cA i6 aA bA) (l0 cA i6 aA bA):(hid (ct3 (hid ct1) KL2)) (fr3 l0 cA i6 aA bA)=f3 k2 l0 cA i6 aA bA:=by
  refine (congrFun (ai _) _).trans <| (P3 l0 cA i6 aA bA (hid ct1) KL2).trans ?_
  show _=sh3 l0 cA i6 aA bA k2
  simp only [h2]
theorem T4 (KL2:ab U El) (k2:Y2) (h2:∀ l0 cA i6 aA bA,KL2 (fr2 l0 cA i6 aA bA)=k2 l0 cA i6 aA bA):∀ (n:Nat),∀ l0 cA i6 jA aA bA,it4 (hid ct1) (hid (ct3 (hid ct1) KL2)) n (fr4 l0 cA i6 jA aA bA)=f4 k2 n l0 cA i6 jA aA bA:=by
  intro n
  induction n with
  | zero=>intros; rfl
  | succ n ih =>
    intro l0 cA i6 jA aA bA
    refine (P4 l0 cA i6 jA aA bA (hid ct1) (hid (ct3 (hid ct1) KL2)) (it4 (hid ct1) (hid (ct3 (hid ct1) KL2)) n)).trans ?_
    show _=sh4 l0 cA i6 jA aA bA (f3 k2) (f4 k2 n)
    simp only [T3 KL2 k2 h2,ih]
theorem H4 (KL2:ab U El) (k2:Y2) (h2:∀ l0 cA i6 aA bA,KL2 (fr2 l0 cA i6 aA bA)=k2 l0 cA i6 aA bA) (l0 cA i6 jA aA bA):hid (it4 (hid ct1) (hid (ct3 (hid ct1) KL2)) 100000) (fr4 l0 cA i6 jA aA bA)=f4 k2 100000 l0 cA i6 jA aA bA:=(congrFun (ai _) _).trans (T4 KL2 k2 h2 100000 l0 cA i6 jA aA bA)
theorem T2:∀ (n:Nat),∀ l0 cA i6 aA bA,it2 (hid ct1) n (fr2 l0 cA i6 aA bA)=f2 n l0 cA i6 aA bA:=by
  intro n
  induction n with
  | zero=>intros; rfl
  | succ n ih =>
    intro l0 cA i6 aA bA
    refine (P2 l0 cA i6 aA bA (hid ct1) (it2 (hid ct1) n)).trans ?_
    show _=sh2 l0 cA i6 aA bA f1 (f4 (f2 n) 100000)
    simp only [T1,H4 (it2 (hid ct1) n) (f2 n) ih]
theorem H2 (l0 cA i6 aA bA):hid (it2 (hid ct1) 100000) (fr2 l0 cA i6 aA bA)=f2 100000 l0 cA i6 aA bA:=(congrFun (ai _) _).trans (T2 100000 l0 cA i6 aA bA)
theorem T0 (l n):ac X bd (.seq none .d (.seq none .d (.seq (some nm1) (.seq none .d (.block (.loop nm2 (.seq none .d (.seq (some nm3) (.block (.seq none .d (.seq none .d (.block (.loop nm4 .d))))) .d))))) .d))) (fr0 l n) RR (fun _ _=>none) RR=f0 l n:=by
  refine (P0 l n).trans ?_
  show _=sh0 l n (f2 100000)
  simp only [H2]
theorem run (l n):aJ X bd (.seq none .d (.seq none .d (.seq (some nm1) (.seq none .d (.block (.loop nm2 (.seq none .d (.seq (some nm3) (.block (.seq none .d (.seq none .d (.block (.loop nm4 .d))))) .d))))) .d))) nmR [4] [] [(.lst .rule l),(.agg [(.lst .node n.nds),(.lst .link n.lks)])]=f0 l n:=T0 l n
theorem inner (l:List Rule) (n0:Net) (hn:nle (aU n0).length 90000=true) (k2:List Rule→List (List UInt8)→Int→List Node→List Lnk→R) (i:Nat) (hi:i < l.length) (hw:l[i].rw.length≤90000) :
    f4 k2 100000 l (aU n0) (i:Int) 0 n0.nds n0.lks=aa (List.all l[i].rw (fun c=>gL n0 c.cn)) (k2 l (aU n0) (IntKind.wrap .i64 ((i:Int)+1)) n0.nds n0.lks) (aH false):=by
  refine (bu l[i].rw (by omega) (fun n_ (_:Unit) i_=>f4 k2 n_ l (aU n0) (i:Int) i_ n0.nds n0.lks) (fun u i x k=>aa (!(gL n0 x.cn)) (aH false) (k u)) (fun _=>k2 l (aU n0) (IntKind.wrap .i64 ((i:Int)+1)) n0.nds n0.lks) (fun n_ u_ i_ hi_ => ?_) (fun n_ u_ => ?_) 100000 0 () (by omega) (by omega)).trans ((gf (fun _ x => !(gL n0 x.cn)) _ (aH false) l[i].rw 0).trans ?_)
  · show sh4 l (aU n0) (i : Int) (i_ : Int) n0.nds n0.lks (f3 k2) (f4 k2 n_) = _
    unfold sh4
    rw [aW hi,ak,ar hi,aX (by simp; omega),aW hi_,ak,ar hi_,hn,j7]
    rfl
  · show sh4 l (aU n0) (i : Int) (l[i].rw.length : Int) n0.nds n0.lks (f3 k2) (f4 k2 n_) = _
    unfold sh4
    rw [aW hi,ak,ar hi,aR (by simp)]
    rfl
  · simp only [Bool.not_not,fg]
theorem f0_eq (l:List Rule) (n:Net) (h:(okN n&&okR l)=true):f0 l n=aH (ca l n):=by
  simp only [Bool.and_eq_true] at h
  obtain ⟨h1,h2⟩:=h
  have h3:=h2
  simp only [okR,Bool.and_eq_true] at h3
  have hl:=bQ h3.1
  have hw:=List.all_eq_true.1 h3.2
  have hn:nle (aU n).length 90000=true:=by
    have:=bQ (cr h1)
    exact bE (by simpa [aU] using this)
  show sh0 l n (f2 100000)=_
  unfold sh0
  rw [h1]
  refine (bu l (by omega) (fun n_ (_:Unit) i_=>f2 n_ l (aU n) i_ n.nds n.lks) (fun u i x k=>aa (!(d7 n x)) (aH false) (k u)) (fun _=>aH true) (fun n_ u_ i_ hi_ => ?_) (fun n_ u_ => ?_) 100000 0 () (by omega) (by omega)).trans ((gf (fun _ x => !(d7 n x)) _ (aH false) l 0).trans ?_)
  · show sh2 l (aU n) (i_ : Int) n.nds n.lks f1 (f4 (f2 n_) 100000) = _
    unfold sh2
    have e:=inner l n hn (f2 n_) i_ hi_ (bQ (hw _ (List.getElem_mem hi_)))
    have h1':okN (⟨n.nds,n.lks⟩:Net)=true:=h1
    rw [aX (by simp; omega),aW hi_,ak,ar hi_,h1',e]
    show aa (ilt (aF n l[i_].rl) 0) (aH false) _=_
    unfold d7
    cases ilt (aF n l[i_].rl) 0<;>cases List.all l[i_].rw (fun c=>gL n c.cn)<;>rfl
  · show sh2 l (aU n) (l.length : Int) n.nds n.lks f1 (f4 (f2 n_) 100000) = _
    unfold sh2
    rw [aR (by simp)]
    rfl
  · simp only [Bool.not_not, fg]
    unfold ca
    cases List.all l (d7 n)<;>rfl
theorem ok:CtxOk Tryz.prog X:=aI tab (spC rnames.spOk (spC rfindLink.spOk (spC rfind.spOk spN))) dpN
theorem okM:MOk Tryz.prog X:=fun g sp h=>by cases h
theorem spec (l:List Rule) (n:Net) (h:((okN n&&okR l))=true):aj Tryz.prog E 107 [(.lst .rule l),(.agg [(.lst .node n.nds),(.lst .link n.lks)])] (.bool (ca l n)) [] :=
  ae ok okM Tryz.call107 Tryz.func107 (by kernel_rfl) (by kernel_rfl) (by kernel_rfl) (by show 2≤46; decide) (by decide) (by rfl) ((run l n).trans (f0_eq l n h))
noncomputable def sp:Sp U El:=fun args k=>match args with
  | [.lst .rule l,.agg [.lst .node n_nds,.lst .link n_lks]]=>chk ((okN (⟨n_nds,n_lks⟩:Net)&&okR l)) (k (.bool (ca l (⟨n_nds,n_lks⟩:Net))) [])
  | _=>none
theorem spOk:SpOk Tryz.prog E 107 sp where
  det:=fun vs=>by
    unfold sp
    split
    · exact aY _ _ _
    · exact ⟨none,fun _=>rfl⟩
  ok:=fun vs k r h=>by
    unfold sp at h
    split at h
    · obtain ⟨h1, h2⟩ := af h
      exact ⟨_,_,spec _ ⟨_,_⟩ h1,h2⟩
    · cases h
end rknown
namespace rgiven
noncomputable def bd:Code:=(Tryz.f53.body).getD .skip
noncomputable def X:Ctx U El:=⟨E,tds,zeros,eqs,aC [(38,rnvalid.sp),(106,rvalid.sp),(107,rknown.sp)],100000,17,ap [],fun _=>none⟩
noncomputable def nmR:Norm U:=⟨[],[4],[],[],[],[],[]⟩
noncomputable def RR:ab U El:=fun st=>aE nmR st (aD [4] [])
noncomputable def nm1:Norm U:=⟨[],[0,3],[3],[],[],[],[(3,0,.node),(3,1,.link)]⟩
abbrev Y1:=(List Rule)→(List Node)→(List Lnk)→R
noncomputable def fr0 (l:List Rule) (n:Net):St U El:=⟨[(0,(.lst .rule l)),(1,(.agg [(.lst .node n.nds),(.lst .link n.lks)]))],[]⟩
noncomputable def fr1 (l0:List Rule) (aA:List Node) (bA:List Lnk):St U El:=⟨[(0,(.lst .rule l0)),(3,(.ptr 3 0))],[(3,(.box 0 [(.lst .node aA),(.lst .link bA)]))]⟩
noncomputable def sh0 (l:List Rule) (n:Net) (k1:Y1):R :=
  aa (!(a6 l)) (some ((.int .i64 (1:Int)),[])) (chk (okN n) (aa (!(cz n)) (some ((.int .i64 (1:Int)),[])) (k1 l n.nds n.lks)))
noncomputable def sh1 (l0:List Rule) (aA:List Node) (bA:List Lnk):R :=
  chk ((okN (⟨aA,bA⟩:Net)&&okR l0)) (aa (!(ca l0 (⟨aA,bA⟩:Net))) (some ((.int .i64 (9:Int)),[])) (some ((.int .i64 (0:Int)),[])))
noncomputable def ct1:ab U El:=fun st=>ac X (cdp [1,1] bd) .d st RR (fun _ _=>none) RR
theorem P0 (l n):ac X (cdp [] bd) (.seq none .d (.seq (some nm1) .d .d)) (fr0 l n) RR (fun _ _=>none) RR=sh0 l n (fun y0 y1 y2=>(hid ct1) (fr1 y0 y1 y2)):=by kernel_rfl
theorem P1 (l0 aA bA):ct1 (fr1 l0 aA bA)=sh1 l0 aA bA:=by kernel_rfl
noncomputable def f1 (l0:List Rule) (aA:List Node) (bA:List Lnk):R:=sh1 l0 aA bA
noncomputable def f0 (l:List Rule) (n:Net):R:=sh0 l n f1
theorem T1 (l0 aA bA):(hid ct1) (fr1 l0 aA bA)=f1 l0 aA bA:=by
  refine (congrFun (ai _) _).trans <| (P1 l0 aA bA).trans ?_
  show _=sh1 l0 aA bA
  rfl
theorem T0 (l n):ac X bd (.seq none .d (.seq (some nm1) .d .d)) (fr0 l n) RR (fun _ _=>none) RR=f0 l n:=by
  refine (P0 l n).trans ?_
  show _=sh0 l n f1
  simp only [T1]
theorem run (l n):aJ X bd (.seq none .d (.seq (some nm1) .d .d)) nmR [4] [] [(.lst .rule l),(.agg [(.lst .node n.nds),(.lst .link n.lks)])]=f0 l n:=T0 l n
theorem f0_eq (l:List Rule) (n:Net) (h:okN n=true):f0 l n=bH (aV l n):=by
  show sh0 l n f1=_
  unfold sh0 aV
  cases hr:a6 l with
  | false=>rfl
  | true =>
    rw [h]
    cases cz n with
    | false=>rfl
    | true =>
      show sh1 l n.nds n.lks=_
      unfold sh1
      have h1':okN (⟨n.nds,n.lks⟩:Net)=true:=h
      rw [h1',oq hr]
      show aa (!(ca l n)) (bH 9) (bH 0)=_
      cases ca l n<;>rfl
theorem ok:CtxOk Tryz.prog X:=aI tab (spC rnvalid.spOk (spC rvalid.spOk (spC rknown.spOk spN))) dpN
theorem okM:MOk Tryz.prog X:=fun g sp h=>by cases h
theorem spec (l:List Rule) (n:Net) (h:(okN n)=true):aj Tryz.prog E 53 [(.lst .rule l),(.agg [(.lst .node n.nds),(.lst .link n.lks)])] (.int .i64 (aV l n)) [] :=
  ae ok okM Tryz.call53 Tryz.func53 (by kernel_rfl) (by kernel_rfl) (by kernel_rfl) (by show 2≤17; decide) (by decide) (by rfl) ((run l n).trans (f0_eq l n h))
noncomputable def sp:Sp U El:=fun args k=>match args with
  | [.lst .rule l,.agg [.lst .node n_nds,.lst .link n_lks]]=>chk (okN (⟨n_nds,n_lks⟩:Net)) (k (.int .i64 (aV l (⟨n_nds,n_lks⟩:Net))) [])
  | _=>none
theorem spOk:SpOk Tryz.prog E 53 sp where
  det:=fun vs=>by
    unfold sp
    split
    · exact aY _ _ _
    · exact ⟨none,fun _=>rfl⟩
  ok:=fun vs k r h=>by
    unfold sp at h
    split at h
    · obtain ⟨h1, h2⟩ := af h
      exact ⟨_,_,spec _ ⟨_,_⟩ h1,h2⟩
    · cases h
end rgiven
namespace given
noncomputable def bd:Code:=(Tryz.f62.body).getD .skip
noncomputable def X:Ctx U El:=⟨E,tds,zeros,eqs,aC [(57,gv1C.sp),(70,nLink.sp),(85,valid.sp),(102,nvalid.sp)],100000,48,ap [],fun _=>none⟩
noncomputable def nmR:Norm U:=⟨[],[4],[],[],[],[],[]⟩
noncomputable def RR:ab U El:=fun st=>aE nmR st (aD [4] [])
noncomputable def nm1:Norm U:=⟨[],[0,3],[3],[],[],[],[(3,0,.node),(3,1,.link)]⟩
noncomputable def nm2:Norm U:=⟨[],[],[],[],[],[],[]⟩
noncomputable def nm3:Norm U:=⟨[],[3,19,20,21],[3],[],[],[],[(3,0,.node),(3,1,.link)]⟩
noncomputable def nm4:Norm U:=⟨[],[3,19,20,21],[3],[],[],[],[(3,0,.node),(3,1,.link)]⟩
noncomputable def nm5:Norm U:=⟨[],[3,19,20,21,35,36,37],[3],[],[],[],[(3,0,.node),(3,1,.link)]⟩
abbrev Y1:=(List Rule)→(List Node)→(List Lnk)→R
abbrev Y2:=R
abbrev Y3:=(List Rule)→Int→Int→(List Node)→(List Lnk)→R
abbrev Y4:=(List Rule)→Int→Int→(List Node)→(List Lnk)→R
abbrev Y5:=(List Rule)→Int→Int→(List Cnd)→Int→Int→(List Node)→(List Lnk)→R
noncomputable def fr0 (l:List Rule) (n:Net):St U El:=⟨[(0,(.lst .rule l)),(1,(.agg [(.lst .node n.nds),(.lst .link n.lks)]))],[]⟩
noncomputable def fr1 (l0:List Rule) (aA:List Node) (bA:List Lnk):St U El:=⟨[(0,(.lst .rule l0)),(3,(.ptr 3 0))],[(3,(.box 0 [(.lst .node aA),(.lst .link bA)]))]⟩
noncomputable def fr2:St U El:=⟨[],[]⟩
noncomputable def fr3 (fA:List Rule) (gA:Int) (eA:Int) (aA:List Node) (bA:List Lnk):St U El:=⟨[(3,(.ptr 3 0)),(19,(.lst .rule fA)),(20,(.int .i64 gA)),(21,(.int .i64 eA))],[(3,(.box 0 [(.lst .node aA),(.lst .link bA)]))]⟩
noncomputable def fr4 (fA:List Rule) (gA:Int) (eA:Int) (aA:List Node) (bA:List Lnk):St U El:=⟨[(3,(.ptr 3 0)),(19,(.lst .rule fA)),(20,(.int .i64 gA)),(21,(.int .i64 eA))],[(3,(.box 0 [(.lst .node aA),(.lst .link bA)]))]⟩
noncomputable def fr5 (fA:List Rule) (gA:Int) (eA:Int) (lA:List Cnd) (mA:Int) (kA:Int) (aA:List Node) (bA:List Lnk):St U El:=⟨[(3,(.ptr 3 0)),(19,(.lst .rule fA)),(20,(.int .i64 gA)),(21,(.int .i64 eA)),(35,(.lst .cnd lA)),(36,(.int .i64 mA)),(37,(.int .i64 kA))],[(3,(.box 0 [(.lst .node aA),(.lst .link bA)]))]⟩
noncomputable def sh0 (l:List Rule) (n:Net) (k1:Y1):R :=
  aa (!(a6 l)) (some ((.int .i64 (1:Int)),[])) (chk (okN n) (aa (!(cz n)) (some ((.int .i64 (1:Int)),[])) (k1 l n.nds n.lks)))
noncomputable def sh1 (l0:List Rule) (aA:List Node) (bA:List Lnk) (k3:Y3):R :=
  k3 l0 (Int.ofNat (List.length l0)) (0:Int) aA bA
noncomputable def sh2:R :=
  some ((.int .i64 (0:Int)),[])
noncomputable def sh3 (fA:List Rule) (gA:Int) (eA:Int) (aA:List Node) (bA:List Lnk) (k2:Y2) (k5:Y5):R :=
  aa (ilt eA gA) (chk (inb eA (List.length fA)) (chk (okN (⟨aA,bA⟩:Net)) (aa (((bif cz (⟨aA,bA⟩:Net) then (bif ilt (aF (⟨aA,bA⟩:Net) ((List.getD fA (Int.toNat eA) az).rl)) 0 then 9 else 0) else 1)) != (0:Int)) (some ((.int .i64 (9:Int)),[])) (k5 fA gA eA ((List.getD fA (Int.toNat eA) az).rw) (Int.ofNat (List.length ((List.getD fA (Int.toNat eA) az).rw))) (0:Int) aA bA)))) (k2)
noncomputable def sh4 (fA:List Rule) (gA:Int) (eA:Int) (aA:List Node) (bA:List Lnk) (k3:Y3):R :=
  k3 fA gA (IntKind.wrap .i64 (eA+(1:Int))) aA bA
noncomputable def sh5 (fA:List Rule) (gA:Int) (eA:Int) (lA:List Cnd) (mA:Int) (kA:Int) (aA:List Node) (bA:List Lnk) (k4:Y4) (k5:Y5):R :=
  aa (ilt kA mA) (chk (inb kA (List.length lA)) (chk (nle (List.length aA) 90000) (aa (!(List.any aA (bk ((List.getD lA (Int.toNat kA) cI).cn)))) (some ((.int .i64 (9:Int)),[])) (k5 fA gA eA lA mA (IntKind.wrap .i64 (kA+(1:Int))) aA bA)))) (k4 fA gA eA aA bA)
noncomputable def it3 (Kb2:ab U El) (n:Nat):ab U El:=bw nm3 (fun st' K'=>ac X (cdp [1,1,0,1,0,0] bd) (.seq none .d (.seq none .d (.seq (some nm4) (.block (.seq none .d (.seq none .d (.seq none .d (.block (.loop nm5 .d)))))) .d))) st' K' (aq 0 (ah nm2 Kb2) (fun _ _=>none)) RR) n
noncomputable def it5 (Kb2 Kb4:ab U El) (n:Nat):ab U El:=bw nm5 (fun st' K'=>ac X (cdp [1,1,0,1,0,0,1,1,0,0,1,1,1,0,0] bd) .d st' K' (aq 2 (ah nm4 Kb4) (aq 1 (ah nm4 Kb4) (aq 0 (ah nm2 Kb2) (fun _ _=>none)))) RR) n
noncomputable def ct1:ab U El:=fun st=>ac X (cdp [1,1] bd) (.seq (some nm2) (.seq none .d (.block (.loop nm3 (.seq none .d (.seq none .d (.seq (some nm4) (.block (.seq none .d (.seq none .d (.seq none .d (.block (.loop nm5 .d)))))) .d)))))) .d) st RR (fun _ _=>none) RR
noncomputable def ct2:ab U El:=fun st=>ac X (cdp [1,1,1] bd) .d st RR (fun _ _=>none) RR
noncomputable def ct4 (Kb2 Kb3:ab U El):ab U El:=fun st=>ac X (cdp [1,1,0,1,0,0,1,1,1] bd) .d st (ah nm3 Kb3) (aq 0 (ah nm2 Kb2) (fun _ _=>none)) RR
theorem P0 (l n):ac X (cdp [] bd) (.seq none .d (.seq (some nm1) .d (.seq (some nm2) (.seq none .d (.block (.loop nm3 (.seq none .d (.seq none .d (.seq (some nm4) (.block (.seq none .d (.seq none .d (.seq none .d (.block (.loop nm5 .d)))))) .d)))))) .d))) (fr0 l n) RR (fun _ _=>none) RR=sh0 l n (fun y0 y1 y2=>(hid ct1) (fr1 y0 y1 y2)):=by kernel_rfl
theorem P1 (l0 aA bA):ct1 (fr1 l0 aA bA)=sh1 l0 aA bA (fun y0 y1 y2 y3 y4=>(hid (it3 (hid ct2) 100000)) (fr3 y0 y1 y2 y3 y4)):=by kernel_rfl
theorem P2:ct2 (fr2)=sh2:=by kernel_rfl
theorem P3 (fA gA eA aA bA) (Kb2 Kb3:ab U El):ac X (cdp [1,1,0,1,0,0] bd) (.seq none .d (.seq none .d (.seq (some nm4) (.block (.seq none .d (.seq none .d (.seq none .d (.block (.loop nm5 .d)))))) .d))) (fr3 fA gA eA aA bA) (ah nm3 Kb3) (aq 0 (ah nm2 Kb2) (fun _ _=>none)) RR=sh3 fA gA eA aA bA (Kb2 (fr2)) (fun y0 y1 y2 y3 y4 y5 y6 y7=>(hid (it5 Kb2 (hid (ct4 Kb2 Kb3)) 100000)) (fr5 y0 y1 y2 y3 y4 y5 y6 y7)):=by kernel_rfl
theorem P4 (fA gA eA aA bA) (Kb2 Kb3:ab U El):ct4 Kb2 Kb3 (fr4 fA gA eA aA bA)=sh4 fA gA eA aA bA (fun y0 y1 y2 y3 y4=>Kb3 (fr3 y0 y1 y2 y3 y4)):=by kernel_rfl
theorem P5 (fA gA eA lA mA kA aA bA) (Kb2 Kb4 Kb5:ab U El):ac X (cdp [1,1,0,1,0,0,1,1,0,0,1,1,1,0,0] bd) .d (fr5 fA gA eA lA mA kA aA bA) (ah nm5 Kb5) (aq 2 (ah nm4 Kb4) (aq 1 (ah nm4 Kb4) (aq 0 (ah nm2 Kb2) (fun _ _=>none)))) RR=sh5 fA gA eA lA mA kA aA bA (fun y0 y1 y2 y3 y4=>Kb4 (fr4 y0 y1 y2 y3 y4)) (fun y0 y1 y2 y3 y4 y5 y6 y7=>Kb5 (fr5 y0 y1 y2 y3 y4 y5 y6 y7)):=by kernel_rfl
noncomputable def f2:R:=sh2
noncomputable def f4 (k3:Y3) (fA:List Rule) (gA:Int) (eA:Int) (aA:List Node) (bA:List Lnk):R:=sh4 fA gA eA aA bA k3
noncomputable def f5 (k3:Y3):Nat→Y5
  | 0=>fun _ _ _ _ _ _ _ _=>none
  | n+1=>fun fA gA eA lA mA kA aA bA=>sh5 fA gA eA lA mA kA aA bA (f4 k3) (f5 k3 n)
noncomputable def f3:Nat→Y3
  | 0=>fun _ _ _ _ _=>none
  | n+1=>fun fA gA eA aA bA=>sh3 fA gA eA aA bA f2 (f5 (f3 n) 100000)
noncomputable def f1 (l0:List Rule) (aA:List Node) (bA:List Lnk):R:=sh1 l0 aA bA (f3 100000)
noncomputable def f0 (l:List Rule) (n:Net):R:=sh0 l n f1
theorem T2:(hid ct2) (fr2)=f2:=by
  refine (congrFun (ai _) _).trans <| (P2).trans ?_
  show _=sh2
  rfl
theorem T4 (KL3:ab U El) (k3:Y3) (h3:∀ fA gA eA aA bA,KL3 (fr3 fA gA eA aA bA)=k3 fA gA eA aA bA) (fA gA eA aA bA):(hid (ct4 (hid ct2) KL3)) (fr4 fA gA eA aA bA)=f4 k3 fA gA eA aA bA:=by
  refine (congrFun (ai _) _).trans <| (P4 fA gA eA aA bA (hid ct2) KL3).trans ?_
  show _=sh4 fA gA eA aA bA k3
  simp only [h3]
theorem T5 (KL3:ab U El) (k3:Y3) (h3:∀ fA gA eA aA bA,KL3 (fr3 fA gA eA aA bA)=k3 fA gA eA aA bA):∀ (n:Nat),∀ fA gA eA lA mA kA aA bA,it5 (hid ct2) (hid (ct4 (hid ct2) KL3)) n (fr5 fA gA eA lA mA kA aA bA)=f5 k3 n fA gA eA lA mA kA aA bA:=by
  intro n
  induction n with
  | zero=>intros; rfl
  | succ n ih =>
    intro fA gA eA lA mA kA aA bA
    refine (P5 fA gA eA lA mA kA aA bA (hid ct2) (hid (ct4 (hid ct2) KL3)) (it5 (hid ct2) (hid (ct4 (hid ct2) KL3)) n)).trans ?_
    show _=sh5 fA gA eA lA mA kA aA bA (f4 k3) (f5 k3 n)
    simp only [T4 KL3 k3 h3,ih]
theorem H5 (KL3:ab U El) (k3:Y3) (h3:∀ fA gA eA aA bA,KL3 (fr3 fA gA eA aA bA)=k3 fA gA eA aA bA) (fA gA eA lA mA kA aA bA):hid (it5 (hid ct2) (hid (ct4 (hid ct2) KL3)) 100000) (fr5 fA gA eA lA mA kA aA bA)=f5 k3 100000 fA gA eA lA mA kA aA bA:=(congrFun (ai _) _).trans (T5 KL3 k3 h3 100000 fA gA eA lA mA kA aA bA)
theorem T3:∀ (n:Nat),∀ fA gA eA aA bA,it3 (hid ct2) n (fr3 fA gA eA aA bA)=f3 n fA gA eA aA bA:=by
  intro n
  induction n with
  | zero=>intros; rfl
  | succ n ih =>
    intro fA gA eA aA bA
    refine (P3 fA gA eA aA bA (hid ct2) (it3 (hid ct2) n)).trans ?_
    show _=sh3 fA gA eA aA bA f2 (f5 (f3 n) 100000)
    simp only [T2,H5 (it3 (hid ct2) n) (f3 n) ih]
theorem H3 (fA gA eA aA bA):hid (it3 (hid ct2) 100000) (fr3 fA gA eA aA bA)=f3 100000 fA gA eA aA bA:=(congrFun (ai _) _).trans (T3 100000 fA gA eA aA bA)
theorem T1 (l0 aA bA):(hid ct1) (fr1 l0 aA bA)=f1 l0 aA bA:=by
  refine (congrFun (ai _) _).trans <| (P1 l0 aA bA).trans ?_
  show _=sh1 l0 aA bA (f3 100000)
  simp only [H3]
theorem T0 (l n):ac X bd (.seq none .d (.seq (some nm1) .d (.seq (some nm2) (.seq none .d (.block (.loop nm3 (.seq none .d (.seq none .d (.seq (some nm4) (.block (.seq none .d (.seq none .d (.seq none .d (.block (.loop nm5 .d)))))) .d)))))) .d))) (fr0 l n) RR (fun _ _=>none) RR=f0 l n:=by
  refine (P0 l n).trans ?_
  show _=sh0 l n f1
  simp only [T1]
theorem run (l n):aJ X bd (.seq none .d (.seq (some nm1) .d (.seq (some nm2) (.seq none .d (.block (.loop nm3 (.seq none .d (.seq none .d (.seq (some nm4) (.block (.seq none .d (.seq none .d (.seq none .d (.block (.loop nm5 .d)))))) .d)))))) .d))) nmR [4] [] [(.lst .rule l),(.agg [(.lst .node n.nds),(.lst .link n.lks)])]=f0 l n:=T0 l n
theorem inner (nds:List Node) (lks:List Lnk) (hn:nle nds.length 90000=true) (l:List Rule) (i:Int) (w:List Cnd) (hw:w.length≤90000) (k4:List Rule→Int→Int→List Node→List Lnk→R) :
    f5 k4 100000 l (Int.ofNat l.length) i w (Int.ofNat w.length) 0 nds lks=aa (List.all w (fun c=>gL ⟨nds,lks⟩ c.cn)) (k4 l (Int.ofNat l.length) (IntKind.wrap .i64 (i+1)) nds lks) (bH 9):=by
  refine (bu w (by omega) (fun n_ (_:Unit) i_=>f5 k4 n_ l (Int.ofNat l.length) i w (Int.ofNat w.length) i_ nds lks) (fun u i x k=>aa (!(gL ⟨nds,lks⟩ x.cn)) (bH 9) (k u)) (fun _=>k4 l (Int.ofNat l.length) (IntKind.wrap .i64 (i+1)) nds lks) (fun n_ u_ i_ hi_ => ?_) (fun n_ u_ => ?_) 100000 0 () (by omega) (by omega)).trans ((gf (fun _ x => !(gL ⟨nds,lks⟩ x.cn)) _ (bH 9) w 0).trans ?_)
  · show sh5 l (Int.ofNat l.length) i w (Int.ofNat w.length) (i_ : Int) nds lks (f4 k4) (f5 k4 n_) = _
    unfold sh5
    rw [aX (by simp; omega),aW hi_,ak,ar hi_,hn]
    rfl
  · show sh5 l (Int.ofNat l.length) i w (Int.ofNat w.length) (w.length : Int) nds lks (f4 k4) (f5 k4 n_) = _
    unfold sh5
    rw [aR (by simp)]
    rfl
  · simp only [Bool.not_not,fg]
theorem f0_eq (l : List Rule) (n : Net) (h : okN n = true) : f0 l n = bH (aV l n) := by
  show sh0 l n f1=_
  unfold sh0 aV
  cases hr:a6 l with
  | false=>rfl
  | true =>
    rw [h]
    cases hnet:cz n with
    | false=>rfl
    | true =>
      show f1 l n.nds n.lks=_
      have h1':okN (⟨n.nds,n.lks⟩:Net)=true:=h
      have hnet':cz (⟨n.nds,n.lks⟩:Net)=true:=hnet
      have hl:=(bo hr).1
      refine (bu l (by omega) (fun n_ (_:Unit) i_=>f3 n_ l (Int.ofNat l.length) i_ n.nds n.lks) (fun u i x k=>aa (!(d7 n x)) (bH 9) (k u)) (fun _=>bH 0) (fun n_ u_ i_ hi_ => ?_) (fun n_ u_ => ?_) 100000 0 () (by omega) (by omega)).trans ((gf (fun _ x => !(d7 n x)) _ (bH 9) l 0).trans ?_)
      · show sh3 l (Int.ofNat l.length) (i_ : Int) n.nds n.lks f2 (f5 (f3 n_) 100000) = _
        unfold sh3
        have e:=inner n.nds n.lks (cr h) l (i_:Int) l[i_].rw (by have:=(cK ((bo hr).2 _ (List.getElem_mem hi_))).1; omega) (f3 n_)
        rw [aX (by simp; omega),aW hi_,ak,ar hi_,h1',hnet',e]
        show aa ((bif ilt (aF n l[i_].rl) 0 then (9:Int) else 0) != 0) (bH 9) (aa (List.all l[i_].rw (fun c=>gL n c.cn)) (f3 n_ l (Int.ofNat l.length) (IntKind.wrap .i64 ((i_:Int)+1)) n.nds n.lks) (bH 9))=_
        unfold d7
        cases ilt (aF n l[i_].rl) 0<;>cases List.all l[i_].rw (fun c=>gL n c.cn)<;>rfl
      · show sh3 l (Int.ofNat l.length) (l.length : Int) n.nds n.lks f2 (f5 (f3 n_) 100000) = _
        unfold sh3
        rw [aR (by simp)]
        rfl
      · simp only [Bool.not_not, fg]
        unfold ca
        cases List.all l (d7 n)<;>rfl
theorem ok:CtxOk Tryz.prog X:=aI tab (spC gv1C.spOk (spC nLink.spOk (spC valid.spOk (spC nvalid.spOk spN)))) dpN
theorem okM:MOk Tryz.prog X:=fun g sp h=>by cases h
theorem spec (l:List Rule) (n:Net) (h:(okN n)=true):aj Tryz.prog E 62 [(.lst .rule l),(.agg [(.lst .node n.nds),(.lst .link n.lks)])] (.int .i64 (aV l n)) [] :=
  ae ok okM Tryz.call62 Tryz.func62 (by kernel_rfl) (by kernel_rfl) (by kernel_rfl) (by show 2≤48; decide) (by decide) (by rfl) ((run l n).trans (f0_eq l n h))
noncomputable def sp:Sp U El:=fun args k=>match args with
  | [.lst .rule l,.agg [.lst .node n_nds,.lst .link n_lks]]=>chk (okN (⟨n_nds,n_lks⟩:Net)) (k (.int .i64 (aV l (⟨n_nds,n_lks⟩:Net))) [])
  | _=>none
theorem spOk:SpOk Tryz.prog E 62 sp where
  det:=fun vs=>by
    unfold sp
    split
    · exact aY _ _ _
    · exact ⟨none,fun _=>rfl⟩
  ok:=fun vs k r h=>by
    unfold sp at h
    split at h
    · obtain ⟨h1, h2⟩ := af h
      exact ⟨_,_,spec _ ⟨_,_⟩ h1,h2⟩
    · cases h
end given
end Go.Proofs.YthdimnlkcgchoaaGreat

namespace Go.Proofs.YthdimnlkcgchoaaGreat
set_option linter.unusedSectionVars false
set_option linter.unusedSimpArgs false
set_option linter.unusedVariables false
set_option maxRecDepth 100000
noncomputable def aM (x:Node):Span:=bif x.nk == 3 then ⟨x.ni,x.ni⟩ else ⟨x.ni,x.ng⟩
noncomputable def sU (m:List UInt8) (s:Span) (c:Cnd):Span :=
  bif c.cn == m then (bif c.cb then ⟨s.slo,bif ilt (c.cl - 1) s.shi then c.cl - 1 else s.shi⟩ else ⟨bif ilt s.slo c.cl then c.cl else s.slo,s.shi⟩) else s
noncomputable def nar (m:List UInt8):Span→List Cnd→Span
  | s,[]=>s
  | s,c :: w=>nar m (sU m s c) w
theorem ou (m:List UInt8):∀ (w v:List Cnd) (s:Span),nar m s (w++v)=nar m (nar m s w) v:=by
  intro w
  induction w with
  | nil=>intro v s; rfl
  | cons c w ih=>intro v s; exact ih v _
noncomputable def fw:List Node→List Cnd→Option (List Int)
  | [],_=>some []
  | x :: l,w=>bif ilt (nar x.nn (aM x) w).shi (nar x.nn (aM x) w).slo then none else (fw l w).map ((nar x.nn (aM x) w).slo :: ·)
noncomputable def dq (l:List Node) (w:List Cnd):Bool:=(fw l w).isSome
noncomputable def iG (l:List Node) (w:List Cnd):List Int:=(fw l w).getD []
noncomputable def iH (out:List Int):Option (List Int)→R
  | none=>some (.tup [.ful 0,.bool false],[(0,.rows .int ([]:List Int))])
  | some r=>some (.tup [.ful 0,.bool true],[(0,.rows .int (out++r))])
theorem ov (out:List Int) (x:Int) (o:Option (List Int)):iH (out++[x]) o=iH out (o.map (x :: ·)):=by
  cases o with
  | none=>rfl
  | some r=>simp [iH]
theorem mX (l:List Node) (w:List Cnd):iH [] (fw l w)=some (.tup [.ful 0,.bool (dq l w)],[(0,.rows .int (iG l w))]):=by
  unfold dq iG
  cases fw l w<;>rfl
theorem pd {w:List Cnd} (h:okW w=true):w.length≤90000:=bQ (Bool.and_eq_true_iff.1 h).1
theorem rT {w:List Cnd} (h:okW w=true):∀ c∈w,IntKind.wrap .i64 (c.cl - 1)=c.cl - 1:=fun c hc=>by
  have:=List.all_eq_true.1 (Bool.and_eq_true_iff.1 h).2 c hc
  simp only [inR,Bool.and_eq_true] at this
  have a:=gJ this.1; have b:=gJ this.2
  exact eF (by omega) (by omega)
namespace empty
noncomputable def bd:Code:=(Tryz.f97.body).getD .skip
noncomputable def X:Ctx U El:=⟨E,tds,zeros,eqs,aC [],100000,8,ap [],fun _=>none⟩
noncomputable def nmR:Norm U:=⟨[],[2],[],[],[],[],[]⟩
noncomputable def RR:ab U El:=fun st=>aE nmR st (aD [2] [])
noncomputable def fr0 (s:Span):St U El:=⟨[(0,(.agg [(.int .i64 s.slo),(.int .i64 s.shi)]))],[]⟩
noncomputable def sh0 (s:Span):R :=
  some ((.bool (ilt s.shi s.slo)),[])
theorem P0 (s):ac X (cdp [] bd) .d (fr0 s) RR (fun _ _=>none) RR=sh0 s:=by kernel_rfl
noncomputable def f0 (s:Span):R:=sh0 s
theorem T0 (s):ac X bd .d (fr0 s) RR (fun _ _=>none) RR=f0 s:=by
  refine (P0 s).trans ?_
  show _=sh0 s
  rfl
theorem run (s):aJ X bd .d nmR [2] [] [(.agg [(.int .i64 s.slo),(.int .i64 s.shi)])]=f0 s:=T0 s
theorem f0_eq (s:Span):f0 s=aH (ilt s.shi s.slo):=rfl
theorem ok:CtxOk Tryz.prog X:=aI tab spN dpN
theorem okM:MOk Tryz.prog X:=fun g sp h=>by cases h
theorem spec (s:Span):aj Tryz.prog E 97 [(.agg [(.int .i64 s.slo),(.int .i64 s.shi)])] (.bool (ilt (Span.shi s) (Span.slo s))) [] :=
  ae ok okM Tryz.call97 Tryz.func97 (by kernel_rfl) (by kernel_rfl) (by kernel_rfl) (by show 1≤8; decide) (by decide) (by rfl) ((run s).trans (f0_eq s))
noncomputable def sp:Sp U El:=fun args k=>match args with
  | [.agg [.int .i64 s_slo,.int .i64 s_shi]]=>k (.bool (ilt (Span.shi (⟨s_slo,s_shi⟩:Span)) (Span.slo (⟨s_slo,s_shi⟩:Span)))) []
  | _=>none
theorem spOk:SpOk Tryz.prog E 97 sp where
  det:=fun vs=>by
    unfold sp
    split
    · exact ⟨some (_,_),fun _=>rfl⟩
    · exact ⟨none,fun _=>rfl⟩
  ok:=fun vs k r h=>by
    unfold sp at h
    split at h
    · exact ⟨_,_,spec ⟨_,_⟩,h⟩
    · cases h
end empty
namespace possible
noncomputable def bd:Code:=(Tryz.f113.body).getD .skip
noncomputable def X:Ctx U El:=⟨E,tds,zeros,eqs,aC [],100000,16,ap [],fun _=>none⟩
noncomputable def nmR:Norm U:=⟨[],[16],[],[],[],[],[]⟩
noncomputable def RR:ab U El:=fun st=>ch X 16 [(2,93)] 16 st fun st=>aE nmR st (aD [16] [])
noncomputable def fr0 (x:Node):St U El:=⟨[(0,(.agg [(.str x.nn),(.int .i64 x.nk),(.int .i64 x.nx),(.int .i64 x.ny),(.int .i64 x.ni),(.int .i64 x.ng),(.lst .knot x.nh),(.bool x.np),(.int .i64 x.nr)]))],[]⟩
noncomputable def sh0 (x:Node):R :=
  aa (x.nk == (3:Int)) (some ((.agg [(.int .i64 x.ni),(.int .i64 x.ni)]),[])) (some ((.agg [(.int .i64 x.ni),(.int .i64 x.ng)]),[]))
theorem P0 (x):ac X (cdp [] bd) .d (fr0 x) RR (fun _ _=>none) RR=sh0 x:=by kernel_rfl
noncomputable def f0 (x:Node):R:=sh0 x
theorem T0 (x):ac X bd .d (fr0 x) RR (fun _ _=>none) RR=f0 x:=by
  refine (P0 x).trans ?_
  show _=sh0 x
  rfl
theorem run (x):ij X bd .d nmR [(2,93)] [16] [] [(.agg [(.str x.nn),(.int .i64 x.nk),(.int .i64 x.nx),(.int .i64 x.ny),(.int .i64 x.ni),(.int .i64 x.ng),(.lst .knot x.nh),(.bool x.np),(.int .i64 x.nr)])]=f0 x:=T0 x
theorem f0_eq (x:Node):f0 x=some (.agg [.int .i64 (aM x).slo,.int .i64 (aM x).shi],[]):=by
  show sh0 x=_
  unfold sh0 aM
  cases x.nk == 3<;>rfl
theorem ok:CtxOk Tryz.prog X:=aI tab spN dpN
theorem okM:MOk Tryz.prog X:=fun g sp h=>by cases h
theorem spec (x:Node):aj Tryz.prog E 113 [(.agg [(.str x.nn),(.int .i64 x.nk),(.int .i64 x.nx),(.int .i64 x.ny),(.int .i64 x.ni),(.int .i64 x.ng),(.lst .knot x.nh),(.bool x.np),(.int .i64 x.nr)])] (.agg [(.int .i64 ((aM x).slo)),(.int .i64 ((aM x).shi))]) [] :=
  cU ok okM Tryz.call113 Tryz.func113 (by kernel_rfl) (by kernel_rfl) (by kernel_rfl) (by show 1≤16; decide) (by decide) (by rfl) ((run x).trans (f0_eq x))
noncomputable def sp:Sp U El:=fun args k=>match args with
  | [.agg [.str x_nn,.int .i64 x_nk,.int .i64 x_nx,.int .i64 x_ny,.int .i64 x_ni,.int .i64 x_ng,.lst .knot x_nh,.bool x_np,.int .i64 x_nr]]=>k (.agg [(.int .i64 ((aM (⟨x_nn,x_nk,x_nx,x_ny,x_ni,x_ng,x_nh,x_np,x_nr⟩:Node)).slo)),(.int .i64 ((aM (⟨x_nn,x_nk,x_nx,x_ny,x_ni,x_ng,x_nh,x_np,x_nr⟩:Node)).shi))]) []
  | _=>none
theorem spOk:SpOk Tryz.prog E 113 sp where
  det:=fun vs=>by
    unfold sp
    split
    · exact ⟨some (_,_),fun _=>rfl⟩
    · exact ⟨none,fun _=>rfl⟩
  ok:=fun vs k r h=>by
    unfold sp at h
    split at h
    · exact ⟨_,_,spec ⟨_,_,_,_,_,_,_,_,_⟩,h⟩
    · cases h
end possible
namespace rpossible
noncomputable def bd:Code:=(Tryz.f114.body).getD .skip
noncomputable def X:Ctx U El:=⟨E,tds,zeros,eqs,aC [],100000,16,ap [],fun _=>none⟩
noncomputable def nmR:Norm U:=⟨[],[16],[],[],[],[],[]⟩
noncomputable def RR:ab U El:=fun st=>ch X 16 [(2,93)] 16 st fun st=>aE nmR st (aD [16] [])
noncomputable def fr0 (x:Node):St U El:=⟨[(0,(.agg [(.str x.nn),(.int .i64 x.nk),(.int .i64 x.nx),(.int .i64 x.ny),(.int .i64 x.ni),(.int .i64 x.ng),(.lst .knot x.nh),(.bool x.np),(.int .i64 x.nr)]))],[]⟩
noncomputable def sh0 (x:Node):R :=
  aa (x.nk == (3:Int)) (some ((.agg [(.int .i64 x.ni),(.int .i64 x.ni)]),[])) (some ((.agg [(.int .i64 x.ni),(.int .i64 x.ng)]),[]))
theorem P0 (x):ac X (cdp [] bd) .d (fr0 x) RR (fun _ _=>none) RR=sh0 x:=by kernel_rfl
noncomputable def f0 (x:Node):R:=sh0 x
theorem T0 (x):ac X bd .d (fr0 x) RR (fun _ _=>none) RR=f0 x:=by
  refine (P0 x).trans ?_
  show _=sh0 x
  rfl
theorem run (x):ij X bd .d nmR [(2,93)] [16] [] [(.agg [(.str x.nn),(.int .i64 x.nk),(.int .i64 x.nx),(.int .i64 x.ny),(.int .i64 x.ni),(.int .i64 x.ng),(.lst .knot x.nh),(.bool x.np),(.int .i64 x.nr)])]=f0 x:=T0 x
theorem f0_eq (x:Node):f0 x=some (.agg [.int .i64 (aM x).slo,.int .i64 (aM x).shi],[]):=by
  show sh0 x=_
  unfold sh0 aM
  cases x.nk == 3<;>rfl
theorem ok:CtxOk Tryz.prog X:=aI tab spN dpN
theorem okM:MOk Tryz.prog X:=fun g sp h=>by cases h
theorem spec (x:Node):aj Tryz.prog E 114 [(.agg [(.str x.nn),(.int .i64 x.nk),(.int .i64 x.nx),(.int .i64 x.ny),(.int .i64 x.ni),(.int .i64 x.ng),(.lst .knot x.nh),(.bool x.np),(.int .i64 x.nr)])] (.agg [(.int .i64 ((aM x).slo)),(.int .i64 ((aM x).shi))]) [] :=
  cU ok okM Tryz.call114 Tryz.func114 (by kernel_rfl) (by kernel_rfl) (by kernel_rfl) (by show 1≤16; decide) (by decide) (by rfl) ((run x).trans (f0_eq x))
noncomputable def sp:Sp U El:=fun args k=>match args with
  | [.agg [.str x_nn,.int .i64 x_nk,.int .i64 x_nx,.int .i64 x_ny,.int .i64 x_ni,.int .i64 x_ng,.lst .knot x_nh,.bool x_np,.int .i64 x_nr]]=>k (.agg [(.int .i64 ((aM (⟨x_nn,x_nk,x_nx,x_ny,x_ni,x_ng,x_nh,x_np,x_nr⟩:Node)).slo)),(.int .i64 ((aM (⟨x_nn,x_nk,x_nx,x_ny,x_ni,x_ng,x_nh,x_np,x_nr⟩:Node)).shi))]) []
  | _=>none
theorem spOk:SpOk Tryz.prog E 114 sp where
  det:=fun vs=>by
    unfold sp
    split
    · exact ⟨some (_,_),fun _=>rfl⟩
    · exact ⟨none,fun _=>rfl⟩
  ok:=fun vs k r h=>by
    unfold sp at h
    split at h
    · exact ⟨_,_,spec ⟨_,_,_,_,_,_,_,_,_⟩,h⟩
    · cases h
end rpossible
namespace narrowed
noncomputable def bd:Code:=(Tryz.f95.body).getD .skip
noncomputable def X:Ctx U El:=⟨E,tds,zeros,eqs,aC [],100000,39,ap [],fun _=>none⟩
noncomputable def nmR:Norm U:=⟨[],[39],[],[],[],[],[]⟩
noncomputable def RR:ab U El:=fun st=>ch X 39 [(6,93)] 39 st fun st=>aE nmR st (aD [39] [])
noncomputable def nm1:Norm U:=⟨[],[3,6],[3,6],[],[],[],[]⟩
noncomputable def nm2:Norm U:=⟨[],[2,3,6,10,11,12],[3,6],[],[],[],[]⟩
noncomputable def nm3:Norm U:=⟨[],[2,3,6,10,11,12],[3,6],[],[],[],[]⟩
abbrev Y1:=Int→Int→Int→Int→R
abbrev Y2:=(List UInt8)→(List Cnd)→Int→Int→Int→Int→Int→Int→R
abbrev Y3:=(List UInt8)→(List Cnd)→Int→Int→Int→Int→Int→Int→R
noncomputable def fr0 (s:Span) (r:Rule) (m:List UInt8):St U El:=⟨[(0,(.agg [(.int .i64 s.slo),(.int .i64 s.shi)])),(1,(.agg [(.str r.rn),(.lst .cnd r.rw),(.str r.rl),(.int .i64 r.rs)])),(2,(.str m))],[]⟩
noncomputable def fr1 (lA:Int) (mA:Int) (aA:Int) (bA:Int):St U El:=⟨[(3,(.ptr 3 0)),(6,(.ptr 6 0))],[(3,(.box 0 [(.int .i64 lA),(.int .i64 mA)])),(6,(.box 0 [(.int .i64 aA),(.int .i64 bA)]))]⟩
noncomputable def fr2 (gA:List UInt8) (oA:List Cnd) (pA:Int) (nA:Int) (lA:Int) (mA:Int) (aA:Int) (bA:Int):St U El:=⟨[(2,(.str gA)),(3,(.ptr 3 0)),(6,(.ptr 6 0)),(10,(.lst .cnd oA)),(11,(.int .i64 pA)),(12,(.int .i64 nA))],[(3,(.box 0 [(.int .i64 lA),(.int .i64 mA)])),(6,(.box 0 [(.int .i64 aA),(.int .i64 bA)]))]⟩
noncomputable def fr3 (gA:List UInt8) (oA:List Cnd) (pA:Int) (nA:Int) (lA:Int) (mA:Int) (aA:Int) (bA:Int):St U El:=⟨[(2,(.str gA)),(3,(.ptr 3 0)),(6,(.ptr 6 0)),(10,(.lst .cnd oA)),(11,(.int .i64 pA)),(12,(.int .i64 nA))],[(3,(.box 0 [(.int .i64 lA),(.int .i64 mA)])),(6,(.box 0 [(.int .i64 aA),(.int .i64 bA)]))]⟩
noncomputable def sh0 (s:Span) (r:Rule) (m:List UInt8) (k2:Y2):R :=
  k2 m r.rw (Int.ofNat (List.length r.rw)) (0:Int) s.slo s.shi (0:Int) (0:Int)
noncomputable def sh1 (lA:Int) (mA:Int) (aA:Int) (bA:Int):R :=
  some ((.agg [(.int .i64 lA),(.int .i64 mA)]),[])
noncomputable def sh2 (gA:List UInt8) (oA:List Cnd) (pA:Int) (nA:Int) (lA:Int) (mA:Int) (aA:Int) (bA:Int) (k1:Y1) (k3:Y3):R :=
  aa (ilt nA pA) (chk (inb nA (List.length oA)) (aa (!(((List.getD oA (Int.toNat nA) cI).cn) == gA)) (k3 gA oA pA nA lA mA aA bA) (aa ((List.getD oA (Int.toNat nA) cI).cb) (k3 gA oA pA nA lA (bif ilt (IntKind.wrap .i64 ((List.getD oA (Int.toNat nA) cI).cl - (1:Int))) mA then (IntKind.wrap .i64 ((List.getD oA (Int.toNat nA) cI).cl - (1:Int))) else mA) aA bA) (k3 gA oA pA nA (bif ilt lA ((List.getD oA (Int.toNat nA) cI).cl) then (List.getD oA (Int.toNat nA) cI).cl else lA) mA aA bA)))) (k1 lA mA aA bA)
noncomputable def sh3 (gA:List UInt8) (oA:List Cnd) (pA:Int) (nA:Int) (lA:Int) (mA:Int) (aA:Int) (bA:Int) (k2:Y2):R :=
  k2 gA oA pA (IntKind.wrap .i64 (nA+(1:Int))) lA mA aA bA
noncomputable def it2 (Kb1:ab U El) (n:Nat):ab U El:=bw nm2 (fun st' K'=>ac X (cdp [1,0,1,0,0] bd) (.seq none .d (.seq none .d (.seq (some nm3) .d .d))) st' K' (aq 0 (ah nm1 Kb1) (fun _ _=>none)) RR) n
noncomputable def ct1:ab U El:=fun st=>ac X (cdp [1,1] bd) .d st RR (fun _ _=>none) RR
noncomputable def ct3 (Kb1 Kb2:ab U El):ab U El:=fun st=>ac X (cdp [1,0,1,0,0,1,1,1] bd) .d st (ah nm2 Kb2) (aq 0 (ah nm1 Kb1) (fun _ _=>none)) RR
theorem P0 (s r m):ac X (cdp [] bd) (.seq none .d (.seq (some nm1) (.seq none .d (.block (.loop nm2 (.seq none .d (.seq none .d (.seq (some nm3) .d .d)))))) .d)) (fr0 s r m) RR (fun _ _=>none) RR=sh0 s r m (fun y0 y1 y2 y3 y4 y5 y6 y7=>(hid (it2 (hid ct1) 100000)) (fr2 y0 y1 y2 y3 y4 y5 y6 y7)):=by kernel_rfl
theorem P1 (lA mA aA bA):ct1 (fr1 lA mA aA bA)=sh1 lA mA aA bA:=by kernel_rfl
theorem P2 (gA oA pA nA lA mA aA bA) (Kb1 Kb2:ab U El):ac X (cdp [1,0,1,0,0] bd) (.seq none .d (.seq none .d (.seq (some nm3) .d .d))) (fr2 gA oA pA nA lA mA aA bA) (ah nm2 Kb2) (aq 0 (ah nm1 Kb1) (fun _ _=>none)) RR=sh2 gA oA pA nA lA mA aA bA (fun y0 y1 y2 y3=>Kb1 (fr1 y0 y1 y2 y3)) (fun y0 y1 y2 y3 y4 y5 y6 y7=>(hid (ct3 Kb1 Kb2)) (fr3 y0 y1 y2 y3 y4 y5 y6 y7)):=by kernel_rfl
theorem P3 (gA oA pA nA lA mA aA bA) (Kb1 Kb2:ab U El):ct3 Kb1 Kb2 (fr3 gA oA pA nA lA mA aA bA)=sh3 gA oA pA nA lA mA aA bA (fun y0 y1 y2 y3 y4 y5 y6 y7=>Kb2 (fr2 y0 y1 y2 y3 y4 y5 y6 y7)):=by kernel_rfl
noncomputable def f1 (lA:Int) (mA:Int) (aA:Int) (bA:Int):R:=sh1 lA mA aA bA
noncomputable def f3 (k2:Y2) (gA:List UInt8) (oA:List Cnd) (pA:Int) (nA:Int) (lA:Int) (mA:Int) (aA:Int) (bA:Int):R:=sh3 gA oA pA nA lA mA aA bA k2
noncomputable def f2:Nat→Y2
  | 0=>fun _ _ _ _ _ _ _ _=>none
  | n+1=>fun gA oA pA nA lA mA aA bA=>sh2 gA oA pA nA lA mA aA bA f1 (f3 (f2 n))
noncomputable def f0 (s:Span) (r:Rule) (m:List UInt8):R:=sh0 s r m (f2 100000)
theorem T1 (lA mA aA bA):(hid ct1) (fr1 lA mA aA bA)=f1 lA mA aA bA:=by
  refine (congrFun (ai _) _).trans <| (P1 lA mA aA bA).trans ?_
  show _=sh1 lA mA aA bA
  rfl
theorem T3 (KL2:ab U El) (k2:Y2) (h2:∀ gA oA pA nA lA mA aA bA,KL2 (fr2 gA oA pA nA lA mA aA bA)=k2 gA oA pA nA lA mA aA bA) (gA oA pA nA lA mA aA bA):(hid (ct3 (hid ct1) KL2)) (fr3 gA oA pA nA lA mA aA bA)=f3 k2 gA oA pA nA lA mA aA bA:=by
  refine (congrFun (ai _) _).trans <| (P3 gA oA pA nA lA mA aA bA (hid ct1) KL2).trans ?_
  show _=sh3 gA oA pA nA lA mA aA bA k2
  simp only [h2]
theorem T2:∀ (n:Nat),∀ gA oA pA nA lA mA aA bA,it2 (hid ct1) n (fr2 gA oA pA nA lA mA aA bA)=f2 n gA oA pA nA lA mA aA bA:=by
  intro n
  induction n with
  | zero=>intros; rfl
  | succ n ih =>
    intro gA oA pA nA lA mA aA bA
    refine (P2 gA oA pA nA lA mA aA bA (hid ct1) (it2 (hid ct1) n)).trans ?_
    show _=sh2 gA oA pA nA lA mA aA bA f1 (f3 (f2 n))
    simp only [T1,T3 (it2 (hid ct1) n) (f2 n) ih]
theorem H2 (gA oA pA nA lA mA aA bA):hid (it2 (hid ct1) 100000) (fr2 gA oA pA nA lA mA aA bA)=f2 100000 gA oA pA nA lA mA aA bA:=(congrFun (ai _) _).trans (T2 100000 gA oA pA nA lA mA aA bA)
theorem T0 (s r m):ac X bd (.seq none .d (.seq (some nm1) (.seq none .d (.block (.loop nm2 (.seq none .d (.seq none .d (.seq (some nm3) .d .d)))))) .d)) (fr0 s r m) RR (fun _ _=>none) RR=f0 s r m:=by
  refine (P0 s r m).trans ?_
  show _=sh0 s r m (f2 100000)
  simp only [H2]
theorem run (s r m):ij X bd (.seq none .d (.seq (some nm1) (.seq none .d (.block (.loop nm2 (.seq none .d (.seq none .d (.seq (some nm3) .d .d)))))) .d)) nmR [(6,93)] [39] [] [(.agg [(.int .i64 s.slo),(.int .i64 s.shi)]),(.agg [(.str r.rn),(.lst .cnd r.rw),(.str r.rl),(.int .i64 r.rs)]),(.str m)]=f0 s r m:=T0 s r m
theorem loop (m : List UInt8) (w : List Cnd) (hw : okW w = true) : ∀ (n i : Nat) (s : Span), w.length < n + i → i ≤ w.length → f2 n m w (Int.ofNat w.length) (i : Int) s.slo s.shi 0 0 = some (.agg [.int .i64 (nar m s (w.drop i)).slo, .int .i64 (nar m s (w.drop i)).shi], []) := by
  have hl:=pd hw
  intro n
  induction n with
  | zero=>intro i s h1 h2; omega
  | succ n ih =>
    intro i s h1 h2
    show sh2 m w (Int.ofNat w.length) (i:Int) s.slo s.shi 0 0 f1 (f3 (f2 n))=_
    unfold sh2
    by_cases hi:i < w.length
    · have hk : ∀ s' : Span, f3 (f2 n) m w (Int.ofNat w.length) (i : Int) s'.slo s'.shi 0 0 = some (.agg [.int .i64 (nar m s' (w.drop (i + 1))).slo, .int .i64 (nar m s' (w.drop (i + 1))).shi], []) := fun s' => by
        show f2 n m w (Int.ofNat w.length) (IntKind.wrap .i64 ((i:Int)+1)) s'.slo s'.shi 0 0=_
        rw [bD i (by omega)]
        exact ih (i+1) s' (by omega) hi
      rw [aX (by simp; omega),aW hi,ak,ar hi,bc hi,rT hw _ (List.getElem_mem hi)]
      simp only [bG,bL,nar]
      unfold sU
      generalize w[i]=c
      cases h1:c.cn == m
      · exact hk s
      · cases h2 : c.cb
        · exact hk ⟨bif ilt s.slo c.cl then c.cl else s.slo,s.shi⟩
        · exact hk ⟨s.slo,bif ilt (c.cl - 1) s.shi then c.cl - 1 else s.shi⟩
    · have : i = w.length := by omega
      subst this
      rw [aR (by simp),List.drop_length]
      rfl
theorem f0_eq (s:Span) (r:Rule) (m:List UInt8) (h:okW (Rule.rw r)=true):f0 s r m=some (.agg [.int .i64 (nar m s r.rw).slo,.int .i64 (nar m s r.rw).shi],[]) :=
  loop m r.rw h 100000 0 s (by have:=pd h; omega) (by omega)
theorem ok:CtxOk Tryz.prog X:=aI tab spN dpN
theorem okM:MOk Tryz.prog X:=fun g sp h=>by cases h
theorem spec (s:Span) (r:Rule) (m:List UInt8) (h:(okW (Rule.rw r))=true):aj Tryz.prog E 95 [(.agg [(.int .i64 s.slo),(.int .i64 s.shi)]),(.agg [(.str r.rn),(.lst .cnd r.rw),(.str r.rl),(.int .i64 r.rs)]),(.str m)] (.agg [(.int .i64 ((nar m s (Rule.rw r)).slo)),(.int .i64 ((nar m s (Rule.rw r)).shi))]) [] :=
  cU ok okM Tryz.call95 Tryz.func95 (by kernel_rfl) (by kernel_rfl) (by kernel_rfl) (by show 3≤39; decide) (by decide) (by rfl) ((run s r m).trans (f0_eq s r m h))
noncomputable def sp:Sp U El:=fun args k=>match args with
  | [.agg [.int .i64 s_slo,.int .i64 s_shi],.agg [.str r_rn,.lst .cnd r_rw,.str r_rl,.int .i64 r_rs],.str m]=>chk (okW (Rule.rw (⟨r_rn,r_rw,r_rl,r_rs⟩:Rule))) (k (.agg [(.int .i64 ((nar m (⟨s_slo,s_shi⟩:Span) (Rule.rw (⟨r_rn,r_rw,r_rl,r_rs⟩:Rule))).slo)),(.int .i64 ((nar m (⟨s_slo,s_shi⟩:Span) (Rule.rw (⟨r_rn,r_rw,r_rl,r_rs⟩:Rule))).shi))]) [])
  | _=>none
theorem spOk:SpOk Tryz.prog E 95 sp where
  det:=fun vs=>by
    unfold sp
    split
    · exact aY _ _ _
    · exact ⟨none,fun _=>rfl⟩
  ok:=fun vs k r h=>by
    unfold sp at h
    split at h
    · obtain ⟨h1, h2⟩ := af h
      exact ⟨_,_,spec ⟨_,_⟩ ⟨_,_,_,_⟩ _ h1,h2⟩
    · cases h
end narrowed
end Go.Proofs.YthdimnlkcgchoaaGreat

namespace Go.Proofs.YthdimnlkcgchoaaGreat
set_option linter.unusedSectionVars false
set_option linter.unusedSimpArgs false
set_option linter.unusedVariables false
set_option maxRecDepth 100000
noncomputable def l9 (n:Net) (a b:Rule):Bool:=(a.rl == b.rl)&&((a.rs != b.rs)&&dq n.nds (a.rw++b.rw))
noncomputable def cZ (n:Net) (i:Int) (a:Rule):Nat→List Rule→List Pair
  | _,[]=>[]
  | k,b :: l=>bif l9 n a b then ⟨i,(k:Int)⟩ :: cZ n i a (k+1) l else cZ n i a (k+1) l
noncomputable def mY (n:Net):Nat→List Rule→List Pair
  | _,[]=>[]
  | i,a :: l=>cZ n i a (i+1) l++mY n (i+1) l
noncomputable def j8 (l:List Rule) (n:Net):List Pair:=mY n 0 l
noncomputable def kY (l:List Rule) (n:Net):List Pair:=bif aV l n == 0 then j8 l n else []
noncomputable def dt (l:List Rule) (a:Int):Bool:=ile 0 a&&ilt a (Int.ofNat l.length)
noncomputable def qW (l:List Rule) (n:Net) (a b:Int):Option (List Int):=fw n.nds ((List.getD l (Int.toNat a) az).rw++(List.getD l (Int.toNat b) az).rw)
noncomputable def qX (l:List Rule) (n:Net) (a b:Int):List Int:=bif aV l n == 0&&(dt l a&&dt l b) then (qW l n a b).getD [] else []
noncomputable def qY (l:List Rule) (n:Net) (a b:Int):Int:=bif aV l n != 0 then aV l n else bif dt l a&&dt l b then (bif (qW l n a b).isSome then 0 else 12) else 2
noncomputable def j9 (n:Net):Nat→List Rule→List Int
  | _,[]=>[]
  | i,a :: l=>bif dq n.nds a.rw then j9 n (i+1) l else (i:Int) :: j9 n (i+1) l
noncomputable def pe (l:List Rule) (n:Net):List Int:=bif aV l n == 0 then j9 n 0 l else []
noncomputable def qZ (l:List Rule) (n:Net):Bool:=(aV l n == 0)&&(Int.ofNat (j8 l n).length == 0)
theorem ma (n:Net) (i:Int) (a:Rule):∀ (l:List Rule) (k:Nat),(cZ n i a k l).length≤l.length:=by
  intro l
  induction l with
  | nil=>intro k; simp [cZ]
  | cons b l ih =>
    intro k
    have:=ih (k+1)
    simp only [cZ,List.length_cons]
    cases l9 n a b
    · simp only [cond_false]; omega
    · simp only [cond_true,List.length_cons]; omega
theorem gM {l:List Rule} {n:Net} (h:aV l n=0):a6 l=true∧cz n=true∧ca l n=true:=by
  unfold aV at h
  cases h1:a6 l<;>cases h2:cz n<;>cases h3:ca l n<;>simp_all
theorem ra {n:Net} (h:cz n=true):∀ x∈n.nds,fe x=true:=fun x hx=>by
  simp only [cz,Bool.and_eq_true] at h
  obtain ⟨i,hi,rfl⟩:=List.getElem_of_mem hx
  have:=allI_iff.1 h.2.2.1 i _ (List.getElem?_eq_getElem hi)
  simp only [ec,Bool.not_eq_true',Bool.or_eq_false_iff] at this
  simpa using this.1
theorem rb {a b:Rule} (ha:cW a=true) (hb:cW b=true):(okR [a,b]&&iC [a,b])=true:=by
  have h1:=(cK ha).1; have h2:=(cK hb).1
  simp only [okR,iC,List.all_cons,List.all_nil,Bool.and_true,iE ha,iE hb,bE (show a.rw.length≤90000 by omega),bE (show b.rw.length≤90000 by omega),bE (show ([a,b]:List Rule).length≤90000 by simp)]
theorem sr {a:Rule} (ha:cW a=true):(okR [a]&&iC [a])=true:=by
  have h1:=(cK ha).1
  simp only [okR,iC,List.all_cons,List.all_nil,Bool.and_true,iE ha,bE (show a.rw.length≤90000 by omega),bE (show ([a]:List Rule).length≤90000 by simp)]
theorem sd (a b:Rule):List.flatMap Rule.rw [a,b]=a.rw++b.rw:=by simp
theorem sV (a:Rule):List.flatMap Rule.rw [a]=a.rw:=by simp
namespace least
noncomputable def bd:Code:=(Tryz.f63.body).getD .skip
noncomputable def X:Ctx U El:=⟨E,tds,zeros,eqs,aC [(95,narrowed.sp),(97,empty.sp),(113,possible.sp)],100000,46,ap [],fun _=>none⟩
noncomputable def nmR:Norm U:=⟨[(4,.int)],[4,5],[4],[],[],[],[]⟩
noncomputable def RR:ab U El:=fun st=>aE nmR st (aD [4,5] [4])
noncomputable def nm1:Norm U:=⟨[(6,.int)],[6],[6],[],[],[],[]⟩
noncomputable def nm2:Norm U:=⟨[(6,.int)],[1,6,17,18,19],[6],[],[],[],[]⟩
noncomputable def nm3:Norm U:=⟨[(6,.int)],[1,6,17,18,19],[6],[],[],[],[]⟩
noncomputable def nm4:Norm U:=⟨[(6,.int)],[1,6,9,17,18,19],[6,9],[],[],[],[]⟩
noncomputable def nm5:Norm U:=⟨[(6,.int)],[1,6,8,9,17,18,19,25,26,27],[6,8,9],[],[],[],[(8,6,.knot)]⟩
abbrev Y1:=(List Int)→R
abbrev Y2:=(List Rule)→(List Int)→(List Node)→Int→Int→R
abbrev Y3:=(List Rule)→(List Int)→(List Node)→Int→Int→R
abbrev Y4:=(List Rule)→(List Int)→(List Node)→Int→Int→Span→R
abbrev Y5:=(List Rule)→(List Int)→(List Node)→Int→Int→(List Rule)→Int→Int→(List UInt8)→Int→Int→Int→Int→Int→(List Knot)→Bool→Int→Span→R
noncomputable def fr0 (n:Net) (l:List Rule):St U El:=⟨[(0,(.agg [(.lst .node n.nds),(.lst .link n.lks)])),(1,(.lst .rule l))],[]⟩
noncomputable def fr1 (aA:List Int):St U El:=⟨[(6,(.ful 6))],[(6,(.rows .int aA))]⟩
noncomputable def fr2 (l1:List Rule) (aA:List Int) (kA:List Node) (lA:Int) (jA:Int):St U El:=⟨[(1,(.lst .rule l1)),(6,(.ful 6)),(17,(.lst .node kA)),(18,(.int .i64 lA)),(19,(.int .i64 jA))],[(6,(.rows .int aA))]⟩
noncomputable def fr3 (l1:List Rule) (aA:List Int) (kA:List Node) (lA:Int) (jA:Int):St U El:=⟨[(1,(.lst .rule l1)),(6,(.ful 6)),(17,(.lst .node kA)),(18,(.int .i64 lA)),(19,(.int .i64 jA))],[(6,(.rows .int aA))]⟩
noncomputable def fr4 (l1:List Rule) (aA:List Int) (kA:List Node) (lA:Int) (jA:Int) (b9:Span):St U El:=⟨[(1,(.lst .rule l1)),(6,(.ful 6)),(9,(.ptr 9 0)),(17,(.lst .node kA)),(18,(.int .i64 lA)),(19,(.int .i64 jA))],[(6,(.rows .int aA)),(9,(.box 0 [(.int .i64 b9.slo),(.int .i64 b9.shi)]))]⟩
noncomputable def fr5 (l1:List Rule) (aA:List Int) (kA:List Node) (lA:Int) (jA:Int) (vA:List Rule) (wA:Int) (uA:Int) (hA:List UInt8) (iA:Int) (mA:Int) (nA:Int) (oA:Int) (pA:Int) (qA:List Knot) (rA:Bool) (sA:Int) (b9:Span):St U El:=⟨[(1,(.lst .rule l1)),(6,(.ful 6)),(8,(.ptr 8 0)),(9,(.ptr 9 0)),(17,(.lst .node kA)),(18,(.int .i64 lA)),(19,(.int .i64 jA)),(25,(.lst .rule vA)),(26,(.int .i64 wA)),(27,(.int .i64 uA))],[(6,(.rows .int aA)),(8,(.box 0 [(.str hA),(.int .i64 iA),(.int .i64 mA),(.int .i64 nA),(.int .i64 oA),(.int .i64 pA),(.lst .knot qA),(.bool rA),(.int .i64 sA)])),(9,(.box 0 [(.int .i64 b9.slo),(.int .i64 b9.shi)]))]⟩
noncomputable def sh0 (n:Net) (l:List Rule) (k2:Y2):R :=
  chk (ile 0 (0:Int)&&ile (0:Int) (Int.ofNat (List.length n.nds))&&ile ((Int.ofNat (List.length n.nds)) * 8) 140737488355328) (k2 l (List.replicate 0 aL) n.nds (Int.ofNat (List.length n.nds)) (0:Int))
noncomputable def sh1 (aA:List Int):R :=
  some ((.tup [(.ful 0),(.bool true)]),[(0,.rows .int aA)])
noncomputable def sh2 (l1:List Rule) (aA:List Int) (kA:List Node) (lA:Int) (jA:Int) (k1:Y1) (k5:Y5):R :=
  aa (ilt jA lA) (chk (inb jA (List.length kA)) (k5 l1 aA kA lA jA l1 (Int.ofNat (List.length l1)) (0:Int) ((List.getD kA (Int.toNat jA) aO).nn) ((List.getD kA (Int.toNat jA) aO).nk) ((List.getD kA (Int.toNat jA) aO).nx) ((List.getD kA (Int.toNat jA) aO).ny) ((List.getD kA (Int.toNat jA) aO).ni) ((List.getD kA (Int.toNat jA) aO).ng) ((List.getD kA (Int.toNat jA) aO).nh) ((List.getD kA (Int.toNat jA) aO).np) ((List.getD kA (Int.toNat jA) aO).nr) (aM (List.getD kA (Int.toNat jA) aO)))) (k1 aA)
noncomputable def sh3 (l1:List Rule) (aA:List Int) (kA:List Node) (lA:Int) (jA:Int) (k2:Y2):R :=
  k2 l1 aA kA lA (IntKind.wrap .i64 (jA+(1:Int)))
noncomputable def sh4 (l1:List Rule) (aA:List Int) (kA:List Node) (lA:Int) (jA:Int) (b9:Span) (k3:Y3):R :=
  aa (ilt (Span.shi b9) (Span.slo b9)) (some ((.tup [(.ful 0),(.bool false)]),[(0,.rows .int ([]:List Int))])) (chk (nle ((List.length aA+List.length ([b9.slo]:List Int)) * 8) 140737488355328&&nle (List.length aA+List.length ([b9.slo]:List Int)) 9223372036854775807) (k3 l1 (aA++([b9.slo]:List Int)) kA lA jA))
noncomputable def sh5 (l1:List Rule) (aA:List Int) (kA:List Node) (lA:Int) (jA:Int) (vA:List Rule) (wA:Int) (uA:Int) (hA:List UInt8) (iA:Int) (mA:Int) (nA:Int) (oA:Int) (pA:Int) (qA:List Knot) (rA:Bool) (sA:Int) (b9:Span) (k4:Y4) (k5:Y5):R :=
  aa (ilt uA wA) (chk (inb uA (List.length vA)) (chk (okW (Rule.rw (List.getD vA (Int.toNat uA) az))) (k5 l1 aA kA lA jA vA wA (IntKind.wrap .i64 (uA+(1:Int))) hA iA mA nA oA pA qA rA sA (nar hA b9 (Rule.rw (List.getD vA (Int.toNat uA) az)))))) (k4 l1 aA kA lA jA b9)
noncomputable def it2 (Kb1:ab U El) (n:Nat):ab U El:=bw nm2 (fun st' K'=>ac X (cdp [1,1,0,1,0,0] bd) (.seq none .d (.seq none .d (.seq (some nm3) (.block (.seq none .d (.seq none .d (.seq (some nm4) (.seq none .d (.block (.loop nm5 .d))) .d)))) .d))) st' K' (aq 0 (ah nm1 Kb1) (fun _ _=>none)) RR) n
noncomputable def it5 (Kb1 Kb3 Kb4:ab U El) (n:Nat):ab U El:=bw nm5 (fun st' K'=>ac X (cdp [1,1,0,1,0,0,1,1,0,0,1,1,0,1,0,0] bd) .d st' K' (aq 2 (ah nm4 Kb4) (aq 1 (ah nm3 Kb3) (aq 0 (ah nm1 Kb1) (fun _ _=>none)))) RR) n
noncomputable def ct1:ab U El:=fun st=>ac X (cdp [1,1,1] bd) .d st RR (fun _ _=>none) RR
noncomputable def ct3 (Kb1 Kb2:ab U El):ab U El:=fun st=>ac X (cdp [1,1,0,1,0,0,1,1,1] bd) .d st (ah nm2 Kb2) (aq 0 (ah nm1 Kb1) (fun _ _=>none)) RR
noncomputable def ct4 (Kb1 Kb3:ab U El):ab U El:=fun st=>ac X (cdp [1,1,0,1,0,0,1,1,0,0,1,1,1] bd) .d st (ah nm3 Kb3) (aq 1 (ah nm3 Kb3) (aq 0 (ah nm1 Kb1) (fun _ _=>none))) RR
theorem P0 (n l):ac X (cdp [] bd) (.seq none .d (.seq none .d (.seq (some nm1) (.seq none .d (.block (.loop nm2 (.seq none .d (.seq none .d (.seq (some nm3) (.block (.seq none .d (.seq none .d (.seq (some nm4) (.seq none .d (.block (.loop nm5 .d))) .d)))) .d)))))) .d))) (fr0 n l) RR (fun _ _=>none) RR=sh0 n l (fun y0 y1 y2 y3 y4=>(hid (it2 (hid ct1) 100000)) (fr2 y0 y1 y2 y3 y4)):=by kernel_rfl
theorem P1 (aA):ct1 (fr1 aA)=sh1 aA:=by kernel_rfl
theorem P2 (l1 aA kA lA jA) (Kb1 Kb2:ab U El):ac X (cdp [1,1,0,1,0,0] bd) (.seq none .d (.seq none .d (.seq (some nm3) (.block (.seq none .d (.seq none .d (.seq (some nm4) (.seq none .d (.block (.loop nm5 .d))) .d)))) .d))) (fr2 l1 aA kA lA jA) (ah nm2 Kb2) (aq 0 (ah nm1 Kb1) (fun _ _=>none)) RR=sh2 l1 aA kA lA jA (fun y0=>Kb1 (fr1 y0)) (fun y0 y1 y2 y3 y4 y5 y6 y7 y8 y9 y10 y11 y12 y13 y14 y15 y16 y17=>(hid (it5 Kb1 (hid (ct3 Kb1 Kb2)) (hid (ct4 Kb1 (hid (ct3 Kb1 Kb2)))) 100000)) (fr5 y0 y1 y2 y3 y4 y5 y6 y7 y8 y9 y10 y11 y12 y13 y14 y15 y16 y17)):=by kernel_rfl
theorem P3 (l1 aA kA lA jA) (Kb1 Kb2:ab U El):ct3 Kb1 Kb2 (fr3 l1 aA kA lA jA)=sh3 l1 aA kA lA jA (fun y0 y1 y2 y3 y4=>Kb2 (fr2 y0 y1 y2 y3 y4)):=by kernel_rfl
theorem P4 (l1 aA kA lA jA b9) (Kb1 Kb3:ab U El):ct4 Kb1 Kb3 (fr4 l1 aA kA lA jA b9)=sh4 l1 aA kA lA jA b9 (fun y0 y1 y2 y3 y4=>Kb3 (fr3 y0 y1 y2 y3 y4)):=by kernel_rfl
theorem P5 (l1 aA kA lA jA vA wA uA hA iA mA nA oA pA qA rA sA b9) (Kb1 Kb3 Kb4 Kb5:ab U El):ac X (cdp [1,1,0,1,0,0,1,1,0,0,1,1,0,1,0,0] bd) .d (fr5 l1 aA kA lA jA vA wA uA hA iA mA nA oA pA qA rA sA b9) (ah nm5 Kb5) (aq 2 (ah nm4 Kb4) (aq 1 (ah nm3 Kb3) (aq 0 (ah nm1 Kb1) (fun _ _=>none)))) RR=sh5 l1 aA kA lA jA vA wA uA hA iA mA nA oA pA qA rA sA b9 (fun y0 y1 y2 y3 y4 y5=>Kb4 (fr4 y0 y1 y2 y3 y4 y5)) (fun y0 y1 y2 y3 y4 y5 y6 y7 y8 y9 y10 y11 y12 y13 y14 y15 y16 y17=>Kb5 (fr5 y0 y1 y2 y3 y4 y5 y6 y7 y8 y9 y10 y11 y12 y13 y14 y15 y16 y17)):=by kernel_rfl
noncomputable def f1 (aA:List Int):R:=sh1 aA
noncomputable def f3 (k2:Y2) (l1:List Rule) (aA:List Int) (kA:List Node) (lA:Int) (jA:Int):R:=sh3 l1 aA kA lA jA k2
noncomputable def f4 (k2:Y2) (l1:List Rule) (aA:List Int) (kA:List Node) (lA:Int) (jA:Int) (b9:Span):R:=sh4 l1 aA kA lA jA b9 (f3 k2)
noncomputable def f5 (k2:Y2):Nat→Y5
  | 0=>fun _ _ _ _ _ _ _ _ _ _ _ _ _ _ _ _ _ _=>none
  | n+1=>fun l1 aA kA lA jA vA wA uA hA iA mA nA oA pA qA rA sA b9=>sh5 l1 aA kA lA jA vA wA uA hA iA mA nA oA pA qA rA sA b9 (f4 k2) (f5 k2 n)
noncomputable def f2:Nat→Y2
  | 0=>fun _ _ _ _ _=>none
  | n+1=>fun l1 aA kA lA jA=>sh2 l1 aA kA lA jA f1 (f5 (f2 n) 100000)
noncomputable def f0 (n:Net) (l:List Rule):R:=sh0 n l (f2 100000)
theorem T1 (aA):(hid ct1) (fr1 aA)=f1 aA:=by
  refine (congrFun (ai _) _).trans <| (P1 aA).trans ?_
  show _=sh1 aA
  rfl
theorem T3 (KL2:ab U El) (k2:Y2) (h2:∀ l1 aA kA lA jA,KL2 (fr2 l1 aA kA lA jA)=k2 l1 aA kA lA jA) (l1 aA kA lA jA):(hid (ct3 (hid ct1) KL2)) (fr3 l1 aA kA lA jA)=f3 k2 l1 aA kA lA jA:=by
  refine (congrFun (ai _) _).trans <| (P3 l1 aA kA lA jA (hid ct1) KL2).trans ?_
  show _=sh3 l1 aA kA lA jA k2
  simp only [h2]
theorem T4 (KL2:ab U El) (k2:Y2) (h2:∀ l1 aA kA lA jA,KL2 (fr2 l1 aA kA lA jA)=k2 l1 aA kA lA jA) (l1 aA kA lA jA b9):(hid (ct4 (hid ct1) (hid (ct3 (hid ct1) KL2)))) (fr4 l1 aA kA lA jA b9)=f4 k2 l1 aA kA lA jA b9:=by
  refine (congrFun (ai _) _).trans <| (P4 l1 aA kA lA jA b9 (hid ct1) (hid (ct3 (hid ct1) KL2))).trans ?_
  show _=sh4 l1 aA kA lA jA b9 (f3 k2)
  simp only [T3 KL2 k2 h2]
theorem T5 (KL2:ab U El) (k2:Y2) (h2:∀ l1 aA kA lA jA,KL2 (fr2 l1 aA kA lA jA)=k2 l1 aA kA lA jA):∀ (n:Nat),∀ l1 aA kA lA jA vA wA uA hA iA mA nA oA pA qA rA sA b9,it5 (hid ct1) (hid (ct3 (hid ct1) KL2)) (hid (ct4 (hid ct1) (hid (ct3 (hid ct1) KL2)))) n (fr5 l1 aA kA lA jA vA wA uA hA iA mA nA oA pA qA rA sA b9)=f5 k2 n l1 aA kA lA jA vA wA uA hA iA mA nA oA pA qA rA sA b9:=by
  intro n
  induction n with
  | zero=>intros; rfl
  | succ n ih =>
    intro l1 aA kA lA jA vA wA uA hA iA mA nA oA pA qA rA sA b9
    refine (P5 l1 aA kA lA jA vA wA uA hA iA mA nA oA pA qA rA sA b9 (hid ct1) (hid (ct3 (hid ct1) KL2)) (hid (ct4 (hid ct1) (hid (ct3 (hid ct1) KL2)))) (it5 (hid ct1) (hid (ct3 (hid ct1) KL2)) (hid (ct4 (hid ct1) (hid (ct3 (hid ct1) KL2)))) n)).trans ?_
    show _=sh5 l1 aA kA lA jA vA wA uA hA iA mA nA oA pA qA rA sA b9 (f4 k2) (f5 k2 n)
    simp only [T4 KL2 k2 h2,ih]
theorem H5 (KL2:ab U El) (k2:Y2) (h2:∀ l1 aA kA lA jA,KL2 (fr2 l1 aA kA lA jA)=k2 l1 aA kA lA jA) (l1 aA kA lA jA vA wA uA hA iA mA nA oA pA qA rA sA b9):hid (it5 (hid ct1) (hid (ct3 (hid ct1) KL2)) (hid (ct4 (hid ct1) (hid (ct3 (hid ct1) KL2)))) 100000) (fr5 l1 aA kA lA jA vA wA uA hA iA mA nA oA pA qA rA sA b9)=f5 k2 100000 l1 aA kA lA jA vA wA uA hA iA mA nA oA pA qA rA sA b9:=(congrFun (ai _) _).trans (T5 KL2 k2 h2 100000 l1 aA kA lA jA vA wA uA hA iA mA nA oA pA qA rA sA b9)
theorem T2:∀ (n:Nat),∀ l1 aA kA lA jA,it2 (hid ct1) n (fr2 l1 aA kA lA jA)=f2 n l1 aA kA lA jA:=by
  intro n
  induction n with
  | zero=>intros; rfl
  | succ n ih =>
    intro l1 aA kA lA jA
    refine (P2 l1 aA kA lA jA (hid ct1) (it2 (hid ct1) n)).trans ?_
    show _=sh2 l1 aA kA lA jA f1 (f5 (f2 n) 100000)
    simp only [T1,H5 (it2 (hid ct1) n) (f2 n) ih]
theorem H2 (l1 aA kA lA jA):hid (it2 (hid ct1) 100000) (fr2 l1 aA kA lA jA)=f2 100000 l1 aA kA lA jA:=(congrFun (ai _) _).trans (T2 100000 l1 aA kA lA jA)
theorem T0 (n l):ac X bd (.seq none .d (.seq none .d (.seq (some nm1) (.seq none .d (.block (.loop nm2 (.seq none .d (.seq none .d (.seq (some nm3) (.block (.seq none .d (.seq none .d (.seq (some nm4) (.seq none .d (.block (.loop nm5 .d))) .d)))) .d)))))) .d))) (fr0 n l) RR (fun _ _=>none) RR=f0 n l:=by
  refine (P0 n l).trans ?_
  show _=sh0 n l (f2 100000)
  simp only [H2]
theorem run (n l):aJ X bd (.seq none .d (.seq none .d (.seq (some nm1) (.seq none .d (.block (.loop nm2 (.seq none .d (.seq none .d (.seq (some nm3) (.block (.seq none .d (.seq none .d (.seq (some nm4) (.seq none .d (.block (.loop nm5 .d))) .d)))) .d)))))) .d))) nmR [4,5] [4] [(.agg [(.lst .node n.nds),(.lst .link n.lks)]),(.lst .rule l)]=f0 n l:=T0 n l
theorem inner (l:List Rule) (hl:l.length≤90000) (hw:iC l=true) (out:List Int) (nds:List Node) (lA jA:Int) (x:Node) (k2:List Rule→List Int→List Node→Int→Int→R):∀ (n j:Nat) (s:Span),l.length < n+j→j≤l.length →
    f5 k2 n l out nds lA jA l (Int.ofNat l.length) (j:Int) x.nn x.nk x.nx x.ny x.ni x.ng x.nh x.np x.nr s=f4 k2 l out nds lA jA (nar x.nn s (List.flatMap Rule.rw (l.drop j))):=by
  intro n
  induction n with
  | zero=>intro j s h1 h2; omega
  | succ n ih =>
    intro j s h1 h2
    show sh5 l out nds lA jA l (Int.ofNat l.length) (j:Int) x.nn x.nk x.nx x.ny x.ni x.ng x.nh x.np x.nr s (f4 k2) (f5 k2 n)=_
    unfold sh5
    by_cases hj:j < l.length
    · rw [aX (by simp; omega), aW hj, ak, ar hj, bc hj, List.all_eq_true.1 hw _ (List.getElem_mem hj), bD j (by omega), ih (j + 1) _ (by omega) hj, List.flatMap_cons, ou]
      rfl
    · have : j = l.length := by omega
      subst this
      rw [aR (by simp),List.drop_length]
      rfl
theorem loop (l : List Rule) (hl : l.length ≤ 90000) (hw : iC l = true) (nds : List Node) (hn : nds.length ≤ 90000) : ∀ (n i : Nat) (out : List Int), nds.length < n + i → i ≤ nds.length → out.length = i → f2 n l out nds (Int.ofNat nds.length) (i : Int) = iH out (fw (nds.drop i) (List.flatMap Rule.rw l)) := by
  intro n
  induction n with
  | zero=>intro i out h1 h2; omega
  | succ n ih =>
    intro i out h1 h2 h3
    show sh2 l out nds (Int.ofNat nds.length) (i:Int) f1 (f5 (f2 n) 100000)=_
    unfold sh2
    by_cases hi:i < nds.length
    · rw [aX (by simp; omega), aW hi, ak, ar hi, bc hi]
      have e:=inner l hl hw out nds (Int.ofNat nds.length) (i:Int) nds[i] (f2 n) 100000 0 (aM nds[i]) (by omega) (by omega)
      rw [show ((0:Int))=((0:Nat):Int) from rfl,e,List.drop_zero]
      show chk true (sh4 l out nds (Int.ofNat nds.length) (i:Int) _ (f3 (f2 n)))=_
      unfold sh4 fw
      generalize nar nds[i].nn (aM nds[i]) (List.flatMap Rule.rw l)=s
      cases ilt s.shi s.slo with
      | true=>rfl
      | false =>
        rw [bE (show _≤140737488355328 by simp; omega),bE (show _≤9223372036854775807 by simp; omega)]
        show f2 n l (out++[s.slo]) nds (Int.ofNat nds.length) (IntKind.wrap .i64 ((i:Int)+1))=_
        rw [bD i (by omega),ih (i+1) _ (by omega) hi (by simp; omega),ov]
        rfl
    · have : i = nds.length := by omega
      subst this
      rw [aR (by simp),List.drop_length]
      simp only [cO,fw,iH,List.append_nil]
      rfl
theorem f0_eq (n:Net) (l:List Rule) (h:(okN n&&(okR l&&iC l))=true):f0 n l=some (.tup [.ful 0,.bool (dq n.nds (List.flatMap Rule.rw l))],[(0,.rows .int (iG n.nds (List.flatMap Rule.rw l)))]):=by
  simp only [Bool.and_eq_true] at h
  have h1:=bQ (cr h.1)
  have h2:=h.2.1
  simp only [okR,Bool.and_eq_true] at h2
  show sh0 n l (f2 100000)=_
  unfold sh0
  rw [b7 (by omega),b7 (by simp),b7 (by simp; omega)]
  exact (loop l (bQ h2.1) h.2.2 n.nds h1 100000 0 [] (by omega) (by omega) rfl).trans (mX _ _)
theorem ok:CtxOk Tryz.prog X:=aI tab (spC narrowed.spOk (spC empty.spOk (spC possible.spOk spN))) dpN
theorem okM:MOk Tryz.prog X:=fun g sp h=>by cases h
theorem spec (n:Net) (l:List Rule) (h:((okN n&&(okR l&&iC l)))=true):aj Tryz.prog E 63 [(.agg [(.lst .node n.nds),(.lst .link n.lks)]),(.lst .rule l)] (.tup [(.ful 0),(.bool (dq (Net.nds n) (List.flatMap Rule.rw l)))]) [(0,.rows .int (iG (Net.nds n) (List.flatMap Rule.rw l)))] :=
  ae ok okM Tryz.call63 Tryz.func63 (by kernel_rfl) (by kernel_rfl) (by kernel_rfl) (by show 2≤46; decide) (by decide) (by rfl) ((run n l).trans (f0_eq n l h))
noncomputable def sp:Sp U El:=fun args k=>match args with
  | [.agg [.lst .node n_nds,.lst .link n_lks],.lst .rule l]=>chk ((okN (⟨n_nds,n_lks⟩:Net)&&(okR l&&iC l))) (k (.tup [(.ful 0),(.bool (dq (Net.nds (⟨n_nds,n_lks⟩:Net)) (List.flatMap Rule.rw l)))]) [(0,.rows .int (iG (Net.nds (⟨n_nds,n_lks⟩:Net)) (List.flatMap Rule.rw l)))])
  | _=>none
theorem spOk:SpOk Tryz.prog E 63 sp where
  det:=fun vs=>by
    unfold sp
    split
    · exact aY _ _ _
    · exact ⟨none,fun _=>rfl⟩
  ok:=fun vs k r h=>by
    unfold sp at h
    split at h
    · obtain ⟨h1, h2⟩ := af h
      exact ⟨_,_,spec ⟨_,_⟩ _ h1,h2⟩
    · cases h
end least
end Go.Proofs.YthdimnlkcgchoaaGreat

namespace Go.Proofs.YthdimnlkcgchoaaGreat
set_option linter.unusedSectionVars false
set_option linter.unusedSimpArgs false
set_option linter.unusedVariables false
set_option maxRecDepth 100000
noncomputable def rU (x y:Pair):Bool:=(x.p0 == y.p0)&&((x.p1 == y.p1)&&true)
noncomputable def eqL {α:Type} (q:α→α→Bool):List α→List α→Bool
  | [],[]=>true
  | x :: a,y :: b=>q x y&&eqL q a b
  | _,_=>false
noncomputable def kZ {α:Type} (q:α→α→Bool) (a b:List α):Bool:=bif (Int.ofNat a.length) != (Int.ofNat b.length) then false else eqL q a b
noncomputable def eqI (a b:List Int):Bool:=kZ (fun x y=>x == y) a b
noncomputable def eqP (a b:List Pair):Bool:=kZ rU a b
theorem rc {α:Type} {q:α→α→Bool} (hq:∀ x,q x x=true):∀ a,eqL q a a=true:=by
  intro a
  induction a with
  | nil=>rfl
  | cons x a ih=>simp [eqL,hq,ih]
theorem ow {α:Type} {q:α→α→Bool} (hq:∀ x,q x x=true) (a:List α):kZ q a a=true:=by
  unfold kZ; rw [rc hq]; simp
theorem rd (a:List Int):eqI a a=true:=ow (by simp) a
theorem sW {a b:Nat} (h:a=b):(Int.ofNat a != Int.ofNat b)=false:=by subst h; simp
theorem sX {a b:Nat} (h:a≠b):(Int.ofNat a != Int.ofNat b)=true:=by simp; omega
namespace equalI
noncomputable def bd:Code:=(Tryz.f16.body).getD .skip
noncomputable def X:Ctx U El:=⟨E,tds,zeros,eqs,aC [],100000,26,ap [],fun _=>none⟩
noncomputable def nmR:Norm U:=⟨[],[4],[],[],[],[],[]⟩
noncomputable def RR:ab U El:=fun st=>aE nmR st (aD [4] [])
noncomputable def nm1:Norm U:=⟨[],[],[],[],[],[],[]⟩
noncomputable def nm2:Norm U:=⟨[],[0,1,12,13],[],[],[],[],[]⟩
abbrev Y1:=R
abbrev Y2:=(List Int)→(List Int)→Int→Int→R
noncomputable def fr0 (a:List Int) (b:List Int):St U El:=⟨[(0,(.lst .int a)),(1,(.lst .int b))],[]⟩
noncomputable def fr1:St U El:=⟨[],[]⟩
noncomputable def fr2 (lA:List Int) (mA:List Int) (eA:Int) (dA:Int):St U El:=⟨[(0,(.lst .int lA)),(1,(.lst .int mA)),(12,(.int .i64 eA)),(13,(.int .i64 dA))],[]⟩
noncomputable def sh0 (a:List Int) (b:List Int) (k2:Y2):R :=
  aa ((Int.ofNat (List.length a)) != (Int.ofNat (List.length b))) (some ((.bool false),[])) (k2 a b (Int.ofNat (List.length a)) (0:Int))
noncomputable def sh1:R :=
  some ((.bool true),[])
noncomputable def sh2 (lA:List Int) (mA:List Int) (eA:Int) (dA:Int) (k1:Y1) (k2:Y2):R :=
  aa (ilt dA eA) (chk (inb dA (List.length lA)) (chk (inb dA (List.length mA)) (aa ((List.getD lA (Int.toNat dA) aL) != (List.getD mA (Int.toNat dA) aL)) (some ((.bool false),[])) (k2 lA mA eA (IntKind.wrap .i64 (dA+(1:Int))))))) (k1)
noncomputable def it2 (Kb1:ab U El) (n:Nat):ab U El:=bw nm2 (fun st' K'=>ac X (cdp [1,1,0,1,0,0] bd) .d st' K' (aq 0 (ah nm1 Kb1) (fun _ _=>none)) RR) n
noncomputable def ct1:ab U El:=fun st=>ac X (cdp [1,1,1] bd) .d st RR (fun _ _=>none) RR
theorem P0 (a b):ac X (cdp [] bd) (.seq none .d (.seq none .d (.seq (some nm1) (.seq none .d (.block (.loop nm2 .d))) .d))) (fr0 a b) RR (fun _ _=>none) RR=sh0 a b (fun y0 y1 y2 y3=>(hid (it2 (hid ct1) 100000)) (fr2 y0 y1 y2 y3)):=by kernel_rfl
theorem P1:ct1 (fr1)=sh1:=by kernel_rfl
theorem P2 (lA mA eA dA) (Kb1 Kb2:ab U El):ac X (cdp [1,1,0,1,0,0] bd) .d (fr2 lA mA eA dA) (ah nm2 Kb2) (aq 0 (ah nm1 Kb1) (fun _ _=>none)) RR=sh2 lA mA eA dA (Kb1 (fr1)) (fun y0 y1 y2 y3=>Kb2 (fr2 y0 y1 y2 y3)):=by kernel_rfl
noncomputable def f1:R:=sh1
noncomputable def f2:Nat→Y2
  | 0=>fun _ _ _ _=>none
  | n+1=>fun lA mA eA dA=>sh2 lA mA eA dA f1 (f2 n)
noncomputable def f0 (a:List Int) (b:List Int):R:=sh0 a b (f2 100000)
theorem T1:(hid ct1) (fr1)=f1:=by
  refine (congrFun (ai _) _).trans <| (P1).trans ?_
  show _=sh1
  rfl
theorem T2:∀ (n:Nat),∀ lA mA eA dA,it2 (hid ct1) n (fr2 lA mA eA dA)=f2 n lA mA eA dA:=by
  intro n
  induction n with
  | zero=>intros; rfl
  | succ n ih =>
    intro lA mA eA dA
    refine (P2 lA mA eA dA (hid ct1) (it2 (hid ct1) n)).trans ?_
    show _=sh2 lA mA eA dA f1 (f2 n)
    simp only [T1,ih]
theorem H2 (lA mA eA dA):hid (it2 (hid ct1) 100000) (fr2 lA mA eA dA)=f2 100000 lA mA eA dA:=(congrFun (ai _) _).trans (T2 100000 lA mA eA dA)
theorem T0 (a b):ac X bd (.seq none .d (.seq none .d (.seq (some nm1) (.seq none .d (.block (.loop nm2 .d))) .d))) (fr0 a b) RR (fun _ _=>none) RR=f0 a b:=by
  refine (P0 a b).trans ?_
  show _=sh0 a b (f2 100000)
  simp only [H2]
theorem run (a b):aJ X bd (.seq none .d (.seq none .d (.seq (some nm1) (.seq none .d (.block (.loop nm2 .d))) .d))) nmR [4] [] [(.lst .int a),(.lst .int b)]=f0 a b:=T0 a b
theorem loop (b:List Int):∀ (n i:Nat) (a:List Int),a.length=b.length→a.length≤90000→a.length < n+i→i≤a.length→f2 n a b (Int.ofNat a.length) (i:Int)=aH (eqL (fun x y=>x == y) (a.drop i) (b.drop i)):=by
  intro n
  induction n with
  | zero=>intro i a h1 h2 h3 h4; omega
  | succ n ih =>
    intro i a h1 h2 h3 h4
    show sh2 a b (Int.ofNat a.length) (i:Int) f1 (f2 n)=_
    unfold sh2
    by_cases hi:i < a.length
    · have hj : i < b.length := by omega
      rw [aX (by simp; omega),aW hi,aW hj,ak,ar hi,ar hj,bc hi,bc hj,bD i (by omega),ih (i+1) a h1 h2 (by omega) hi]
      simp only [bG,bL,eqL]
      show aa (!(a[i] == b[i])) (aH false) _=_
      cases a[i] == b[i]<;>rfl
    · have e1 : i = a.length := by omega
      subst e1
      rw [aR (by simp),List.drop_length,h1,List.drop_length]
      rfl
theorem f0_eq (a b:List Int) (h:nle (List.length a) 90000=true):f0 a b=aH (eqI a b):=by
  show sh0 a b (f2 100000)=_
  unfold sh0 eqI kZ
  by_cases e:a.length=b.length
  · rw [sW e]
    exact loop b 100000 0 a e (bQ h) (by have:=bQ h; omega) (by omega)
  · rw [sX e]
    rfl
theorem ok:CtxOk Tryz.prog X:=aI tab spN dpN
theorem okM:MOk Tryz.prog X:=fun g sp h=>by cases h
theorem spec (a:List Int) (b:List Int) (h:(nle (List.length a) 90000)=true):aj Tryz.prog E 16 [(.lst .int a),(.lst .int b)] (.bool (eqI a b)) [] :=
  ae ok okM Tryz.call16 Tryz.func16 (by kernel_rfl) (by kernel_rfl) (by kernel_rfl) (by show 2≤26; decide) (by decide) (by rfl) ((run a b).trans (f0_eq a b h))
noncomputable def sp:Sp U El:=fun args k=>match args with
  | [.lst .int a,.lst .int b]=>chk (nle (List.length a) 90000) (k (.bool (eqI a b)) [])
  | _=>none
theorem spOk:SpOk Tryz.prog E 16 sp where
  det:=fun vs=>by
    unfold sp
    split
    · exact aY _ _ _
    · exact ⟨none,fun _=>rfl⟩
  ok:=fun vs k r h=>by
    unfold sp at h
    split at h
    · obtain ⟨h1, h2⟩ := af h
      exact ⟨_,_,spec _ _ h1,h2⟩
    · cases h
end equalI
namespace equalP
noncomputable def bd:Code:=(Tryz.f21.body).getD .skip
noncomputable def X:Ctx U El:=⟨E,tds,zeros,eqs,aC [],100000,26,ap [],fun _=>none⟩
noncomputable def nmR:Norm U:=⟨[],[4],[],[],[],[],[]⟩
noncomputable def RR:ab U El:=fun st=>aE nmR st (aD [4] [])
noncomputable def nm1:Norm U:=⟨[],[],[],[],[],[],[]⟩
noncomputable def nm2:Norm U:=⟨[],[0,1,12,13],[],[],[],[],[]⟩
abbrev Y1:=R
abbrev Y2:=(List Pair)→(List Pair)→Int→Int→R
noncomputable def fr0 (a:List Pair) (b:List Pair):St U El:=⟨[(0,(.lst .pair a)),(1,(.lst .pair b))],[]⟩
noncomputable def fr1:St U El:=⟨[],[]⟩
noncomputable def fr2 (lA:List Pair) (mA:List Pair) (eA:Int) (dA:Int):St U El:=⟨[(0,(.lst .pair lA)),(1,(.lst .pair mA)),(12,(.int .i64 eA)),(13,(.int .i64 dA))],[]⟩
noncomputable def sh0 (a:List Pair) (b:List Pair) (k2:Y2):R :=
  aa ((Int.ofNat (List.length a)) != (Int.ofNat (List.length b))) (some ((.bool false),[])) (k2 a b (Int.ofNat (List.length a)) (0:Int))
noncomputable def sh1:R :=
  some ((.bool true),[])
noncomputable def sh2 (lA:List Pair) (mA:List Pair) (eA:Int) (dA:Int) (k1:Y1) (k2:Y2):R :=
  aa (ilt dA eA) (chk (inb dA (List.length lA)) (chk (inb dA (List.length mA)) (aa (!(((List.getD lA (Int.toNat dA) l6).p0 == (List.getD mA (Int.toNat dA) l6).p0)&&(((List.getD lA (Int.toNat dA) l6).p1 == (List.getD mA (Int.toNat dA) l6).p1)&&true))) (some ((.bool false),[])) (k2 lA mA eA (IntKind.wrap .i64 (dA+(1:Int))))))) (k1)
noncomputable def it2 (Kb1:ab U El) (n:Nat):ab U El:=bw nm2 (fun st' K'=>ac X (cdp [1,1,0,1,0,0] bd) .d st' K' (aq 0 (ah nm1 Kb1) (fun _ _=>none)) RR) n
noncomputable def ct1:ab U El:=fun st=>ac X (cdp [1,1,1] bd) .d st RR (fun _ _=>none) RR
theorem P0 (a b):ac X (cdp [] bd) (.seq none .d (.seq none .d (.seq (some nm1) (.seq none .d (.block (.loop nm2 .d))) .d))) (fr0 a b) RR (fun _ _=>none) RR=sh0 a b (fun y0 y1 y2 y3=>(hid (it2 (hid ct1) 100000)) (fr2 y0 y1 y2 y3)):=by kernel_rfl
theorem P1:ct1 (fr1)=sh1:=by kernel_rfl
theorem P2 (lA mA eA dA) (Kb1 Kb2:ab U El):ac X (cdp [1,1,0,1,0,0] bd) .d (fr2 lA mA eA dA) (ah nm2 Kb2) (aq 0 (ah nm1 Kb1) (fun _ _=>none)) RR=sh2 lA mA eA dA (Kb1 (fr1)) (fun y0 y1 y2 y3=>Kb2 (fr2 y0 y1 y2 y3)):=by kernel_rfl
noncomputable def f1:R:=sh1
noncomputable def f2:Nat→Y2
  | 0=>fun _ _ _ _=>none
  | n+1=>fun lA mA eA dA=>sh2 lA mA eA dA f1 (f2 n)
noncomputable def f0 (a:List Pair) (b:List Pair):R:=sh0 a b (f2 100000)
theorem T1:(hid ct1) (fr1)=f1:=by
  refine (congrFun (ai _) _).trans <| (P1).trans ?_
  show _=sh1
  rfl
theorem T2:∀ (n:Nat),∀ lA mA eA dA,it2 (hid ct1) n (fr2 lA mA eA dA)=f2 n lA mA eA dA:=by
  intro n
  induction n with
  | zero=>intros; rfl
  | succ n ih =>
    intro lA mA eA dA
    refine (P2 lA mA eA dA (hid ct1) (it2 (hid ct1) n)).trans ?_
    show _=sh2 lA mA eA dA f1 (f2 n)
    simp only [T1,ih]
theorem H2 (lA mA eA dA):hid (it2 (hid ct1) 100000) (fr2 lA mA eA dA)=f2 100000 lA mA eA dA:=(congrFun (ai _) _).trans (T2 100000 lA mA eA dA)
theorem T0 (a b):ac X bd (.seq none .d (.seq none .d (.seq (some nm1) (.seq none .d (.block (.loop nm2 .d))) .d))) (fr0 a b) RR (fun _ _=>none) RR=f0 a b:=by
  refine (P0 a b).trans ?_
  show _=sh0 a b (f2 100000)
  simp only [H2]
theorem run (a b):aJ X bd (.seq none .d (.seq none .d (.seq (some nm1) (.seq none .d (.block (.loop nm2 .d))) .d))) nmR [4] [] [(.lst .pair a),(.lst .pair b)]=f0 a b:=T0 a b
theorem loop (b:List Pair):∀ (n i:Nat) (a:List Pair),a.length=b.length→a.length≤90000→a.length < n+i→i≤a.length→f2 n a b (Int.ofNat a.length) (i:Int)=aH (eqL rU (a.drop i) (b.drop i)):=by
  intro n
  induction n with
  | zero=>intro i a h1 h2 h3 h4; omega
  | succ n ih =>
    intro i a h1 h2 h3 h4
    show sh2 a b (Int.ofNat a.length) (i:Int) f1 (f2 n)=_
    unfold sh2
    by_cases hi:i < a.length
    · have hj : i < b.length := by omega
      rw [aX (by simp; omega),aW hi,aW hj,ak,ar hi,ar hj,bc hi,bc hj,bD i (by omega),ih (i+1) a h1 h2 (by omega) hi]
      simp only [bG,bL,eqL]
      show aa (!(rU a[i] b[i])) (aH false) _=_
      cases rU a[i] b[i]<;>rfl
    · have e1 : i = a.length := by omega
      subst e1
      rw [aR (by simp),List.drop_length,h1,List.drop_length]
      rfl
theorem f0_eq (a b:List Pair) (h:nle (List.length a) 90000=true):f0 a b=aH (eqP a b):=by
  show sh0 a b (f2 100000)=_
  unfold sh0 eqP kZ
  by_cases e:a.length=b.length
  · rw [sW e]
    exact loop b 100000 0 a e (bQ h) (by have:=bQ h; omega) (by omega)
  · rw [sX e]
    rfl
theorem ok:CtxOk Tryz.prog X:=aI tab spN dpN
theorem okM:MOk Tryz.prog X:=fun g sp h=>by cases h
theorem spec (a:List Pair) (b:List Pair) (h:(nle (List.length a) 90000)=true):aj Tryz.prog E 21 [(.lst .pair a),(.lst .pair b)] (.bool (eqP a b)) [] :=
  ae ok okM Tryz.call21 Tryz.func21 (by kernel_rfl) (by kernel_rfl) (by kernel_rfl) (by show 2≤26; decide) (by decide) (by rfl) ((run a b).trans (f0_eq a b h))
noncomputable def sp:Sp U El:=fun args k=>match args with
  | [.lst .pair a,.lst .pair b]=>chk (nle (List.length a) 90000) (k (.bool (eqP a b)) [])
  | _=>none
theorem spOk:SpOk Tryz.prog E 21 sp where
  det:=fun vs=>by
    unfold sp
    split
    · exact aY _ _ _
    · exact ⟨none,fun _=>rfl⟩
  ok:=fun vs k r h=>by
    unfold sp at h
    split at h
    · obtain ⟨h1, h2⟩ := af h
      exact ⟨_,_,spec _ _ h1,h2⟩
    · cases h
end equalP
namespace cfind
noncomputable def bd:Code:=(Tryz.f66.body).getD .skip
noncomputable def X:Ctx U El:=⟨E,tds,zeros,eqs,aC [(63,least.sp)],100000,60,ap [],fun _=>none⟩
noncomputable def nmR:Norm U:=⟨[(4,.pair)],[4],[4],[],[],[],[]⟩
noncomputable def RR:ab U El:=fun st=>aE nmR st (aD [4] [4])
noncomputable def nm1:Norm U:=⟨[(5,.pair)],[5],[5],[],[],[],[]⟩
noncomputable def nm2:Norm U:=⟨[(5,.pair)],[0,3,5,12,13,14],[5,3],[],[],[],[(3,0,.node),(3,1,.link)]⟩
noncomputable def nm3:Norm U:=⟨[(5,.pair)],[0,3,5,12,13,14],[5,3],[],[],[],[(3,0,.node),(3,1,.link)]⟩
noncomputable def nm4:Norm U:=⟨[(5,.pair)],[0,3,5,6,7,8,12,13,14],[5,3,7],[],[],[],[(3,0,.node),(3,1,.link),(7,1,.cnd)]⟩
noncomputable def nm5:Norm U:=⟨[(5,.pair)],[0,3,5,6,7,8,12,13,14],[5,3,7],[],[],[],[(3,0,.node),(3,1,.link),(7,1,.cnd)]⟩
abbrev Y1:=(List Pair)→R
abbrev Y2:=(List Rule)→(List Pair)→(List Rule)→Int→Int→(List Node)→(List Lnk)→R
abbrev Y3:=(List Rule)→(List Pair)→(List Rule)→Int→Int→(List Node)→(List Lnk)→R
abbrev Y4:=(List Rule)→(List Pair)→Int→Int→(List Rule)→Int→Int→(List Node)→(List Lnk)→(List UInt8)→(List Cnd)→(List UInt8)→Int→R
abbrev Y5:=(List Rule)→(List Pair)→Int→Int→(List Rule)→Int→Int→(List Node)→(List Lnk)→(List UInt8)→(List Cnd)→(List UInt8)→Int→R
noncomputable def fr0 (l:List Rule) (n:Net):St U El:=⟨[(0,(.lst .rule l)),(1,(.agg [(.lst .node n.nds),(.lst .link n.lks)]))],[]⟩
noncomputable def fr1 (cA:List Pair):St U El:=⟨[(5,(.ful 5))],[(5,(.rows .pair cA))]⟩
noncomputable def fr2 (l0:List Rule) (cA:List Pair) (eA:List Rule) (dA:Int) (fA:Int) (aA:List Node) (bA:List Lnk):St U El:=⟨[(0,(.lst .rule l0)),(3,(.ptr 3 0)),(5,(.ful 5)),(12,(.lst .rule eA)),(13,(.int .i64 dA)),(14,(.int .i64 fA))],[(5,(.rows .pair cA)),(3,(.box 0 [(.lst .node aA),(.lst .link bA)]))]⟩
noncomputable def fr3 (l0:List Rule) (cA:List Pair) (eA:List Rule) (dA:Int) (fA:Int) (aA:List Node) (bA:List Lnk):St U El:=⟨[(0,(.lst .rule l0)),(3,(.ptr 3 0)),(5,(.ful 5)),(12,(.lst .rule eA)),(13,(.int .i64 dA)),(14,(.int .i64 fA))],[(5,(.rows .pair cA)),(3,(.box 0 [(.lst .node aA),(.lst .link bA)]))]⟩
noncomputable def fr4 (l0:List Rule) (cA:List Pair) (i6:Int) (kA:Int) (eA:List Rule) (dA:Int) (fA:Int) (aA:List Node) (bA:List Lnk) (iA:List UInt8) (jA:List Cnd) (gA:List UInt8) (hA:Int):St U El:=⟨[(0,(.lst .rule l0)),(3,(.ptr 3 0)),(5,(.ful 5)),(6,(.int .i64 i6)),(7,(.ptr 7 0)),(8,(.int .i64 kA)),(12,(.lst .rule eA)),(13,(.int .i64 dA)),(14,(.int .i64 fA))],[(5,(.rows .pair cA)),(3,(.box 0 [(.lst .node aA),(.lst .link bA)])),(7,(.box 0 [(.str iA),(.lst .cnd jA),(.str gA),(.int .i64 hA)]))]⟩
noncomputable def fr5 (l0:List Rule) (cA:List Pair) (i6:Int) (kA:Int) (eA:List Rule) (dA:Int) (fA:Int) (aA:List Node) (bA:List Lnk) (iA:List UInt8) (jA:List Cnd) (gA:List UInt8) (hA:Int):St U El:=⟨[(0,(.lst .rule l0)),(3,(.ptr 3 0)),(5,(.ful 5)),(6,(.int .i64 i6)),(7,(.ptr 7 0)),(8,(.int .i64 kA)),(12,(.lst .rule eA)),(13,(.int .i64 dA)),(14,(.int .i64 fA))],[(5,(.rows .pair cA)),(3,(.box 0 [(.lst .node aA),(.lst .link bA)])),(7,(.box 0 [(.str iA),(.lst .cnd jA),(.str gA),(.int .i64 hA)]))]⟩
noncomputable def sh0 (l:List Rule) (n:Net) (k2:Y2):R :=
  k2 l ([]:List Pair) l (Int.ofNat (List.length l)) (0:Int) n.nds n.lks
noncomputable def sh1 (cA:List Pair):R :=
  some ((.ful 0),[(0,.rows .pair cA)])
noncomputable def sh2 (l0:List Rule) (cA:List Pair) (eA:List Rule) (dA:Int) (fA:Int) (aA:List Node) (bA:List Lnk) (k1:Y1) (k4:Y4):R :=
  aa (ilt fA dA) (chk (inb fA (List.length eA)) (k4 l0 cA fA (IntKind.wrap .i64 (fA+(1:Int))) eA dA fA aA bA ((List.getD eA (Int.toNat fA) az).rn) ((List.getD eA (Int.toNat fA) az).rw) ((List.getD eA (Int.toNat fA) az).rl) ((List.getD eA (Int.toNat fA) az).rs))) (k1 cA)
noncomputable def sh3 (l0:List Rule) (cA:List Pair) (eA:List Rule) (dA:Int) (fA:Int) (aA:List Node) (bA:List Lnk) (k2:Y2):R :=
  k2 l0 cA eA dA (IntKind.wrap .i64 (fA+(1:Int))) aA bA
noncomputable def sh4 (l0:List Rule) (cA:List Pair) (i6:Int) (kA:Int) (eA:List Rule) (dA:Int) (fA:Int) (aA:List Node) (bA:List Lnk) (iA:List UInt8) (jA:List Cnd) (gA:List UInt8) (hA:Int) (k3:Y3) (k5:Y5):R :=
  aa (ilt kA (Int.ofNat (List.length l0))) (chk (inb kA (List.length l0)) (aa (gA == ((List.getD l0 (Int.toNat kA) az).rl)) (aa (hA != (List.getD l0 (Int.toNat kA) az).rs) (chk ((okN (⟨aA,bA⟩:Net)&&(okR ([(⟨iA,jA,gA,hA⟩:Rule),(List.getD l0 (Int.toNat kA) az)]:List Rule)&&iC ([(⟨iA,jA,gA,hA⟩:Rule),(List.getD l0 (Int.toNat kA) az)]:List Rule)))) (aa (dq (Net.nds (⟨aA,bA⟩:Net)) (List.flatMap Rule.rw ([(⟨iA,jA,gA,hA⟩:Rule),(List.getD l0 (Int.toNat kA) az)]:List Rule))) (chk (nle ((List.length cA+List.length ([(⟨i6,kA⟩:Pair)]:List Pair)) * 16) 140737488355328&&nle (List.length cA+List.length ([(⟨i6,kA⟩:Pair)]:List Pair)) 9223372036854775807) (k5 l0 (cA++([(⟨i6,kA⟩:Pair)]:List Pair)) i6 kA eA dA fA aA bA iA jA gA hA)) (k5 l0 cA i6 kA eA dA fA aA bA iA jA gA hA))) (k5 l0 cA i6 kA eA dA fA aA bA iA jA gA hA)) (k5 l0 cA i6 kA eA dA fA aA bA iA jA gA hA))) (k3 l0 cA eA dA fA aA bA)
noncomputable def sh5 (l0:List Rule) (cA:List Pair) (i6:Int) (kA:Int) (eA:List Rule) (dA:Int) (fA:Int) (aA:List Node) (bA:List Lnk) (iA:List UInt8) (jA:List Cnd) (gA:List UInt8) (hA:Int) (k4:Y4):R :=
  k4 l0 cA i6 (IntKind.wrap .i64 (kA+(1:Int))) eA dA fA aA bA iA jA gA hA
noncomputable def it2 (Kb1:ab U El) (n:Nat):ab U El:=bw nm2 (fun st' K'=>ac X (cdp [1,1,0,1,0,0] bd) (.seq none .d (.seq none .d (.seq (some nm3) (.block (.seq none .d (.seq none .d (.block (.loop nm4 (.seq none .d (.seq (some nm5) .d .d))))))) .d))) st' K' (aq 0 (ah nm1 Kb1) (fun _ _=>none)) RR) n
noncomputable def it4 (Kb1 Kb3:ab U El) (n:Nat):ab U El:=bw nm4 (fun st' K'=>ac X (cdp [1,1,0,1,0,0,1,1,0,0,1,1,0,0] bd) (.seq none .d (.seq (some nm5) .d .d)) st' K' (aq 2 (ah nm3 Kb3) (aq 1 (ah nm3 Kb3) (aq 0 (ah nm1 Kb1) (fun _ _=>none)))) RR) n
noncomputable def ct1:ab U El:=fun st=>ac X (cdp [1,1,1] bd) .d st RR (fun _ _=>none) RR
noncomputable def ct3 (Kb1 Kb2:ab U El):ab U El:=fun st=>ac X (cdp [1,1,0,1,0,0,1,1,1] bd) .d st (ah nm2 Kb2) (aq 0 (ah nm1 Kb1) (fun _ _=>none)) RR
noncomputable def ct5 (Kb1 Kb3 Kb4:ab U El):ab U El:=fun st=>ac X (cdp [1,1,0,1,0,0,1,1,0,0,1,1,0,0,1,1] bd) .d st (ah nm4 Kb4) (aq 2 (ah nm3 Kb3) (aq 1 (ah nm3 Kb3) (aq 0 (ah nm1 Kb1) (fun _ _=>none)))) RR
theorem P0 (l n):ac X (cdp [] bd) (.seq none .d (.seq none .d (.seq (some nm1) (.seq none .d (.block (.loop nm2 (.seq none .d (.seq none .d (.seq (some nm3) (.block (.seq none .d (.seq none .d (.block (.loop nm4 (.seq none .d (.seq (some nm5) .d .d))))))) .d)))))) .d))) (fr0 l n) RR (fun _ _=>none) RR=sh0 l n (fun y0 y1 y2 y3 y4 y5 y6=>(hid (it2 (hid ct1) 100000)) (fr2 y0 y1 y2 y3 y4 y5 y6)):=by kernel_rfl
theorem P1 (cA):ct1 (fr1 cA)=sh1 cA:=by kernel_rfl
theorem P2 (l0 cA eA dA fA aA bA) (Kb1 Kb2:ab U El):ac X (cdp [1,1,0,1,0,0] bd) (.seq none .d (.seq none .d (.seq (some nm3) (.block (.seq none .d (.seq none .d (.block (.loop nm4 (.seq none .d (.seq (some nm5) .d .d))))))) .d))) (fr2 l0 cA eA dA fA aA bA) (ah nm2 Kb2) (aq 0 (ah nm1 Kb1) (fun _ _=>none)) RR=sh2 l0 cA eA dA fA aA bA (fun y0=>Kb1 (fr1 y0)) (fun y0 y1 y2 y3 y4 y5 y6 y7 y8 y9 y10 y11 y12=>(hid (it4 Kb1 (hid (ct3 Kb1 Kb2)) 100000)) (fr4 y0 y1 y2 y3 y4 y5 y6 y7 y8 y9 y10 y11 y12)):=by kernel_rfl
theorem P3 (l0 cA eA dA fA aA bA) (Kb1 Kb2:ab U El):ct3 Kb1 Kb2 (fr3 l0 cA eA dA fA aA bA)=sh3 l0 cA eA dA fA aA bA (fun y0 y1 y2 y3 y4 y5 y6=>Kb2 (fr2 y0 y1 y2 y3 y4 y5 y6)):=by kernel_rfl
theorem P4 (l0 cA i6 kA eA dA fA aA bA iA jA gA hA) (Kb1 Kb3 Kb4:ab U El):ac X (cdp [1,1,0,1,0,0,1,1,0,0,1,1,0,0] bd) (.seq none .d (.seq (some nm5) .d .d)) (fr4 l0 cA i6 kA eA dA fA aA bA iA jA gA hA) (ah nm4 Kb4) (aq 2 (ah nm3 Kb3) (aq 1 (ah nm3 Kb3) (aq 0 (ah nm1 Kb1) (fun _ _=>none)))) RR=sh4 l0 cA i6 kA eA dA fA aA bA iA jA gA hA (fun y0 y1 y2 y3 y4 y5 y6=>Kb3 (fr3 y0 y1 y2 y3 y4 y5 y6)) (fun y0 y1 y2 y3 y4 y5 y6 y7 y8 y9 y10 y11 y12=>(hid (ct5 Kb1 Kb3 Kb4)) (fr5 y0 y1 y2 y3 y4 y5 y6 y7 y8 y9 y10 y11 y12)):=by kernel_rfl
theorem P5 (l0 cA i6 kA eA dA fA aA bA iA jA gA hA) (Kb1 Kb3 Kb4:ab U El):ct5 Kb1 Kb3 Kb4 (fr5 l0 cA i6 kA eA dA fA aA bA iA jA gA hA)=sh5 l0 cA i6 kA eA dA fA aA bA iA jA gA hA (fun y0 y1 y2 y3 y4 y5 y6 y7 y8 y9 y10 y11 y12=>Kb4 (fr4 y0 y1 y2 y3 y4 y5 y6 y7 y8 y9 y10 y11 y12)):=by kernel_rfl
noncomputable def f1 (cA:List Pair):R:=sh1 cA
noncomputable def f3 (k2:Y2) (l0:List Rule) (cA:List Pair) (eA:List Rule) (dA:Int) (fA:Int) (aA:List Node) (bA:List Lnk):R:=sh3 l0 cA eA dA fA aA bA k2
noncomputable def f5 (k2:Y2) (k4:Y4) (l0:List Rule) (cA:List Pair) (i6:Int) (kA:Int) (eA:List Rule) (dA:Int) (fA:Int) (aA:List Node) (bA:List Lnk) (iA:List UInt8) (jA:List Cnd) (gA:List UInt8) (hA:Int):R:=sh5 l0 cA i6 kA eA dA fA aA bA iA jA gA hA k4
noncomputable def f4 (k2:Y2):Nat→Y4
  | 0=>fun _ _ _ _ _ _ _ _ _ _ _ _ _=>none
  | n+1=>fun l0 cA i6 kA eA dA fA aA bA iA jA gA hA=>sh4 l0 cA i6 kA eA dA fA aA bA iA jA gA hA (f3 k2) (f5 k2 (f4 k2 n))
noncomputable def f2:Nat→Y2
  | 0=>fun _ _ _ _ _ _ _=>none
  | n+1=>fun l0 cA eA dA fA aA bA=>sh2 l0 cA eA dA fA aA bA f1 (f4 (f2 n) 100000)
noncomputable def f0 (l:List Rule) (n:Net):R:=sh0 l n (f2 100000)
theorem T1 (cA):(hid ct1) (fr1 cA)=f1 cA:=by
  refine (congrFun (ai _) _).trans <| (P1 cA).trans ?_
  show _=sh1 cA
  rfl
theorem T3 (KL2:ab U El) (k2:Y2) (h2:∀ l0 cA eA dA fA aA bA,KL2 (fr2 l0 cA eA dA fA aA bA)=k2 l0 cA eA dA fA aA bA) (l0 cA eA dA fA aA bA):(hid (ct3 (hid ct1) KL2)) (fr3 l0 cA eA dA fA aA bA)=f3 k2 l0 cA eA dA fA aA bA:=by
  refine (congrFun (ai _) _).trans <| (P3 l0 cA eA dA fA aA bA (hid ct1) KL2).trans ?_
  show _=sh3 l0 cA eA dA fA aA bA k2
  simp only [h2]
theorem T5 (KL2:ab U El) (KL4:ab U El) (k2:Y2) (k4:Y4) (h2:∀ l0 cA eA dA fA aA bA,KL2 (fr2 l0 cA eA dA fA aA bA)=k2 l0 cA eA dA fA aA bA) (h4:∀ l0 cA i6 kA eA dA fA aA bA iA jA gA hA,KL4 (fr4 l0 cA i6 kA eA dA fA aA bA iA jA gA hA)=k4 l0 cA i6 kA eA dA fA aA bA iA jA gA hA) (l0 cA i6 kA eA dA fA aA bA iA jA gA hA):(hid (ct5 (hid ct1) (hid (ct3 (hid ct1) KL2)) KL4)) (fr5 l0 cA i6 kA eA dA fA aA bA iA jA gA hA)=f5 k2 k4 l0 cA i6 kA eA dA fA aA bA iA jA gA hA:=by
  refine (congrFun (ai _) _).trans <| (P5 l0 cA i6 kA eA dA fA aA bA iA jA gA hA (hid ct1) (hid (ct3 (hid ct1) KL2)) KL4).trans ?_
  show _=sh5 l0 cA i6 kA eA dA fA aA bA iA jA gA hA k4
  simp only [h4]
theorem T4 (KL2:ab U El) (k2:Y2) (h2:∀ l0 cA eA dA fA aA bA,KL2 (fr2 l0 cA eA dA fA aA bA)=k2 l0 cA eA dA fA aA bA):∀ (n:Nat),∀ l0 cA i6 kA eA dA fA aA bA iA jA gA hA,it4 (hid ct1) (hid (ct3 (hid ct1) KL2)) n (fr4 l0 cA i6 kA eA dA fA aA bA iA jA gA hA)=f4 k2 n l0 cA i6 kA eA dA fA aA bA iA jA gA hA:=by
  intro n
  induction n with
  | zero=>intros; rfl
  | succ n ih =>
    intro l0 cA i6 kA eA dA fA aA bA iA jA gA hA
    refine (P4 l0 cA i6 kA eA dA fA aA bA iA jA gA hA (hid ct1) (hid (ct3 (hid ct1) KL2)) (it4 (hid ct1) (hid (ct3 (hid ct1) KL2)) n)).trans ?_
    show _=sh4 l0 cA i6 kA eA dA fA aA bA iA jA gA hA (f3 k2) (f5 k2 (f4 k2 n))
    simp only [T3 KL2 k2 h2,T5 KL2 (it4 (hid ct1) (hid (ct3 (hid ct1) KL2)) n) k2 (f4 k2 n) h2 ih]
theorem H4 (KL2:ab U El) (k2:Y2) (h2:∀ l0 cA eA dA fA aA bA,KL2 (fr2 l0 cA eA dA fA aA bA)=k2 l0 cA eA dA fA aA bA) (l0 cA i6 kA eA dA fA aA bA iA jA gA hA):hid (it4 (hid ct1) (hid (ct3 (hid ct1) KL2)) 100000) (fr4 l0 cA i6 kA eA dA fA aA bA iA jA gA hA)=f4 k2 100000 l0 cA i6 kA eA dA fA aA bA iA jA gA hA:=(congrFun (ai _) _).trans (T4 KL2 k2 h2 100000 l0 cA i6 kA eA dA fA aA bA iA jA gA hA)
theorem T2:∀ (n:Nat),∀ l0 cA eA dA fA aA bA,it2 (hid ct1) n (fr2 l0 cA eA dA fA aA bA)=f2 n l0 cA eA dA fA aA bA:=by
  intro n
  induction n with
  | zero=>intros; rfl
  | succ n ih =>
    intro l0 cA eA dA fA aA bA
    refine (P2 l0 cA eA dA fA aA bA (hid ct1) (it2 (hid ct1) n)).trans ?_
    show _=sh2 l0 cA eA dA fA aA bA f1 (f4 (f2 n) 100000)
    simp only [T1,H4 (it2 (hid ct1) n) (f2 n) ih]
theorem H2 (l0 cA eA dA fA aA bA):hid (it2 (hid ct1) 100000) (fr2 l0 cA eA dA fA aA bA)=f2 100000 l0 cA eA dA fA aA bA:=(congrFun (ai _) _).trans (T2 100000 l0 cA eA dA fA aA bA)
theorem T0 (l n):ac X bd (.seq none .d (.seq none .d (.seq (some nm1) (.seq none .d (.block (.loop nm2 (.seq none .d (.seq none .d (.seq (some nm3) (.block (.seq none .d (.seq none .d (.block (.loop nm4 (.seq none .d (.seq (some nm5) .d .d))))))) .d)))))) .d))) (fr0 l n) RR (fun _ _=>none) RR=f0 l n:=by
  refine (P0 l n).trans ?_
  show _=sh0 l n (f2 100000)
  simp only [H2]
theorem run (l n):aJ X bd (.seq none .d (.seq none .d (.seq (some nm1) (.seq none .d (.block (.loop nm2 (.seq none .d (.seq none .d (.seq (some nm3) (.block (.seq none .d (.seq none .d (.block (.loop nm4 (.seq none .d (.seq (some nm5) .d .d))))))) .d)))))) .d))) nmR [4] [4] [(.lst .rule l),(.agg [(.lst .node n.nds),(.lst .link n.lks)])]=f0 l n:=T0 l n
theorem inner (l : List Rule) (hr : a6 l = true) (n0 : Net) (hn : okN n0 = true) (i : Int) (a : Rule) (ha : cW a = true) (dA fA : Int) (k2 : List Rule → List Pair → List Rule → Int → Int → List Node → List Lnk → R) : ∀ (n k : Nat) (out : List Pair), l.length < n + k → k ≤ l.length → out.length + (l.length - k) ≤ 100000 →
    f4 k2 n l out i (k:Int) l dA fA n0.nds n0.lks a.rn a.rw a.rl a.rs=k2 l (out++cZ n0 i a k (l.drop k)) l dA (IntKind.wrap .i64 (fA+1)) n0.nds n0.lks:=by
  have hl:=(bo hr).1
  intro n
  induction n with
  | zero=>intro k out h1 h2; omega
  | succ n ih =>
    intro k out h1 h2 h3
    show sh4 l out i (k:Int) l dA fA n0.nds n0.lks a.rn a.rw a.rl a.rs (f3 k2) (f5 k2 (f4 k2 n))=_
    unfold sh4
    by_cases hk:k < l.length
    · have hb := (bo hr).2 _ (List.getElem_mem hk)
      rw [aX (by simp; omega),aW hk,ak,ar hk,bc hk]
      have hk5:∀ out',out'.length≤out.length+1→f5 k2 (f4 k2 n) l out' i (k:Int) l dA fA n0.nds n0.lks a.rn a.rw a.rl a.rs=k2 l (out'++cZ n0 i a (k+1) (l.drop (k+1))) l dA (IntKind.wrap .i64 (fA+1)) n0.nds n0.lks:=fun out' ho=>by
        show f4 k2 n l out' i (IntKind.wrap .i64 ((k:Int)+1)) l dA fA n0.nds n0.lks a.rn a.rw a.rl a.rs=_
        rw [bD k (by omega)]
        exact ih (k+1) out' (by omega) hk (by omega)
      rw [hk5 out (by omega),hk5 (out++[(⟨i,(k:Int)⟩:Pair)]) (by simp)]
      have h2':(okR [(⟨a.rn,a.rw,a.rl,a.rs⟩:Rule),l[k]]&&iC [(⟨a.rn,a.rw,a.rl,a.rs⟩:Rule),l[k]])=true:=rb ha hb
      have h1':okN (⟨n0.nds,n0.lks⟩:Net)=true:=hn
      rw [h1',h2',sd,bE (show _≤140737488355328 by simp; omega),bE (show _≤9223372036854775807 by simp; omega)]
      simp only [bG,bL,cZ,Bool.true_and,Bool.and_true,sR]
      show aa ((a.rl == l[k].rl)&&((a.rs != l[k].rs)&&dq n0.nds (a.rw++l[k].rw))) _ _=_
      unfold l9
      cases ((a.rl == l[k].rl)&&((a.rs != l[k].rs)&&dq n0.nds (a.rw++l[k].rw)))
      · rfl
      · simp only [bG,cond_true,List.append_assoc,List.singleton_append]
    · have : k = l.length := by omega
      subst this
      rw [aR (by simp),List.drop_length,cZ,List.append_nil]
      rfl
theorem loop (l:List Rule) (hr:a6 l=true) (n0:Net) (hn:okN n0=true):∀ (n i:Nat) (out:List Pair),l.length < n+i→i≤l.length→out.length≤60 * i→f2 n l out l (Int.ofNat l.length) (i:Int) n0.nds n0.lks=some (.ful 0,[(0,.rows .pair (out++mY n0 i (l.drop i)))]):=by
  have hl:=(bo hr).1
  intro n
  induction n with
  | zero=>intro i out h1 h2; omega
  | succ n ih =>
    intro i out h1 h2 h3
    show sh2 l out l (Int.ofNat l.length) (i:Int) n0.nds n0.lks f1 (f4 (f2 n) 100000)=_
    unfold sh2
    by_cases hi:i < l.length
    · have ha := (bo hr).2 _ (List.getElem_mem hi)
      rw [aX (by simp; omega),aW hi,ak,ar hi,bc hi,bD i (by omega),inner l hr n0 hn (i:Int) l[i] ha _ _ (f2 n) 100000 (i+1) out (by omega) hi (by omega),bD i (by omega)]
      have:=ma n0 (i:Int) l[i] (l.drop (i+1)) (i+1)
      rw [List.length_drop] at this
      rw [ih (i+1) _ (by omega) hi (by simp; omega)]
      simp only [bG,bL,mY,List.append_assoc]
    · have : i = l.length := by omega
      subst this
      rw [aR (by simp),List.drop_length,mY,List.append_nil]
      rfl
theorem f0_eq (l:List Rule) (n:Net) (h:(okN n&&a6 l)=true):f0 l n=some (.ful 0,[(0,.rows .pair (j8 l n))]):=by
  simp only [Bool.and_eq_true] at h
  have hl:=(bo h.2).1
  exact loop l h.2 n h.1 100000 0 [] (by omega) (by omega) (by simp)
theorem ok:CtxOk Tryz.prog X:=aI tab (spC least.spOk spN) dpN
theorem okM:MOk Tryz.prog X:=fun g sp h=>by cases h
theorem spec (l:List Rule) (n:Net) (h:((okN n&&a6 l))=true):aj Tryz.prog E 66 [(.lst .rule l),(.agg [(.lst .node n.nds),(.lst .link n.lks)])] (.ful 0) [(0,.rows .pair (j8 l n))] :=
  ae ok okM Tryz.call66 Tryz.func66 (by kernel_rfl) (by kernel_rfl) (by kernel_rfl) (by show 2≤60; decide) (by decide) (by rfl) ((run l n).trans (f0_eq l n h))
noncomputable def sp:Sp U El:=fun args k=>match args with
  | [.lst .rule l,.agg [.lst .node n_nds,.lst .link n_lks]]=>chk ((okN (⟨n_nds,n_lks⟩:Net)&&a6 l)) (k (.ful 0) [(0,.rows .pair (j8 l (⟨n_nds,n_lks⟩:Net)))])
  | _=>none
theorem spOk:SpOk Tryz.prog E 66 sp where
  det:=fun vs=>by
    unfold sp
    split
    · exact aY _ _ _
    · exact ⟨none,fun _=>rfl⟩
  ok:=fun vs k r h=>by
    unfold sp at h
    split at h
    · obtain ⟨h1, h2⟩ := af h
      exact ⟨_,_,spec _ ⟨_,_⟩ h1,h2⟩
    · cases h
end cfind
end Go.Proofs.YthdimnlkcgchoaaGreat

namespace Go.Proofs.YthdimnlkcgchoaaGreat
set_option linter.unusedSectionVars false
set_option linter.unusedSimpArgs false
set_option linter.unusedVariables false
set_option maxRecDepth 100000
noncomputable def sY (l:List Pair) (e:Int):R:=some (.tup [.ful 0,.int .i64 e],[(0,.rows .pair l)])
noncomputable def k0 (l:List Int) (e:Int):R:=some (.tup [.ful 0,.int .i64 e],[(0,.rows .int l)])
theorem cS (l:List Rule) (n:Net):(aV l n=0∧(aV l n == 0)=true∧(aV l n != 0)=false)∨(aV l n≠0∧(aV l n == 0)=false∧(aV l n != 0)=true):=by
  by_cases h:aV l n=0
  · left; rw [h]; exact ⟨rfl,rfl,rfl⟩
  · right; exact ⟨h,by simpa using h,by simpa using h⟩
namespace find
noncomputable def bd:Code:=(Tryz.f17.body).getD .skip
noncomputable def X:Ctx U El:=⟨E,tds,zeros,eqs,aC [(62,given.sp),(66,cfind.sp)],100000,16,ap [],fun _=>none⟩
noncomputable def nmR:Norm U:=⟨[(4,.pair)],[4,5],[4],[],[],[],[]⟩
noncomputable def RR:ab U El:=fun st=>aE nmR st (aD [4,5] [4])
noncomputable def fr0 (l:List Rule) (n:Net):St U El:=⟨[(0,(.lst .rule l)),(1,(.agg [(.lst .node n.nds),(.lst .link n.lks)]))],[]⟩
noncomputable def sh0 (l:List Rule) (n:Net):R :=
  chk (okN n) (aa ((aV l n) != (0:Int)) (some ((.tup [(.ful 0),(.int .i64 (aV l n))]),[(0,.rows .pair ([]:List Pair))])) (chk ((okN n&&a6 l)) (some ((.tup [(.ful 0),(.int .i64 (0:Int))]),[(0,.rows .pair (j8 l n))]))))
theorem P0 (l n):ac X (cdp [] bd) .d (fr0 l n) RR (fun _ _=>none) RR=sh0 l n:=by kernel_rfl
noncomputable def f0 (l:List Rule) (n:Net):R:=sh0 l n
theorem T0 (l n):ac X bd .d (fr0 l n) RR (fun _ _=>none) RR=f0 l n:=by
  refine (P0 l n).trans ?_
  show _=sh0 l n
  rfl
theorem run (l n):aJ X bd .d nmR [4,5] [4] [(.lst .rule l),(.agg [(.lst .node n.nds),(.lst .link n.lks)])]=f0 l n:=T0 l n
theorem f0_eq (l:List Rule) (n:Net) (h:okN n=true):f0 l n=sY (kY l n) (aV l n):=by
  show sh0 l n=_
  unfold sh0 kY
  rw [h]
  rcases cS l n with ⟨e1,e2,e3⟩ | ⟨e1,e2,e3⟩
  · rw [e2,e3,(gM e1).1,e1]; rfl
  · rw [e2,e3]; rfl
theorem ok:CtxOk Tryz.prog X:=aI tab (spC given.spOk (spC cfind.spOk spN)) dpN
theorem okM:MOk Tryz.prog X:=fun g sp h=>by cases h
theorem spec (l:List Rule) (n:Net) (h:(okN n)=true):aj Tryz.prog E 17 [(.lst .rule l),(.agg [(.lst .node n.nds),(.lst .link n.lks)])] (.tup [(.ful 0),(.int .i64 (aV l n))]) [(0,.rows .pair (kY l n))] :=
  ae ok okM Tryz.call17 Tryz.func17 (by kernel_rfl) (by kernel_rfl) (by kernel_rfl) (by show 2≤16; decide) (by decide) (by rfl) ((run l n).trans (f0_eq l n h))
noncomputable def sp:Sp U El:=fun args k=>match args with
  | [.lst .rule l,.agg [.lst .node n_nds,.lst .link n_lks]]=>chk (okN (⟨n_nds,n_lks⟩:Net)) (k (.tup [(.ful 0),(.int .i64 (aV l (⟨n_nds,n_lks⟩:Net)))]) [(0,.rows .pair (kY l (⟨n_nds,n_lks⟩:Net)))])
  | _=>none
theorem spOk:SpOk Tryz.prog E 17 sp where
  det:=fun vs=>by
    unfold sp
    split
    · exact aY _ _ _
    · exact ⟨none,fun _=>rfl⟩
  ok:=fun vs k r h=>by
    unfold sp at h
    split at h
    · obtain ⟨h1, h2⟩ := af h
      exact ⟨_,_,spec _ ⟨_,_⟩ h1,h2⟩
    · cases h
end find
theorem mZ (l:List Rule) (a:Int) (x y:R):aa (ilt a 0) x (aa (ile (Int.ofNat l.length) a) x y)=aa (dt l a) y x:=by
  unfold dt
  rw [hQ]
  have e1:ile 0 a = !(ilt a 0):=by rw [pb]
  have e2:ilt a (Int.ofNat l.length) = !(ile (Int.ofNat l.length) a):=by rw [fv]
  rw [e1,e2]
  cases ilt a 0<;>cases ile (Int.ofNat l.length) a<;>rfl
theorem hU {l:List Rule} {a:Int} (h:dt l a=true):inb a l.length=true∧List.getD l (Int.toNat a) az∈l:=by
  simp only [dt,Bool.and_eq_true] at h
  have h1:=gJ h.1; have h2:=sO h.2
  refine ⟨by simp only [inb,ile,ilt,Bool.and_eq_true,decide_eq_true_eq]; simp at h2; omega,?_⟩
  have:Int.toNat a < l.length:=by simp at h2; omega
  rw [ar this]; exact List.getElem_mem _
namespace witness
noncomputable def bd:Code:=(Tryz.f14.body).getD .skip
noncomputable def X:Ctx U El:=⟨E,tds,zeros,eqs,aC [(62,given.sp),(63,least.sp)],100000,54,ap [],fun _=>none⟩
noncomputable def nmR:Norm U:=⟨[(8,.int)],[8,9],[8],[],[],[],[]⟩
noncomputable def RR:ab U El:=fun st=>aE nmR st (aD [8,9] [8])
noncomputable def nm1:Norm U:=⟨[],[0,2,3,5],[5],[],[],[],[(5,0,.node),(5,1,.link)]⟩
abbrev Y1:=(List Rule)→Int→Int→(List Node)→(List Lnk)→R
noncomputable def fr0 (l:List Rule) (n:Net) (a:Int) (b:Int):St U El:=⟨[(0,(.lst .rule l)),(1,(.agg [(.lst .node n.nds),(.lst .link n.lks)])),(2,(.int .i64 a)),(3,(.int .i64 b))],[]⟩
noncomputable def fr1 (l0:List Rule) (a2:Int) (b3:Int) (dA:List Node) (eA:List Lnk):St U El:=⟨[(0,(.lst .rule l0)),(2,(.int .i64 a2)),(3,(.int .i64 b3)),(5,(.ptr 5 0))],[(5,(.box 0 [(.lst .node dA),(.lst .link eA)]))]⟩
noncomputable def sh0 (l:List Rule) (n:Net) (a:Int) (b:Int) (k1:Y1):R :=
  chk (okN n) (aa ((aV l n) != (0:Int)) (some ((.tup [(.ful 0),(.int .i64 (aV l n))]),[(0,.rows .int ([]:List Int))])) (aa (ilt a (0:Int)) (some ((.tup [(.ful 0),(.int .i64 (2:Int))]),[(0,.rows .int ([]:List Int))])) (aa (ile (Int.ofNat (List.length l)) a) (some ((.tup [(.ful 0),(.int .i64 (2:Int))]),[(0,.rows .int ([]:List Int))])) (aa (ilt b (0:Int)) (some ((.tup [(.ful 0),(.int .i64 (2:Int))]),[(0,.rows .int ([]:List Int))])) (aa (ile (Int.ofNat (List.length l)) b) (some ((.tup [(.ful 0),(.int .i64 (2:Int))]),[(0,.rows .int ([]:List Int))])) (k1 l a b n.nds n.lks))))))
noncomputable def sh1 (l0:List Rule) (a2:Int) (b3:Int) (dA:List Node) (eA:List Lnk):R :=
  chk (inb a2 (List.length l0)) (chk (inb b3 (List.length l0)) (chk ((okN (⟨dA,eA⟩:Net)&&(okR ([(List.getD l0 (Int.toNat a2) az),(List.getD l0 (Int.toNat b3) az)]:List Rule)&&iC ([(List.getD l0 (Int.toNat a2) az),(List.getD l0 (Int.toNat b3) az)]:List Rule)))) (aa (!(dq (Net.nds (⟨dA,eA⟩:Net)) (List.flatMap Rule.rw ([(List.getD l0 (Int.toNat a2) az),(List.getD l0 (Int.toNat b3) az)]:List Rule)))) (some ((.tup [(.ful 0),(.int .i64 (12:Int))]),[(0,.rows .int ([]:List Int))])) (some ((.tup [(.ful 0),(.int .i64 (0:Int))]),[(0,.rows .int (iG (Net.nds (⟨dA,eA⟩:Net)) (List.flatMap Rule.rw ([(List.getD l0 (Int.toNat a2) az),(List.getD l0 (Int.toNat b3) az)]:List Rule))))])))))
noncomputable def ct1:ab U El:=fun st=>ac X (cdp [1,1,1] bd) .d st RR (fun _ _=>none) RR
theorem P0 (l n a b):ac X (cdp [] bd) (.seq none .d (.seq none .d (.seq (some nm1) .d .d))) (fr0 l n a b) RR (fun _ _=>none) RR=sh0 l n a b (fun y0 y1 y2 y3 y4=>(hid ct1) (fr1 y0 y1 y2 y3 y4)):=by kernel_rfl
theorem P1 (l0 a2 b3 dA eA):ct1 (fr1 l0 a2 b3 dA eA)=sh1 l0 a2 b3 dA eA:=by kernel_rfl
noncomputable def f1 (l0:List Rule) (a2:Int) (b3:Int) (dA:List Node) (eA:List Lnk):R:=sh1 l0 a2 b3 dA eA
noncomputable def f0 (l:List Rule) (n:Net) (a:Int) (b:Int):R:=sh0 l n a b f1
theorem T1 (l0 a2 b3 dA eA):(hid ct1) (fr1 l0 a2 b3 dA eA)=f1 l0 a2 b3 dA eA:=by
  refine (congrFun (ai _) _).trans <| (P1 l0 a2 b3 dA eA).trans ?_
  show _=sh1 l0 a2 b3 dA eA
  rfl
theorem T0 (l n a b):ac X bd (.seq none .d (.seq none .d (.seq (some nm1) .d .d))) (fr0 l n a b) RR (fun _ _=>none) RR=f0 l n a b:=by
  refine (P0 l n a b).trans ?_
  show _=sh0 l n a b f1
  simp only [T1]
theorem run (l n a b):aJ X bd (.seq none .d (.seq none .d (.seq (some nm1) .d .d))) nmR [8,9] [8] [(.lst .rule l),(.agg [(.lst .node n.nds),(.lst .link n.lks)]),(.int .i64 a),(.int .i64 b)]=f0 l n a b:=T0 l n a b
theorem f0_eq (l : List Rule) (n : Net) (a b : Int) (h : okN n = true) : f0 l n a b = k0 (qX l n a b) (qY l n a b) := by
  show sh0 l n a b f1=_
  unfold sh0 qX qY
  rw [h]
  rcases cS l n with ⟨e1,e2,e3⟩ | ⟨e1,e2,e3⟩
  · obtain ⟨g1, g2, _⟩ := gM e1
    rw [e2,e3]
    simp only [bL,cO,mZ,Bool.true_and,cond_false]
    cases ha:dt l a with
    | false=>rfl
    | true =>
      cases hb:dt l b with
      | false=>rfl
      | true =>
        obtain ⟨p1,p2⟩:=hU ha
        obtain ⟨q1,q2⟩:=hU hb
        show sh1 l a b n.nds n.lks=_
        unfold sh1
        have h1':okN (⟨n.nds,n.lks⟩:Net)=true:=h
        rw [p1,q1,h1',rb ((bo g1).2 _ p2) ((bo g1).2 _ q2),sd]
        show aa (!((qW l n a b).isSome)) (k0 [] 12) (k0 ((qW l n a b).getD []) 0)=_
        cases qW l n a b<;>rfl
  · rw [e2,e3]; rfl
theorem ok:CtxOk Tryz.prog X:=aI tab (spC given.spOk (spC least.spOk spN)) dpN
theorem okM:MOk Tryz.prog X:=fun g sp h=>by cases h
theorem spec (l:List Rule) (n:Net) (a:Int) (b:Int) (h:(okN n)=true):aj Tryz.prog E 14 [(.lst .rule l),(.agg [(.lst .node n.nds),(.lst .link n.lks)]),(.int .i64 a),(.int .i64 b)] (.tup [(.ful 0),(.int .i64 (qY l n a b))]) [(0,.rows .int (qX l n a b))] :=
  ae ok okM Tryz.call14 Tryz.func14 (by kernel_rfl) (by kernel_rfl) (by kernel_rfl) (by show 4≤54; decide) (by decide) (by rfl) ((run l n a b).trans (f0_eq l n a b h))
noncomputable def sp:Sp U El:=fun args k=>match args with
  | [.lst .rule l,.agg [.lst .node n_nds,.lst .link n_lks],.int .i64 a,.int .i64 b]=>chk (okN (⟨n_nds,n_lks⟩:Net)) (k (.tup [(.ful 0),(.int .i64 (qY l (⟨n_nds,n_lks⟩:Net) a b))]) [(0,.rows .int (qX l (⟨n_nds,n_lks⟩:Net) a b))])
  | _=>none
theorem spOk:SpOk Tryz.prog E 14 sp where
  det:=fun vs=>by
    unfold sp
    split
    · exact aY _ _ _
    · exact ⟨none,fun _=>rfl⟩
  ok:=fun vs k r h=>by
    unfold sp at h
    split at h
    · obtain ⟨h1, h2⟩ := af h
      exact ⟨_,_,spec _ ⟨_,_⟩ _ _ h1,h2⟩
    · cases h
end witness
namespace dead
noncomputable def bd:Code:=(Tryz.f18.body).getD .skip
noncomputable def X:Ctx U El:=⟨E,tds,zeros,eqs,aC [(62,given.sp),(63,least.sp)],100000,40,ap [],fun _=>none⟩
noncomputable def nmR:Norm U:=⟨[(4,.int)],[4,5],[4],[],[],[],[]⟩
noncomputable def RR:ab U El:=fun st=>aE nmR st (aD [4,5] [4])
noncomputable def nm1:Norm U:=⟨[(7,.int)],[7],[7],[],[],[],[]⟩
noncomputable def nm2:Norm U:=⟨[(7,.int)],[3,7,18,19,20],[7,3],[],[],[],[(3,0,.node),(3,1,.link)]⟩
noncomputable def nm3:Norm U:=⟨[(7,.int)],[3,7,18,19,20],[7,3],[],[],[],[(3,0,.node),(3,1,.link)]⟩
abbrev Y1:=(List Int)→R
abbrev Y2:=(List Int)→(List Rule)→Int→Int→(List Node)→(List Lnk)→R
abbrev Y3:=(List Int)→(List Rule)→Int→Int→(List Node)→(List Lnk)→R
noncomputable def fr0 (l:List Rule) (n:Net):St U El:=⟨[(0,(.lst .rule l)),(1,(.agg [(.lst .node n.nds),(.lst .link n.lks)]))],[]⟩
noncomputable def fr1 (aA:List Int):St U El:=⟨[(7,(.ful 7))],[(7,(.rows .int aA))]⟩
noncomputable def fr2 (aA:List Int) (hA:List Rule) (iA:Int) (fA:Int) (bA:List Node) (cA:List Lnk):St U El:=⟨[(3,(.ptr 3 0)),(7,(.ful 7)),(18,(.lst .rule hA)),(19,(.int .i64 iA)),(20,(.int .i64 fA))],[(7,(.rows .int aA)),(3,(.box 0 [(.lst .node bA),(.lst .link cA)]))]⟩
noncomputable def fr3 (aA:List Int) (hA:List Rule) (iA:Int) (fA:Int) (bA:List Node) (cA:List Lnk):St U El:=⟨[(3,(.ptr 3 0)),(7,(.ful 7)),(18,(.lst .rule hA)),(19,(.int .i64 iA)),(20,(.int .i64 fA))],[(7,(.rows .int aA)),(3,(.box 0 [(.lst .node bA),(.lst .link cA)]))]⟩
noncomputable def sh0 (l:List Rule) (n:Net) (k2:Y2):R :=
  chk (okN n) (aa ((aV l n) != (0:Int)) (some ((.tup [(.ful 0),(.int .i64 (aV l n))]),[(0,.rows .int ([]:List Int))])) (k2 ([]:List Int) l (Int.ofNat (List.length l)) (0:Int) n.nds n.lks))
noncomputable def sh1 (aA:List Int):R :=
  some ((.tup [(.ful 0),(.int .i64 (0:Int))]),[(0,.rows .int aA)])
noncomputable def sh2 (aA:List Int) (hA:List Rule) (iA:Int) (fA:Int) (bA:List Node) (cA:List Lnk) (k1:Y1) (k3:Y3):R :=
  aa (ilt fA iA) (chk (inb fA (List.length hA)) (chk ((okN (⟨bA,cA⟩:Net)&&(okR ([(List.getD hA (Int.toNat fA) az)]:List Rule)&&iC ([(List.getD hA (Int.toNat fA) az)]:List Rule)))) (aa (!(dq (Net.nds (⟨bA,cA⟩:Net)) (List.flatMap Rule.rw ([(List.getD hA (Int.toNat fA) az)]:List Rule)))) (chk (nle ((List.length aA+List.length ([fA]:List Int)) * 8) 140737488355328&&nle (List.length aA+List.length ([fA]:List Int)) 9223372036854775807) (k3 (aA++([fA]:List Int)) hA iA fA bA cA)) (k3 aA hA iA fA bA cA)))) (k1 aA)
noncomputable def sh3 (aA:List Int) (hA:List Rule) (iA:Int) (fA:Int) (bA:List Node) (cA:List Lnk) (k2:Y2):R :=
  k2 aA hA iA (IntKind.wrap .i64 (fA+(1:Int))) bA cA
noncomputable def it2 (Kb1:ab U El) (n:Nat):ab U El:=bw nm2 (fun st' K'=>ac X (cdp [1,1,1,0,1,0,0] bd) (.seq none .d (.seq none .d (.seq (some nm3) .d .d))) st' K' (aq 0 (ah nm1 Kb1) (fun _ _=>none)) RR) n
noncomputable def ct1:ab U El:=fun st=>ac X (cdp [1,1,1,1] bd) .d st RR (fun _ _=>none) RR
noncomputable def ct3 (Kb1 Kb2:ab U El):ab U El:=fun st=>ac X (cdp [1,1,1,0,1,0,0,1,1,1] bd) .d st (ah nm2 Kb2) (aq 0 (ah nm1 Kb1) (fun _ _=>none)) RR
theorem P0 (l n):ac X (cdp [] bd) (.seq none .d (.seq none .d (.seq none .d (.seq (some nm1) (.seq none .d (.block (.loop nm2 (.seq none .d (.seq none .d (.seq (some nm3) .d .d)))))) .d)))) (fr0 l n) RR (fun _ _=>none) RR=sh0 l n (fun y0 y1 y2 y3 y4 y5=>(hid (it2 (hid ct1) 100000)) (fr2 y0 y1 y2 y3 y4 y5)):=by kernel_rfl
theorem P1 (aA):ct1 (fr1 aA)=sh1 aA:=by kernel_rfl
theorem P2 (aA hA iA fA bA cA) (Kb1 Kb2:ab U El):ac X (cdp [1,1,1,0,1,0,0] bd) (.seq none .d (.seq none .d (.seq (some nm3) .d .d))) (fr2 aA hA iA fA bA cA) (ah nm2 Kb2) (aq 0 (ah nm1 Kb1) (fun _ _=>none)) RR=sh2 aA hA iA fA bA cA (fun y0=>Kb1 (fr1 y0)) (fun y0 y1 y2 y3 y4 y5=>(hid (ct3 Kb1 Kb2)) (fr3 y0 y1 y2 y3 y4 y5)):=by kernel_rfl
theorem P3 (aA hA iA fA bA cA) (Kb1 Kb2:ab U El):ct3 Kb1 Kb2 (fr3 aA hA iA fA bA cA)=sh3 aA hA iA fA bA cA (fun y0 y1 y2 y3 y4 y5=>Kb2 (fr2 y0 y1 y2 y3 y4 y5)):=by kernel_rfl
noncomputable def f1 (aA:List Int):R:=sh1 aA
noncomputable def f3 (k2:Y2) (aA:List Int) (hA:List Rule) (iA:Int) (fA:Int) (bA:List Node) (cA:List Lnk):R:=sh3 aA hA iA fA bA cA k2
noncomputable def f2:Nat→Y2
  | 0=>fun _ _ _ _ _ _=>none
  | n+1=>fun aA hA iA fA bA cA=>sh2 aA hA iA fA bA cA f1 (f3 (f2 n))
noncomputable def f0 (l:List Rule) (n:Net):R:=sh0 l n (f2 100000)
theorem T1 (aA):(hid ct1) (fr1 aA)=f1 aA:=by
  refine (congrFun (ai _) _).trans <| (P1 aA).trans ?_
  show _=sh1 aA
  rfl
theorem T3 (KL2:ab U El) (k2:Y2) (h2:∀ aA hA iA fA bA cA,KL2 (fr2 aA hA iA fA bA cA)=k2 aA hA iA fA bA cA) (aA hA iA fA bA cA):(hid (ct3 (hid ct1) KL2)) (fr3 aA hA iA fA bA cA)=f3 k2 aA hA iA fA bA cA:=by
  refine (congrFun (ai _) _).trans <| (P3 aA hA iA fA bA cA (hid ct1) KL2).trans ?_
  show _=sh3 aA hA iA fA bA cA k2
  simp only [h2]
theorem T2:∀ (n:Nat),∀ aA hA iA fA bA cA,it2 (hid ct1) n (fr2 aA hA iA fA bA cA)=f2 n aA hA iA fA bA cA:=by
  intro n
  induction n with
  | zero=>intros; rfl
  | succ n ih =>
    intro aA hA iA fA bA cA
    refine (P2 aA hA iA fA bA cA (hid ct1) (it2 (hid ct1) n)).trans ?_
    show _=sh2 aA hA iA fA bA cA f1 (f3 (f2 n))
    simp only [T1,T3 (it2 (hid ct1) n) (f2 n) ih]
theorem H2 (aA hA iA fA bA cA):hid (it2 (hid ct1) 100000) (fr2 aA hA iA fA bA cA)=f2 100000 aA hA iA fA bA cA:=(congrFun (ai _) _).trans (T2 100000 aA hA iA fA bA cA)
theorem T0 (l n):ac X bd (.seq none .d (.seq none .d (.seq none .d (.seq (some nm1) (.seq none .d (.block (.loop nm2 (.seq none .d (.seq none .d (.seq (some nm3) .d .d)))))) .d)))) (fr0 l n) RR (fun _ _=>none) RR=f0 l n:=by
  refine (P0 l n).trans ?_
  show _=sh0 l n (f2 100000)
  simp only [H2]
theorem run (l n):aJ X bd (.seq none .d (.seq none .d (.seq none .d (.seq (some nm1) (.seq none .d (.block (.loop nm2 (.seq none .d (.seq none .d (.seq (some nm3) .d .d)))))) .d)))) nmR [4,5] [4] [(.lst .rule l),(.agg [(.lst .node n.nds),(.lst .link n.lks)])]=f0 l n:=T0 l n
theorem loop (l : List Rule) (hr : a6 l = true) (n0 : Net) (hn : okN n0 = true) : ∀ (n i : Nat) (out : List Int), l.length < n + i → i ≤ l.length → out.length ≤ i → f2 n out l (Int.ofNat l.length) (i : Int) n0.nds n0.lks = k0 (out ++ j9 n0 i (l.drop i)) 0 := by
  have hl:=(bo hr).1
  intro n
  induction n with
  | zero=>intro i out h1 h2; omega
  | succ n ih =>
    intro i out h1 h2 h3
    show sh2 out l (Int.ofNat l.length) (i:Int) n0.nds n0.lks f1 (f3 (f2 n))=_
    unfold sh2
    by_cases hi:i < l.length
    · have ha := (bo hr).2 _ (List.getElem_mem hi)
      have hk:∀ out':List Int,out'.length≤i+1→f3 (f2 n) out' l (Int.ofNat l.length) (i:Int) n0.nds n0.lks=k0 (out'++j9 n0 (i+1) (l.drop (i+1))) 0:=fun out' ho=>by
        show f2 n out' l (Int.ofNat l.length) (IntKind.wrap .i64 ((i:Int)+1)) n0.nds n0.lks=_
        rw [bD i (by omega)]
        exact ih (i+1) out' (by omega) hi ho
      have h1':okN (⟨n0.nds,n0.lks⟩:Net)=true:=hn
      rw [aX (by simp; omega),aW hi,ak,ar hi,bc hi,hk out (by omega),hk (out++[(i:Int)]) (by simp; omega),h1',sr ha,sV,bE (show _≤140737488355328 by simp; omega),bE (show _≤9223372036854775807 by simp; omega)]
      simp only [bG,bL,j9,Bool.true_and,Bool.and_true]
      show aa (!(dq n0.nds l[i].rw)) _ _=_
      cases dq n0.nds l[i].rw
      · simp only [Bool.not_false,bG,cond_false,List.append_assoc,List.singleton_append]
      · rfl
    · have : i = l.length := by omega
      subst this
      rw [aR (by simp),List.drop_length,j9,List.append_nil]
      rfl
theorem f0_eq (l:List Rule) (n:Net) (h:okN n=true):f0 l n=k0 (pe l n) (aV l n):=by
  show sh0 l n (f2 100000)=_
  unfold sh0 pe
  rw [h]
  rcases cS l n with ⟨e1,e2,e3⟩ | ⟨e1,e2,e3⟩
  · obtain ⟨g1, g2, _⟩ := gM e1
    have hl:=(bo g1).1
    rw [e2,e3,e1]
    exact loop l g1 n h 100000 0 [] (by omega) (by omega) (by simp)
  · rw [e2,e3]; rfl
theorem ok:CtxOk Tryz.prog X:=aI tab (spC given.spOk (spC least.spOk spN)) dpN
theorem okM:MOk Tryz.prog X:=fun g sp h=>by cases h
theorem spec (l:List Rule) (n:Net) (h:(okN n)=true):aj Tryz.prog E 18 [(.lst .rule l),(.agg [(.lst .node n.nds),(.lst .link n.lks)])] (.tup [(.ful 0),(.int .i64 (aV l n))]) [(0,.rows .int (pe l n))] :=
  ae ok okM Tryz.call18 Tryz.func18 (by kernel_rfl) (by kernel_rfl) (by kernel_rfl) (by show 2≤40; decide) (by decide) (by rfl) ((run l n).trans (f0_eq l n h))
noncomputable def sp:Sp U El:=fun args k=>match args with
  | [.lst .rule l,.agg [.lst .node n_nds,.lst .link n_lks]]=>chk (okN (⟨n_nds,n_lks⟩:Net)) (k (.tup [(.ful 0),(.int .i64 (aV l (⟨n_nds,n_lks⟩:Net)))]) [(0,.rows .int (pe l (⟨n_nds,n_lks⟩:Net)))])
  | _=>none
theorem spOk:SpOk Tryz.prog E 18 sp where
  det:=fun vs=>by
    unfold sp
    split
    · exact aY _ _ _
    · exact ⟨none,fun _=>rfl⟩
  ok:=fun vs k r h=>by
    unfold sp at h
    split at h
    · obtain ⟨h1, h2⟩ := af h
      exact ⟨_,_,spec _ ⟨_,_⟩ h1,h2⟩
    · cases h
end dead
namespace accepted
noncomputable def bd:Code:=(Tryz.f22.body).getD .skip
noncomputable def X:Ctx U El:=⟨E,tds,zeros,eqs,aC [(62,given.sp),(66,cfind.sp)],100000,16,ap [],fun _=>none⟩
noncomputable def nmR:Norm U:=⟨[],[4],[],[],[],[],[]⟩
noncomputable def RR:ab U El:=fun st=>aE nmR st (aD [4] [])
noncomputable def fr0 (l:List Rule) (n:Net):St U El:=⟨[(0,(.lst .rule l)),(1,(.agg [(.lst .node n.nds),(.lst .link n.lks)]))],[]⟩
noncomputable def sh0 (l:List Rule) (n:Net):R :=
  chk (okN n) (aa ((aV l n) == (0:Int)) (chk ((okN n&&a6 l)) (some ((.bool ((Int.ofNat (List.length (j8 l n))) == (0:Int))),[]))) (some ((.bool false),[])))
theorem P0 (l n):ac X (cdp [] bd) .d (fr0 l n) RR (fun _ _=>none) RR=sh0 l n:=by kernel_rfl
noncomputable def f0 (l:List Rule) (n:Net):R:=sh0 l n
theorem T0 (l n):ac X bd .d (fr0 l n) RR (fun _ _=>none) RR=f0 l n:=by
  refine (P0 l n).trans ?_
  show _=sh0 l n
  rfl
theorem run (l n):aJ X bd .d nmR [4] [] [(.lst .rule l),(.agg [(.lst .node n.nds),(.lst .link n.lks)])]=f0 l n:=T0 l n
theorem f0_eq (l:List Rule) (n:Net) (h:okN n=true):f0 l n=aH (qZ l n):=by
  show sh0 l n=_
  unfold sh0 qZ
  rw [h]
  rcases cS l n with ⟨e1,e2,e3⟩ | ⟨e1,e2,e3⟩
  · rw [e2,(gM e1).1]; rfl
  · rw [e2]; rfl
theorem ok:CtxOk Tryz.prog X:=aI tab (spC given.spOk (spC cfind.spOk spN)) dpN
theorem okM:MOk Tryz.prog X:=fun g sp h=>by cases h
theorem spec (l:List Rule) (n:Net) (h:(okN n)=true):aj Tryz.prog E 22 [(.lst .rule l),(.agg [(.lst .node n.nds),(.lst .link n.lks)])] (.bool (qZ l n)) [] :=
  ae ok okM Tryz.call22 Tryz.func22 (by kernel_rfl) (by kernel_rfl) (by kernel_rfl) (by show 2≤16; decide) (by decide) (by rfl) ((run l n).trans (f0_eq l n h))
noncomputable def sp:Sp U El:=fun args k=>match args with
  | [.lst .rule l,.agg [.lst .node n_nds,.lst .link n_lks]]=>chk (okN (⟨n_nds,n_lks⟩:Net)) (k (.bool (qZ l (⟨n_nds,n_lks⟩:Net))) [])
  | _=>none
theorem spOk:SpOk Tryz.prog E 22 sp where
  det:=fun vs=>by
    unfold sp
    split
    · exact aY _ _ _
    · exact ⟨none,fun _=>rfl⟩
  ok:=fun vs k r h=>by
    unfold sp at h
    split at h
    · obtain ⟨h1, h2⟩ := af h
      exact ⟨_,_,spec _ ⟨_,_⟩ h1,h2⟩
    · cases h
end accepted
end Go.Proofs.YthdimnlkcgchoaaGreat
