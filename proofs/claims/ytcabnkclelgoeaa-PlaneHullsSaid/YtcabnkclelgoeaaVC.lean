/- The document's hull; twice the area; places in polygons: the code's and the document's. -/
import Derived.Test.YtcabnkclelgoeaaVB
namespace Go.Proofs.Ytcabnkclelgoeaa
set_option linter.unusedSectionVars false
set_option linter.unusedSimpArgs false
set_option linter.unusedVariables false
set_option maxRecDepth 100000
theorem polE_zero {l : List Pt} (h : polE l = 0) : allB l = true ∧ 3 ≤ l.length ∧ l.length ≤ 1000 := by
  unfold polE at h
  cases ha:allB l
  · rw [ha] at h; cases h
  · rw [ha] at h
    by_cases h1:Int.ofNat l.length < 3
    · rw [iltT h1] at h; cases h
    · rw [iltF h1] at h
      by_cases h2:1000 < Int.ofNat l.length
      · rw [iltT h2] at h; cases h
      · simp at h1 h2
        exact ⟨rfl,by omega,by omega⟩
noncomputable def lastP (l:List Pt):Pt:=l.getD (l.length - 1) d_pt
noncomputable def conE (l:List Pt) (p:Pt):Int:=bif vB p then polE l else 1
noncomputable def conZ (l:List Pt) (p:Pt):Int:=bif conE l p == 0 then conP p (pairs (lastP l :: l)) false else 0
noncomputable def conS (l:List Pt) (p:Pt):Int:=conP p (pairs (l++[l.getD 0 d_pt])) false
theorem pairs_snoc:∀ (l:List Pt) (z h:Pt),pairs (l++[z,h])=pairs (l++[z])++[(z,h)]:=by
  intro l
  induction l with
  | nil=>intro z h; rfl
  | cons a l ih =>
    intro z h
    cases l with
    | nil=>rfl
    | cons b l =>
      show (a,b) :: pairs (b :: l++[z,h])=(a,b) :: (pairs (b :: l++[z])++[(z,h)])
      rw [ih]
theorem con_same {l:List Pt} (h:l≠[]) (p:Pt):conP p (pairs (lastP l :: l)) false=conS l p:=by
  unfold conS
  obtain ⟨q,z,rfl⟩:∃ q z,l=q++[z]:=⟨l.dropLast,l.getLast h,(List.dropLast_concat_getLast h).symm⟩
  have e1:lastP (q++[z])=z:=by
    unfold lastP
    rw [getD_lt (by simp)]
    simp
  have e2:q++[z]++[(q++[z]).getD 0 d_pt]=q++[z,(q++[z]).getD 0 d_pt]:=by simp
  rw [e1,e2,pairs_snoc]
  cases q with
  | nil=>rfl
  | cons a q=>exact conP_turn p (z,a) (pairs (a :: q++[z])) false
noncomputable def plc (o:Bool):Int:=bif o then 1 else -1
theorem plc_neg (o:Bool):IntKind.wrap .i64 (0 - plc o)=plc (!o):=by cases o<;>rfl
theorem tri4 {α:Type} (a b c:Bool) (x y:α):condB a (condB b (condB c x y) y) y=condB (a&&(b&&c)) x y:=by cases a<;>cases b<;>cases c<;>rfl
namespace contains
noncomputable def bd:Code:=(Try.f29.body).getD .skip
noncomputable def X:Ctx U El:=⟨E,tds,zeros,eqs,specOf [(39,all.sp),(41,on.sp),(42,turn.sp),(50,polygon.sp)],100000,71,dspecOf [],fun _=>none⟩
noncomputable def nmR:Norm U:=⟨[],[4,5],[],[],[],[],[]⟩
noncomputable def RR:Kont U El:=fun st=>normK nmR st (retFin [4,5] [])
noncomputable def nm1:Norm U:=⟨[],[7],[],[],[],[],[]⟩
noncomputable def nm2:Norm U:=⟨[],[3,7,8,28,29,30],[3,8],[],[],[],[]⟩
noncomputable def nm3:Norm U:=⟨[],[3,7,8,28,29,30],[3,8],[],[],[],[]⟩
noncomputable def nm4:Norm U:=⟨[],[3,7,8,10,11,12,28,29,30],[3,8,10,11,12],[],[],[],[]⟩
noncomputable def nm5:Norm U:=⟨[],[3,7,8,10,28,29,30],[3,8,10],[],[],[],[]⟩
abbrev Y1:=Int→R
abbrev Y2:=Int→(List Pt)→Int→Int→Pt→Pt→R
abbrev Y3:=Int→(List Pt)→Int→Int→Pt→Pt→R
abbrev Y4:=Int→(List Pt)→Int→Int→Pt→Pt→Pt→Pt→Pt→R
abbrev Y5:=Int→(List Pt)→Int→Int→Pt→Pt→Pt→R
noncomputable def fr0 (l:List Pt) (p:Pt):St U El:=⟨[(0,(.lst .pt l)),(1,(.agg [(.int .i64 p.px),(.int .i64 p.py)]))],[]⟩
noncomputable def fr1 (aA:Int):St U El:=⟨[(7,(.int .i64 aA))],[]⟩
noncomputable def fr2 (aA:Int) (eA:List Pt) (fA:Int) (dA:Int) (b3:Pt) (b8:Pt):St U El:=⟨[(3,(.ptr 3 0)),(7,(.int .i64 aA)),(8,(.ptr 8 0)),(28,(.lst .pt eA)),(29,(.int .i64 fA)),(30,(.int .i64 dA))],[(3,(.box 0 [(.int .i64 b3.px),(.int .i64 b3.py)])),(8,(.box 0 [(.int .i64 b8.px),(.int .i64 b8.py)]))]⟩
noncomputable def fr3 (aA:Int) (eA:List Pt) (fA:Int) (dA:Int) (b3:Pt) (b8:Pt):St U El:=⟨[(3,(.ptr 3 0)),(7,(.int .i64 aA)),(8,(.ptr 8 0)),(28,(.lst .pt eA)),(29,(.int .i64 fA)),(30,(.int .i64 dA))],[(3,(.box 0 [(.int .i64 b3.px),(.int .i64 b3.py)])),(8,(.box 0 [(.int .i64 b8.px),(.int .i64 b8.py)]))]⟩
noncomputable def fr4 (aA:Int) (eA:List Pt) (fA:Int) (dA:Int) (b3:Pt) (b8:Pt) (iA:Pt) (jA:Pt) (kA:Pt):St U El:=⟨[(3,(.ptr 3 0)),(7,(.int .i64 aA)),(8,(.ptr 8 0)),(10,(.ptr 10 0)),(11,(.ptr 11 0)),(12,(.ptr 12 0)),(28,(.lst .pt eA)),(29,(.int .i64 fA)),(30,(.int .i64 dA))],[(3,(.box 0 [(.int .i64 b3.px),(.int .i64 b3.py)])),(8,(.box 0 [(.int .i64 b8.px),(.int .i64 b8.py)])),(10,(.box 0 [(.int .i64 iA.px),(.int .i64 iA.py)])),(11,(.box 0 [(.int .i64 jA.px),(.int .i64 jA.py)])),(12,(.box 0 [(.int .i64 kA.px),(.int .i64 kA.py)]))]⟩
noncomputable def fr5 (aA:Int) (eA:List Pt) (fA:Int) (dA:Int) (b3:Pt) (b8:Pt) (iA:Pt):St U El:=⟨[(3,(.ptr 3 0)),(7,(.int .i64 aA)),(8,(.ptr 8 0)),(10,(.ptr 10 0)),(28,(.lst .pt eA)),(29,(.int .i64 fA)),(30,(.int .i64 dA))],[(3,(.box 0 [(.int .i64 b3.px),(.int .i64 b3.py)])),(8,(.box 0 [(.int .i64 b8.px),(.int .i64 b8.py)])),(10,(.box 0 [(.int .i64 iA.px),(.int .i64 iA.py)]))]⟩
noncomputable def sh0 (l:List Pt) (p:Pt) (k2:Y2):R :=
  chk (nle (List.length ([p]:List Pt)) 90000) (condB (!(allB ([p]:List Pt))) (some ((.tup [(.int .i64 (0:Int)),(.int .i64 (1:Int))]),[])) (chk (nle (List.length l) 90000) (condB ((polE l) != (0:Int)) (some ((.tup [(.int .i64 (0:Int)),(.int .i64 (polE l))]),[])) (chk (inb (IntKind.wrap .i64 ((Int.ofNat (List.length l)) - (1:Int))) (List.length l)) (k2 (-1:Int) l (Int.ofNat (List.length l)) (0:Int) p (List.getD l (Int.toNat (IntKind.wrap .i64 ((Int.ofNat (List.length l)) - (1:Int)))) d_pt))))))
noncomputable def sh1 (aA:Int):R :=
  some ((.tup [(.int .i64 aA),(.int .i64 (0:Int))]),[])
noncomputable def sh2 (aA:Int) (eA:List Pt) (fA:Int) (dA:Int) (b3:Pt) (b8:Pt) (k1:Y1) (k4:Y4):R :=
  condB (ilt dA fA) (chk (inb dA (List.length eA)) (chk ((vB b8&&(vB (List.getD eA (Int.toNat dA) d_pt)&&vB b3))) (condB (onB b8 (List.getD eA (Int.toNat dA) d_pt) b3) (some ((.tup [(.int .i64 (0:Int)),(.int .i64 (0:Int))]),[])) (condB (ilt ((List.getD eA (Int.toNat dA) d_pt).py) b8.py) (k4 aA eA fA dA b3 b8 (List.getD eA (Int.toNat dA) d_pt) (List.getD eA (Int.toNat dA) d_pt) b8) (k4 aA eA fA dA b3 b8 (List.getD eA (Int.toNat dA) d_pt) b8 (List.getD eA (Int.toNat dA) d_pt)))))) (k1 aA)
noncomputable def sh3 (aA:Int) (eA:List Pt) (fA:Int) (dA:Int) (b3:Pt) (b8:Pt) (k2:Y2):R :=
  k2 aA eA fA (IntKind.wrap .i64 (dA+(1:Int))) b3 b8
noncomputable def sh4 (aA:Int) (eA:List Pt) (fA:Int) (dA:Int) (b3:Pt) (b8:Pt) (iA:Pt) (jA:Pt) (kA:Pt) (k5:Y5):R :=
  condB (ile jA.py b3.py) (condB (ilt b3.py kA.py) (chk ((vB jA&&(vB kA&&vB b3))) (condB (ilt (0:Int) (trn jA kA b3)) (k5 (IntKind.wrap .i64 (0 - aA)) eA fA dA b3 b8 iA) (k5 aA eA fA dA b3 b8 iA))) (k5 aA eA fA dA b3 b8 iA)) (k5 aA eA fA dA b3 b8 iA)
noncomputable def sh5 (aA:Int) (eA:List Pt) (fA:Int) (dA:Int) (b3:Pt) (b8:Pt) (iA:Pt) (k3:Y3):R :=
  k3 aA eA fA dA b3 iA
noncomputable def it2 (Kb1:Kont U El) (n:Nat):Kont U El:=iter nm2 (fun st' K'=>exec X (cdp [1,1,1,1,1,0,1,0,0] bd) (.seq none .d (.seq none .d (.seq (some nm3) (.block (.seq none .d (.seq none .d (.seq none (.region [(4,11),(5,12)]) (.seq (some nm4) .d (.seq (some nm5) .d .d)))))) .d))) st' K' (Eblk 0 (cutK nm1 Kb1) (fun _ _=>none)) RR) n
noncomputable def ct1:Kont U El:=fun st=>exec X (cdp [1,1,1,1,1,1] bd) .d st RR (fun _ _=>none) RR
noncomputable def ct3 (Kb1 Kb2:Kont U El):Kont U El:=fun st=>exec X (cdp [1,1,1,1,1,0,1,0,0,1,1,1] bd) .d st (cutK nm2 Kb2) (Eblk 0 (cutK nm1 Kb1) (fun _ _=>none)) RR
noncomputable def ct4 (Kb1 Kb3:Kont U El):Kont U El:=fun st=>exec X (cdp [1,1,1,1,1,0,1,0,0,1,1,0,0,1,1,1,1] bd) (.seq (some nm5) .d .d) st (cutK nm3 Kb3) (Eblk 1 (cutK nm3 Kb3) (Eblk 0 (cutK nm1 Kb1) (fun _ _=>none))) RR
noncomputable def ct5 (Kb1 Kb3:Kont U El):Kont U El:=fun st=>exec X (cdp [1,1,1,1,1,0,1,0,0,1,1,0,0,1,1,1,1,1] bd) .d st (cutK nm3 Kb3) (Eblk 1 (cutK nm3 Kb3) (Eblk 0 (cutK nm1 Kb1) (fun _ _=>none))) RR
theorem P0 (l p):exec X (cdp [] bd) (.seq none .d (.seq none .d (.seq none .d (.seq none .d (.seq none .d (.seq (some nm1) (.seq none .d (.block (.loop nm2 (.seq none .d (.seq none .d (.seq (some nm3) (.block (.seq none .d (.seq none .d (.seq none (.region [(4,11),(5,12)]) (.seq (some nm4) .d (.seq (some nm5) .d .d)))))) .d)))))) .d)))))) (fr0 l p) RR (fun _ _=>none) RR=sh0 l p (fun y0 y1 y2 y3 y4 y5=>(hid (it2 (hid ct1) 100000)) (fr2 y0 y1 y2 y3 y4 y5)):=by kernel_rfl
theorem P1 (aA):ct1 (fr1 aA)=sh1 aA:=by kernel_rfl
theorem P2 (aA eA fA dA b3 b8) (Kb1 Kb2:Kont U El):exec X (cdp [1,1,1,1,1,0,1,0,0] bd) (.seq none .d (.seq none .d (.seq (some nm3) (.block (.seq none .d (.seq none .d (.seq none (.region [(4,11),(5,12)]) (.seq (some nm4) .d (.seq (some nm5) .d .d)))))) .d))) (fr2 aA eA fA dA b3 b8) (cutK nm2 Kb2) (Eblk 0 (cutK nm1 Kb1) (fun _ _=>none)) RR=sh2 aA eA fA dA b3 b8 (fun y0=>Kb1 (fr1 y0)) (fun y0 y1 y2 y3 y4 y5 y6 y7 y8=>(hid (ct4 Kb1 (hid (ct3 Kb1 Kb2)))) (fr4 y0 y1 y2 y3 y4 y5 y6 y7 y8)):=by kernel_rfl
theorem P3 (aA eA fA dA b3 b8) (Kb1 Kb2:Kont U El):ct3 Kb1 Kb2 (fr3 aA eA fA dA b3 b8)=sh3 aA eA fA dA b3 b8 (fun y0 y1 y2 y3 y4 y5=>Kb2 (fr2 y0 y1 y2 y3 y4 y5)):=by kernel_rfl
theorem P4 (aA eA fA dA b3 b8 iA jA kA) (Kb1 Kb3:Kont U El):ct4 Kb1 Kb3 (fr4 aA eA fA dA b3 b8 iA jA kA)=sh4 aA eA fA dA b3 b8 iA jA kA (fun y0 y1 y2 y3 y4 y5 y6=>(hid (ct5 Kb1 Kb3)) (fr5 y0 y1 y2 y3 y4 y5 y6)):=by kernel_rfl
theorem P5 (aA eA fA dA b3 b8 iA) (Kb1 Kb3:Kont U El):ct5 Kb1 Kb3 (fr5 aA eA fA dA b3 b8 iA)=sh5 aA eA fA dA b3 b8 iA (fun y0 y1 y2 y3 y4 y5=>Kb3 (fr3 y0 y1 y2 y3 y4 y5)):=by kernel_rfl
noncomputable def f1 (aA:Int):R:=sh1 aA
noncomputable def f3 (k2:Y2) (aA:Int) (eA:List Pt) (fA:Int) (dA:Int) (b3:Pt) (b8:Pt):R:=sh3 aA eA fA dA b3 b8 k2
noncomputable def f5 (k2:Y2) (aA:Int) (eA:List Pt) (fA:Int) (dA:Int) (b3:Pt) (b8:Pt) (iA:Pt):R:=sh5 aA eA fA dA b3 b8 iA (f3 k2)
noncomputable def f4 (k2:Y2) (aA:Int) (eA:List Pt) (fA:Int) (dA:Int) (b3:Pt) (b8:Pt) (iA:Pt) (jA:Pt) (kA:Pt):R:=sh4 aA eA fA dA b3 b8 iA jA kA (f5 k2)
noncomputable def f2:Nat→Y2
  | 0=>fun _ _ _ _ _ _=>none
  | n+1=>fun aA eA fA dA b3 b8=>sh2 aA eA fA dA b3 b8 f1 (f4 (f2 n))
noncomputable def f0 (l:List Pt) (p:Pt):R:=sh0 l p (f2 100000)
theorem T1 (aA):(hid ct1) (fr1 aA)=f1 aA:=by
  refine (congrFun (hid_eq _) _).trans <| (P1 aA).trans ?_
  show _=sh1 aA
  rfl
theorem T3 (KL2:Kont U El) (k2:Y2) (h2:∀ aA eA fA dA b3 b8,KL2 (fr2 aA eA fA dA b3 b8)=k2 aA eA fA dA b3 b8) (aA eA fA dA b3 b8):(hid (ct3 (hid ct1) KL2)) (fr3 aA eA fA dA b3 b8)=f3 k2 aA eA fA dA b3 b8:=by
  refine (congrFun (hid_eq _) _).trans <| (P3 aA eA fA dA b3 b8 (hid ct1) KL2).trans ?_
  show _=sh3 aA eA fA dA b3 b8 k2
  simp only [h2]
theorem T5 (KL2:Kont U El) (k2:Y2) (h2:∀ aA eA fA dA b3 b8,KL2 (fr2 aA eA fA dA b3 b8)=k2 aA eA fA dA b3 b8) (aA eA fA dA b3 b8 iA):(hid (ct5 (hid ct1) (hid (ct3 (hid ct1) KL2)))) (fr5 aA eA fA dA b3 b8 iA)=f5 k2 aA eA fA dA b3 b8 iA:=by
  refine (congrFun (hid_eq _) _).trans <| (P5 aA eA fA dA b3 b8 iA (hid ct1) (hid (ct3 (hid ct1) KL2))).trans ?_
  show _=sh5 aA eA fA dA b3 b8 iA (f3 k2)
  simp only [T3 KL2 k2 h2]
theorem T4 (KL2:Kont U El) (k2:Y2) (h2:∀ aA eA fA dA b3 b8,KL2 (fr2 aA eA fA dA b3 b8)=k2 aA eA fA dA b3 b8) (aA eA fA dA b3 b8 iA jA kA):(hid (ct4 (hid ct1) (hid (ct3 (hid ct1) KL2)))) (fr4 aA eA fA dA b3 b8 iA jA kA)=f4 k2 aA eA fA dA b3 b8 iA jA kA:=by
  refine (congrFun (hid_eq _) _).trans <| (P4 aA eA fA dA b3 b8 iA jA kA (hid ct1) (hid (ct3 (hid ct1) KL2))).trans ?_
  show _=sh4 aA eA fA dA b3 b8 iA jA kA (f5 k2)
  simp only [T5 KL2 k2 h2]
theorem T2:∀ (n:Nat),∀ aA eA fA dA b3 b8,it2 (hid ct1) n (fr2 aA eA fA dA b3 b8)=f2 n aA eA fA dA b3 b8:=by
  intro n
  induction n with
  | zero=>intros; rfl
  | succ n ih =>
    intro aA eA fA dA b3 b8
    refine (P2 aA eA fA dA b3 b8 (hid ct1) (it2 (hid ct1) n)).trans ?_
    show _=sh2 aA eA fA dA b3 b8 f1 (f4 (f2 n))
    simp only [T1,T4 (it2 (hid ct1) n) (f2 n) ih]
theorem H2 (aA eA fA dA b3 b8):hid (it2 (hid ct1) 100000) (fr2 aA eA fA dA b3 b8)=f2 100000 aA eA fA dA b3 b8:=(congrFun (hid_eq _) _).trans (T2 100000 aA eA fA dA b3 b8)
theorem T0 (l p):exec X bd (.seq none .d (.seq none .d (.seq none .d (.seq none .d (.seq none .d (.seq (some nm1) (.seq none .d (.block (.loop nm2 (.seq none .d (.seq none .d (.seq (some nm3) (.block (.seq none .d (.seq none .d (.seq none (.region [(4,11),(5,12)]) (.seq (some nm4) .d (.seq (some nm5) .d .d)))))) .d)))))) .d)))))) (fr0 l p) RR (fun _ _=>none) RR=f0 l p:=by
  refine (P0 l p).trans ?_
  show _=sh0 l p (f2 100000)
  simp only [H2]
theorem run (l p):runFn X bd (.seq none .d (.seq none .d (.seq none .d (.seq none .d (.seq none .d (.seq (some nm1) (.seq none .d (.block (.loop nm2 (.seq none .d (.seq none .d (.seq (some nm3) (.block (.seq none .d (.seq none .d (.seq none (.region [(4,11),(5,12)]) (.seq (some nm4) .d (.seq (some nm5) .d .d)))))) .d)))))) .d)))))) nmR [4,5] [] [(.lst .pt l),(.agg [(.int .i64 p.px),(.int .i64 p.py)])]=f0 l p:=T0 l p
theorem step (K2:Y2) (o:Bool) (l:List Pt) (fA dA:Int) (p last next lo hi:Pt) (h1:vB lo=true) (h2:vB hi=true) (h3:vB p=true):f4 K2 (plc o) l fA dA p last next lo hi=K2 (plc (o ^^ tgB lo hi p)) l fA (IntKind.wrap .i64 (dA+1)) p next:=by
  show sh4 (plc o) l fA dA p last next lo hi (f5 K2)=_
  unfold sh4
  rw [h1,h2,h3]
  simp only [Bool.and_self,chkT]
  rw [tri4]
  show condB (tgB lo hi p) _ _=_
  rw [plc_neg]
  cases tgB lo hi p
  · rw [Bool.xor_false]; rfl
  · rw [Bool.xor_true]; rfl
theorem loop (l : List Pt) (p : Pt) (hp : vB p = true) (hl : l.length ≤ 1000) (hv : ∀ x ∈ l, vB x = true) : ∀ (n i : Nat) (o : Bool) (last : Pt), l.length < n + i → i ≤ l.length → vB last = true → f2 n (plc o) l (Int.ofNat l.length) (i : Int) p last = out2 (conP p (pairs (last :: l.drop i)) o) 0 := by
  intro n
  induction n with
  | zero=>intro i o last h1 h2; omega
  | succ n ih =>
    intro i o last h1 h2 h3
    show sh2 (plc o) l _ i p last f1 (f4 (f2 n))=_
    unfold sh2
    by_cases hi:i < l.length
    · have hx := hv _ (List.getElem_mem hi)
      rw [iltT (by simp; omega),inbT hi,toNat_nat,getD_lt hi,drop_lt hi,h3,hx,hp]
      simp only [chkT,condT,Bool.and_self]
      show _=out2 (bif onB last l[i] p then 0 else conP p (pairs (l[i] :: l.drop (i+1))) (o ^^ tog last l[i] p)) 0
      cases onB last l[i] p
      · unfold tog
        cases ilt l[i].py last.py
        · show f4 (f2 n) (plc o) l _ i p last l[i] last l[i] = _
          rw [step (f2 n) o l _ i p last l[i] last l[i] h3 hx hp,wrapS i (by omega)]
          exact ih (i+1) _ l[i] (by omega) hi hx
        · show f4 (f2 n) (plc o) l _ i p last l[i] l[i] last = _
          rw [step (f2 n) o l _ i p last l[i] l[i] last hx h3 hp,wrapS i (by omega)]
          exact ih (i+1) _ l[i] (by omega) hi hx
      · rfl
    · have : i = l.length := by omega
      subst this
      rw [iltF (by simp),List.drop_length]
      rfl
theorem f0_eq (l:List Pt) (p:Pt) (h:nle (List.length l) 90000=true):f0 l p=out2 (conZ l p) (conE l p):=by
  show chk (nle (List.length ([p]:List Pt)) 90000) (condB (!(allB [p])) _ _)=_
  rw [show nle (List.length ([p]:List Pt)) 90000=true from rfl,chkT,show allB [p]=vB p by simp [allB,nvB]]
  unfold conZ conE
  cases hp:vB p
  · rfl
  · rw [h]
    simp only [Bool.not_true,condF,chkT]
    by_cases he:polE l=0
    · obtain ⟨ha, h3, hl⟩ := polE_zero he
      have hv:=allB_iff.1 ha
      have e1:IntKind.wrap .i64 (Int.ofNat l.length - 1)=((l.length - 1:Nat):Int):=f_len hl (by omega)
      have hlast:l.length - 1 < l.length:=by omega
      rw [he,e1,inbT hlast,toNat_nat]
      have hvl:vB (lastP l)=true:=by unfold lastP; rw [getD_lt hlast]; exact hv _ (List.getElem_mem hlast)
      exact loop l p hp hl hv 100000 0 false (lastP l) (by omega) (by omega) hvl
    · rw [show (polE l != 0) = true from bne_iff_ne.2 he]
      show out2 0 (polE l)=out2 (bif (polE l == 0) then _ else 0) (polE l)
      rw [beq_eq_false_iff_ne.2 he]
      rfl
theorem ok:CtxOk Try.prog X:=ctxOk tab (spC all.spOk (spC on.spOk (spC turn.spOk (spC polygon.spOk spN)))) dpN
theorem okM:MOk Try.prog X:=fun g sp h=>by cases h
theorem spec (l:List Pt) (p:Pt) (h:(nle (List.length l) 90000)=true):CallSpec Try.prog E 29 [(.lst .pt l),(.agg [(.int .i64 p.px),(.int .i64 p.py)])] (.tup [(.int .i64 (conZ l p)),(.int .i64 (conE l p))]) [] :=
  runFn_sound ok okM Try.call29 Try.func29 (by kernel_rfl) (by kernel_rfl) (by kernel_rfl) (by show 2≤71; decide) (by decide) (by rfl) ((run l p).trans (f0_eq l p h))
noncomputable def sp:Sp U El:=fun args k=>match args with
  | [.lst .pt l,.agg [.int .i64 p_px,.int .i64 p_py]]=>chk (nle (List.length l) 90000) (k (.tup [(.int .i64 (conZ l (⟨p_px,p_py⟩:Pt))),(.int .i64 (conE l (⟨p_px,p_py⟩:Pt)))]) [])
  | _=>none
theorem spOk:SpOk Try.prog E 29 sp where
  det:=fun vs=>by
    unfold sp
    split
    · exact det_c _ _ _
    · exact ⟨none,fun _=>rfl⟩
  ok:=fun vs k r h=>by
    unfold sp at h
    split at h
    · obtain ⟨h1, h2⟩ := chk_some h
      exact ⟨_,_,spec _ ⟨_,_⟩ h1,h2⟩
    · cases h
end contains
end Go.Proofs.Ytcabnkclelgoeaa
