/- The document's simpler rule. -/
import Derived.Test.YtlkfbblapimhoaaGreatDoorSM
import Derived.Test.YtlkfbblapimhoaaGreatDoorVC
namespace Go.Proofs.YtlkfbblapimhoaaGreatDoor
set_option linter.unusedSectionVars false
set_option linter.unusedSimpArgs false
set_option linter.unusedVariables false
set_option maxRecDepth 100000
noncomputable def rsimB (r:Rule):Bool := !(simF r.rw)
noncomputable def rsimR (r:Rule):Rule:=bif simF r.rw then ⟨[],[],[],0⟩ else ⟨r.rn,simC r.rw,r.rl,r.rs⟩
noncomputable def rsv (q:Rule) (b:Bool):R:=some (.tup [.agg [.str q.rn,.lst .cnd q.rw,.str q.rl,.int .i64 q.rs],.bool b],[])
noncomputable def lowF (n:List UInt8) (z:Int) (c:Cnd):Int:=bif (c.cn == n) && !c.cb then (bif ilt z c.cl then c.cl else z) else z
noncomputable def highF (n:List UInt8) (z:Int) (c:Cnd):Int:=bif (c.cn == n)&&c.cb then (bif ilt c.cl z then c.cl else z) else z
noncomputable def lowZ (n:List UInt8) (l:List Cnd):Int:=match lowO n l with | none => -4194305 | some c=>c.cl
noncomputable def highZ (n:List UInt8) (l:List Cnd):Int:=match highO n l with | none=>4194305 | some c=>c.cl
def InL (l:List Cnd):Prop:=∀ c∈l,-4194304≤c.cl∧c.cl≤4194304
theorem low_fold (n:List UInt8):∀ (l:List Cnd),InL l→l.foldl (lowF n) (-4194305)=lowZ n l:=by
  intro l
  induction l using snoc_ind with
  | h0=>intro _; rfl
  | h1 l c ih =>
    intro h
    have hc:=h c (by simp)
    have hl:InL l:=fun x hx=>h x (by simp [hx])
    rw [List.foldl_append,List.foldl_cons,List.foldl_nil,ih hl]
    unfold lowZ
    rw [low_snoc]
    unfold lowF lowS
    have hx:∀ x,lowO n l=some x→x∈l:=fun x hx=>((low_spec n l).1 x hx).1
    cases e:lowO n l with
    | none =>
      simp only
      rw [iltT (show (-4194305:Int) < c.cl by omega)]
      cases c.cn == n<;>cases c.cb<;>rfl
    | some x =>
      simp only
      cases c.cn == n<;>cases c.cb<;>cases ilt x.cl c.cl<;>rfl
theorem high_fold (n:List UInt8):∀ (l:List Cnd),InL l→l.foldl (highF n) 4194305=highZ n l:=by
  intro l
  induction l using snoc_ind with
  | h0=>intro _; rfl
  | h1 l c ih =>
    intro h
    have hc:=h c (by simp)
    have hl:InL l:=fun x hx=>h x (by simp [hx])
    rw [List.foldl_append,List.foldl_cons,List.foldl_nil,ih hl]
    unfold highZ
    rw [high_snoc]
    unfold highF highS
    cases e:highO n l with
    | none =>
      simp only
      rw [iltT (show c.cl < (4194305:Int) by omega)]
      cases c.cn == n<;>cases c.cb<;>rfl
    | some x =>
      simp only
      cases c.cn == n<;>cases c.cb<;>cases ilt c.cl x.cl<;>rfl
theorem ruleB_in {r:Rule} (h:ruleB r=true):InL r.rw:=fun c hc=>by
  have:=(ruleB_len h).2 c hc
  unfold cndB inR at this
  simp only [Bool.and_eq_true] at this
  have h1:=ileI this.2.1
  have h2:=ileI this.2.2
  omega
theorem nodes_len (l:List Cnd):(nodesL l).length≤l.length:=by
  induction l using snoc_ind with
  | h0=>exact Nat.le_refl _
  | h1 l c ih =>
    rw [nodes_snoc]
    by_cases h:c.cn∈nodesL l
    · rw [addN_yes h]; simp; omega
    · rw [addN_no h]; simp; omega
namespace rsimpler
noncomputable def bd:Code:=(Tryz.f27.body).getD .skip
noncomputable def X:Ctx U El:=⟨E,tds,zeros,eqs,specOf [(71,rfind.sp)],100000,124,dspecOf [],fun _=>none⟩
noncomputable def nmR:Norm U:=⟨[],[124,3],[],[],[],[(124,1,.cnd)],[]⟩
noncomputable def RR:Kont U El:=fun st=>loadRes X 124 [(2,51)] 124 st fun st=>normK nmR st (retFin [124,3] [])
noncomputable def nm1:Norm U:=⟨[(5,.str)],[1,2,4,5],[5,1,2,4],[],[],[],[(1,1,.cnd)]⟩
noncomputable def nm2:Norm U:=⟨[(5,.str)],[1,2,4,5,6],[5,1,2,4],[],[],[],[(1,1,.cnd)]⟩
noncomputable def nm3:Norm U:=⟨[(5,.str)],[1,2,4,5,6],[5,1,2,4],[],[],[],[(1,1,.cnd)]⟩
noncomputable def nm4:Norm U:=⟨[],[2,4],[2,4,500000401],[],[(4,1,.cnd,500000401)],[],[]⟩
noncomputable def nm5:Norm U:=⟨[(5,.str)],[1,2,4,5,7],[5,1,2,4,500000401],[],[(4,1,.cnd,500000401)],[],[(1,1,.cnd)]⟩
noncomputable def nm6:Norm U:=⟨[(5,.str)],[1,2,4,5,7],[5,1,2,4,500000401],[],[(4,1,.cnd,500000401)],[],[(1,1,.cnd)]⟩
noncomputable def nm7:Norm U:=⟨[(5,.str)],[1,2,4,5,7,8,9],[5,1,2,4,500000401],[],[(4,1,.cnd,500000401)],[],[(1,1,.cnd)]⟩
noncomputable def nm8:Norm U:=⟨[(5,.str)],[1,2,4,5,7,8,9,10],[5,1,2,4,500000401],[],[(4,1,.cnd,500000401)],[],[(1,1,.cnd)]⟩
noncomputable def nm9:Norm U:=⟨[(5,.str)],[1,2,4,5,7,8,9,10],[5,1,2,4,500000401],[],[(4,1,.cnd,500000401)],[],[(1,1,.cnd)]⟩
noncomputable def nm10:Norm U:=⟨[(5,.str)],[1,2,4,5,7,8,9,10,11],[5,1,2,4,11,500000401],[],[(4,1,.cnd,500000401)],[],[(1,1,.cnd)]⟩
noncomputable def nm11:Norm U:=⟨[(5,.str)],[1,2,4,5,7,9],[5,1,2,4,500000401],[],[(4,1,.cnd,500000401)],[],[(1,1,.cnd)]⟩
abbrev Y1:=(List (List UInt8))→(List UInt8)→(List Cnd)→(List UInt8)→Int→(List UInt8)→(List UInt8)→Int→(List UInt8)→(List UInt8)→Int→R
abbrev Y2:=(List (List UInt8))→Int→(List UInt8)→(List Cnd)→(List UInt8)→Int→(List UInt8)→(List UInt8)→Int→(List UInt8)→(List UInt8)→Int→R
abbrev Y3:=(List (List UInt8))→Int→(List UInt8)→(List Cnd)→(List UInt8)→Int→(List UInt8)→(List UInt8)→Int→(List UInt8)→(List UInt8)→Int→R
abbrev Y4:=(List UInt8)→(List UInt8)→Int→(List UInt8)→(List Cnd)→(List UInt8)→Int→R
abbrev Y5:=(List (List UInt8))→Int→(List UInt8)→(List Cnd)→(List UInt8)→Int→(List UInt8)→(List UInt8)→Int→(List UInt8)→(List Cnd)→(List UInt8)→Int→R
abbrev Y6:=(List (List UInt8))→Int→(List UInt8)→(List Cnd)→(List UInt8)→Int→(List UInt8)→(List UInt8)→Int→(List UInt8)→(List Cnd)→(List UInt8)→Int→R
abbrev Y7:=(List (List UInt8))→Int→Int→Int→(List UInt8)→(List Cnd)→(List UInt8)→Int→(List UInt8)→(List UInt8)→Int→(List UInt8)→(List Cnd)→(List UInt8)→Int→R
abbrev Y8:=(List (List UInt8))→Int→Int→Int→Int→(List UInt8)→(List Cnd)→(List UInt8)→Int→(List UInt8)→(List UInt8)→Int→(List UInt8)→(List Cnd)→(List UInt8)→Int→R
abbrev Y9:=(List (List UInt8))→Int→Int→Int→Int→(List UInt8)→(List Cnd)→(List UInt8)→Int→(List UInt8)→(List UInt8)→Int→(List UInt8)→(List Cnd)→(List UInt8)→Int→R
abbrev Y10:=(List (List UInt8))→Int→Int→Int→Int→(List UInt8)→(List Cnd)→(List UInt8)→Int→(List UInt8)→(List UInt8)→Int→(List UInt8)→(List Cnd)→(List UInt8)→Int→Cnd→R
abbrev Y11:=(List (List UInt8))→Int→Int→(List UInt8)→(List Cnd)→(List UInt8)→Int→(List UInt8)→(List UInt8)→Int→(List UInt8)→(List Cnd)→(List UInt8)→Int→R
noncomputable def fr0 (r:Rule):St U El:=⟨[(0,(.agg [(.str r.rn),(.lst .cnd r.rw),(.str r.rl),(.int .i64 r.rs)]))],[]⟩
noncomputable def fr1 (aA:List (List UInt8)) (iA:List UInt8) (bA:List Cnd) (jA:List UInt8) (kA:Int) (fA:List UInt8) (gA:List UInt8) (hA:Int) (cA:List UInt8) (dA:List UInt8) (eA:Int):St U El:=⟨[(1,(.ptr 1 0)),(2,(.ptr 2 0)),(4,(.ptr 4 0)),(5,(.ful 5))],[(5,(.rows .str aA)),(1,(.box 0 [(.str iA),(.lst .cnd bA),(.str jA),(.int .i64 kA)])),(2,(.box 0 [(.str fA),.nils,(.str gA),(.int .i64 hA)])),(4,(.box 0 [(.str cA),.nils,(.str dA),(.int .i64 eA)]))]⟩
noncomputable def fr2 (aA:List (List UInt8)) (i6:Int) (iA:List UInt8) (bA:List Cnd) (jA:List UInt8) (kA:Int) (fA:List UInt8) (gA:List UInt8) (hA:Int) (cA:List UInt8) (dA:List UInt8) (eA:Int):St U El:=⟨[(1,(.ptr 1 0)),(2,(.ptr 2 0)),(4,(.ptr 4 0)),(5,(.ful 5)),(6,(.int .i64 i6))],[(5,(.rows .str aA)),(1,(.box 0 [(.str iA),(.lst .cnd bA),(.str jA),(.int .i64 kA)])),(2,(.box 0 [(.str fA),.nils,(.str gA),(.int .i64 hA)])),(4,(.box 0 [(.str cA),.nils,(.str dA),(.int .i64 eA)]))]⟩
noncomputable def fr3 (aA:List (List UInt8)) (i6:Int) (iA:List UInt8) (bA:List Cnd) (jA:List UInt8) (kA:Int) (fA:List UInt8) (gA:List UInt8) (hA:Int) (cA:List UInt8) (dA:List UInt8) (eA:Int):St U El:=⟨[(1,(.ptr 1 0)),(2,(.ptr 2 0)),(4,(.ptr 4 0)),(5,(.ful 5)),(6,(.int .i64 i6))],[(5,(.rows .str aA)),(1,(.box 0 [(.str iA),(.lst .cnd bA),(.str jA),(.int .i64 kA)])),(2,(.box 0 [(.str fA),.nils,(.str gA),(.int .i64 hA)])),(4,(.box 0 [(.str cA),.nils,(.str dA),(.int .i64 eA)]))]⟩
noncomputable def fr4 (fA:List UInt8) (gA:List UInt8) (hA:Int) (cA:List UInt8) (lA:List Cnd) (dA:List UInt8) (eA:Int):St U El:=⟨[(2,(.ptr 2 0)),(4,(.ptr 4 0))],[(2,(.box 0 [(.str fA),.nils,(.str gA),(.int .i64 hA)])),(4,(.box 0 [(.str cA),(.ful 500000401),(.str dA),(.int .i64 eA)])),(500000401,(.rows .cnd lA))]⟩
noncomputable def fr5 (aA:List (List UInt8)) (i7:Int) (iA:List UInt8) (bA:List Cnd) (jA:List UInt8) (kA:Int) (fA:List UInt8) (gA:List UInt8) (hA:Int) (cA:List UInt8) (lA:List Cnd) (dA:List UInt8) (eA:Int):St U El:=⟨[(1,(.ptr 1 0)),(2,(.ptr 2 0)),(4,(.ptr 4 0)),(5,(.ful 5)),(7,(.int .i64 i7))],[(5,(.rows .str aA)),(1,(.box 0 [(.str iA),(.lst .cnd bA),(.str jA),(.int .i64 kA)])),(2,(.box 0 [(.str fA),.nils,(.str gA),(.int .i64 hA)])),(4,(.box 0 [(.str cA),(.ful 500000401),(.str dA),(.int .i64 eA)])),(500000401,(.rows .cnd lA))]⟩
noncomputable def fr6 (aA:List (List UInt8)) (i7:Int) (iA:List UInt8) (bA:List Cnd) (jA:List UInt8) (kA:Int) (fA:List UInt8) (gA:List UInt8) (hA:Int) (cA:List UInt8) (lA:List Cnd) (dA:List UInt8) (eA:Int):St U El:=⟨[(1,(.ptr 1 0)),(2,(.ptr 2 0)),(4,(.ptr 4 0)),(5,(.ful 5)),(7,(.int .i64 i7))],[(5,(.rows .str aA)),(1,(.box 0 [(.str iA),(.lst .cnd bA),(.str jA),(.int .i64 kA)])),(2,(.box 0 [(.str fA),.nils,(.str gA),(.int .i64 hA)])),(4,(.box 0 [(.str cA),(.ful 500000401),(.str dA),(.int .i64 eA)])),(500000401,(.rows .cnd lA))]⟩
noncomputable def fr7 (aA:List (List UInt8)) (i7:Int) (nA:Int) (mA:Int) (iA:List UInt8) (bA:List Cnd) (jA:List UInt8) (kA:Int) (fA:List UInt8) (gA:List UInt8) (hA:Int) (cA:List UInt8) (lA:List Cnd) (dA:List UInt8) (eA:Int):St U El:=⟨[(1,(.ptr 1 0)),(2,(.ptr 2 0)),(4,(.ptr 4 0)),(5,(.ful 5)),(7,(.int .i64 i7)),(8,(.int .i64 nA)),(9,(.int .i64 mA))],[(5,(.rows .str aA)),(1,(.box 0 [(.str iA),(.lst .cnd bA),(.str jA),(.int .i64 kA)])),(2,(.box 0 [(.str fA),.nils,(.str gA),(.int .i64 hA)])),(4,(.box 0 [(.str cA),(.ful 500000401),(.str dA),(.int .i64 eA)])),(500000401,(.rows .cnd lA))]⟩
noncomputable def fr8 (aA:List (List UInt8)) (i7:Int) (nA:Int) (mA:Int) (oA:Int) (iA:List UInt8) (bA:List Cnd) (jA:List UInt8) (kA:Int) (fA:List UInt8) (gA:List UInt8) (hA:Int) (cA:List UInt8) (lA:List Cnd) (dA:List UInt8) (eA:Int):St U El:=⟨[(1,(.ptr 1 0)),(2,(.ptr 2 0)),(4,(.ptr 4 0)),(5,(.ful 5)),(7,(.int .i64 i7)),(8,(.int .i64 nA)),(9,(.int .i64 mA)),(10,(.int .i64 oA))],[(5,(.rows .str aA)),(1,(.box 0 [(.str iA),(.lst .cnd bA),(.str jA),(.int .i64 kA)])),(2,(.box 0 [(.str fA),.nils,(.str gA),(.int .i64 hA)])),(4,(.box 0 [(.str cA),(.ful 500000401),(.str dA),(.int .i64 eA)])),(500000401,(.rows .cnd lA))]⟩
noncomputable def fr9 (aA:List (List UInt8)) (i7:Int) (nA:Int) (mA:Int) (oA:Int) (iA:List UInt8) (bA:List Cnd) (jA:List UInt8) (kA:Int) (fA:List UInt8) (gA:List UInt8) (hA:Int) (cA:List UInt8) (lA:List Cnd) (dA:List UInt8) (eA:Int):St U El:=⟨[(1,(.ptr 1 0)),(2,(.ptr 2 0)),(4,(.ptr 4 0)),(5,(.ful 5)),(7,(.int .i64 i7)),(8,(.int .i64 nA)),(9,(.int .i64 mA)),(10,(.int .i64 oA))],[(5,(.rows .str aA)),(1,(.box 0 [(.str iA),(.lst .cnd bA),(.str jA),(.int .i64 kA)])),(2,(.box 0 [(.str fA),.nils,(.str gA),(.int .i64 hA)])),(4,(.box 0 [(.str cA),(.ful 500000401),(.str dA),(.int .i64 eA)])),(500000401,(.rows .cnd lA))]⟩
noncomputable def fr10 (aA:List (List UInt8)) (i7:Int) (nA:Int) (mA:Int) (oA:Int) (iA:List UInt8) (bA:List Cnd) (jA:List UInt8) (kA:Int) (fA:List UInt8) (gA:List UInt8) (hA:Int) (cA:List UInt8) (lA:List Cnd) (dA:List UInt8) (eA:Int) (pA:Cnd):St U El:=⟨[(1,(.ptr 1 0)),(2,(.ptr 2 0)),(4,(.ptr 4 0)),(5,(.ful 5)),(7,(.int .i64 i7)),(8,(.int .i64 nA)),(9,(.int .i64 mA)),(10,(.int .i64 oA)),(11,(.ptr 11 0))],[(5,(.rows .str aA)),(1,(.box 0 [(.str iA),(.lst .cnd bA),(.str jA),(.int .i64 kA)])),(2,(.box 0 [(.str fA),.nils,(.str gA),(.int .i64 hA)])),(4,(.box 0 [(.str cA),(.ful 500000401),(.str dA),(.int .i64 eA)])),(11,(.box 0 [(.str pA.cn),(.bool pA.cb),(.int .i64 pA.cl)])),(500000401,(.rows .cnd lA))]⟩
noncomputable def fr11 (aA:List (List UInt8)) (i7:Int) (mA:Int) (iA:List UInt8) (bA:List Cnd) (jA:List UInt8) (kA:Int) (fA:List UInt8) (gA:List UInt8) (hA:Int) (cA:List UInt8) (lA:List Cnd) (dA:List UInt8) (eA:Int):St U El:=⟨[(1,(.ptr 1 0)),(2,(.ptr 2 0)),(4,(.ptr 4 0)),(5,(.ful 5)),(7,(.int .i64 i7)),(9,(.int .i64 mA))],[(5,(.rows .str aA)),(1,(.box 0 [(.str iA),(.lst .cnd bA),(.str jA),(.int .i64 kA)])),(2,(.box 0 [(.str fA),.nils,(.str gA),(.int .i64 hA)])),(4,(.box 0 [(.str cA),(.ful 500000401),(.str dA),(.int .i64 eA)])),(500000401,(.rows .cnd lA))]⟩
noncomputable def sh0 (r:Rule) (k2:Y2):R :=
  k2 ([]:List (List UInt8)) (0:Int) r.rn r.rw r.rl r.rs ([]:List UInt8) ([]:List UInt8) (0:Int) r.rn r.rl r.rs
noncomputable def sh1 (aA:List (List UInt8)) (iA:List UInt8) (bA:List Cnd) (jA:List UInt8) (kA:Int) (fA:List UInt8) (gA:List UInt8) (hA:Int) (cA:List UInt8) (dA:List UInt8) (eA:Int) (k5:Y5):R :=
  k5 aA (0:Int) iA bA jA kA fA gA hA cA ([]:List Cnd) dA eA
noncomputable def sh2 (aA:List (List UInt8)) (i6:Int) (iA:List UInt8) (bA:List Cnd) (jA:List UInt8) (kA:Int) (fA:List UInt8) (gA:List UInt8) (hA:Int) (cA:List UInt8) (dA:List UInt8) (eA:Int) (k1:Y1) (k3:Y3):R :=
  condB (ilt i6 (Int.ofNat (List.length bA))) (chk (inb i6 (List.length bA)) (chk (nle (List.length aA) 90000) (condB (ilt (findZ (fun x=>x == ((List.getD bA (Int.toNat i6) d_cnd).cn)) 0 aA) (0:Int)) (chk (inb i6 (List.length bA)) (chk (nle ((List.length aA+List.length ([(List.getD bA (Int.toNat i6) d_cnd).cn]:List (List UInt8))) * 16) 140737488355328&&nle (List.length aA+List.length ([(List.getD bA (Int.toNat i6) d_cnd).cn]:List (List UInt8))) 9223372036854775807) (k3 (aA++([(List.getD bA (Int.toNat i6) d_cnd).cn]:List (List UInt8))) i6 iA bA jA kA fA gA hA cA dA eA))) (k3 aA i6 iA bA jA kA fA gA hA cA dA eA)))) (k1 aA iA bA jA kA fA gA hA cA dA eA)
noncomputable def sh3 (aA:List (List UInt8)) (i6:Int) (iA:List UInt8) (bA:List Cnd) (jA:List UInt8) (kA:Int) (fA:List UInt8) (gA:List UInt8) (hA:Int) (cA:List UInt8) (dA:List UInt8) (eA:Int) (k2:Y2):R :=
  k2 aA (IntKind.wrap .i64 (i6+(1:Int))) iA bA jA kA fA gA hA cA dA eA
noncomputable def sh4 (fA:List UInt8) (gA:List UInt8) (hA:Int) (cA:List UInt8) (lA:List Cnd) (dA:List UInt8) (eA:Int):R :=
  some ((.tup [(.agg [(.str cA),(.lst .cnd lA),(.str dA),(.int .i64 eA)]),(.bool true)]),[])
noncomputable def sh5 (aA:List (List UInt8)) (i7:Int) (iA:List UInt8) (bA:List Cnd) (jA:List UInt8) (kA:Int) (fA:List UInt8) (gA:List UInt8) (hA:Int) (cA:List UInt8) (lA:List Cnd) (dA:List UInt8) (eA:Int) (k4:Y4) (k8:Y8):R :=
  condB (ilt i7 (Int.ofNat (List.length aA))) (k8 aA i7 (-4194305:Int) (4194305:Int) (0:Int) iA bA jA kA fA gA hA cA lA dA eA) (k4 fA gA hA cA lA dA eA)
noncomputable def sh6 (aA:List (List UInt8)) (i7:Int) (iA:List UInt8) (bA:List Cnd) (jA:List UInt8) (kA:Int) (fA:List UInt8) (gA:List UInt8) (hA:Int) (cA:List UInt8) (lA:List Cnd) (dA:List UInt8) (eA:Int) (k5:Y5):R :=
  k5 aA (IntKind.wrap .i64 (i7+(1:Int))) iA bA jA kA fA gA hA cA lA dA eA
noncomputable def sh7 (aA:List (List UInt8)) (i7:Int) (nA:Int) (mA:Int) (iA:List UInt8) (bA:List Cnd) (jA:List UInt8) (kA:Int) (fA:List UInt8) (gA:List UInt8) (hA:Int) (cA:List UInt8) (lA:List Cnd) (dA:List UInt8) (eA:Int) (k11:Y11):R :=
  condB (ile mA nA) (some ((.tup [(.agg [(.str ([]:List UInt8)),(.lst .cnd ([]:List Cnd)),(.str ([]:List UInt8)),(.int .i64 (0:Int))]),(.bool false)]),[])) (condB (ile (-4194304:Int) nA) (chk (inb i7 (List.length aA)) (chk (nlt (Int.toNat i7) (List.length aA)) (chk (nle ((List.length lA+List.length ([(⟨(List.getD aA (Int.toNat i7) d_str),false,nA⟩:Cnd)]:List Cnd)) * 32) 140737488355328&&nle (List.length lA+List.length ([(⟨(List.getD aA (Int.toNat i7) d_str),false,nA⟩:Cnd)]:List Cnd)) 9223372036854775807) (k11 aA i7 mA iA bA jA kA fA gA hA cA (lA++([(⟨(List.getD aA (Int.toNat i7) d_str),false,nA⟩:Cnd)]:List Cnd)) dA eA)))) (k11 aA i7 mA iA bA jA kA fA gA hA cA lA dA eA))
noncomputable def sh8 (aA:List (List UInt8)) (i7:Int) (nA:Int) (mA:Int) (oA:Int) (iA:List UInt8) (bA:List Cnd) (jA:List UInt8) (kA:Int) (fA:List UInt8) (gA:List UInt8) (hA:Int) (cA:List UInt8) (lA:List Cnd) (dA:List UInt8) (eA:Int) (k7:Y7) (k10:Y10):R :=
  condB (ilt oA (Int.ofNat (List.length bA))) (chk (inb oA (List.length bA)) (chk (inb i7 (List.length aA)) (chk (nlt (Int.toNat i7) (List.length aA)) (condB (((List.getD bA (Int.toNat oA) d_cnd).cn) == (List.getD aA (Int.toNat i7) d_str)) (condB ((List.getD bA (Int.toNat oA) d_cnd).cb) (k10 aA i7 nA (bif ilt ((List.getD bA (Int.toNat oA) d_cnd).cl) mA then (List.getD bA (Int.toNat oA) d_cnd).cl else mA) oA iA bA jA kA fA gA hA cA lA dA eA (List.getD bA (Int.toNat oA) d_cnd)) (k10 aA i7 nA mA oA iA bA jA kA fA gA hA cA lA dA eA (List.getD bA (Int.toNat oA) d_cnd))) (k10 aA i7 nA mA oA iA bA jA kA fA gA hA cA lA dA eA (List.getD bA (Int.toNat oA) d_cnd)))))) (k7 aA i7 nA mA iA bA jA kA fA gA hA cA lA dA eA)
noncomputable def sh9 (aA:List (List UInt8)) (i7:Int) (nA:Int) (mA:Int) (oA:Int) (iA:List UInt8) (bA:List Cnd) (jA:List UInt8) (kA:Int) (fA:List UInt8) (gA:List UInt8) (hA:Int) (cA:List UInt8) (lA:List Cnd) (dA:List UInt8) (eA:Int) (k8:Y8):R :=
  k8 aA i7 nA mA (IntKind.wrap .i64 (oA+(1:Int))) iA bA jA kA fA gA hA cA lA dA eA
noncomputable def sh10 (aA:List (List UInt8)) (i7:Int) (nA:Int) (mA:Int) (oA:Int) (iA:List UInt8) (bA:List Cnd) (jA:List UInt8) (kA:Int) (fA:List UInt8) (gA:List UInt8) (hA:Int) (cA:List UInt8) (lA:List Cnd) (dA:List UInt8) (eA:Int) (pA:Cnd) (k9:Y9):R :=
  chk (inb i7 (List.length aA)) (chk (nlt (Int.toNat i7) (List.length aA)) (condB (pA.cn == (List.getD aA (Int.toNat i7) d_str)) (condB (!pA.cb) (k9 aA i7 (bif ilt nA pA.cl then pA.cl else nA) mA oA iA bA jA kA fA gA hA cA lA dA eA) (k9 aA i7 nA mA oA iA bA jA kA fA gA hA cA lA dA eA)) (k9 aA i7 nA mA oA iA bA jA kA fA gA hA cA lA dA eA)))
noncomputable def sh11 (aA:List (List UInt8)) (i7:Int) (mA:Int) (iA:List UInt8) (bA:List Cnd) (jA:List UInt8) (kA:Int) (fA:List UInt8) (gA:List UInt8) (hA:Int) (cA:List UInt8) (lA:List Cnd) (dA:List UInt8) (eA:Int) (k6:Y6):R :=
  condB (ile mA (4194304:Int)) (chk (inb i7 (List.length aA)) (chk (nlt (Int.toNat i7) (List.length aA)) (chk (nle ((List.length lA+List.length ([(⟨(List.getD aA (Int.toNat i7) d_str),true,mA⟩:Cnd)]:List Cnd)) * 32) 140737488355328&&nle (List.length lA+List.length ([(⟨(List.getD aA (Int.toNat i7) d_str),true,mA⟩:Cnd)]:List Cnd)) 9223372036854775807) (k6 aA i7 iA bA jA kA fA gA hA cA (lA++([(⟨(List.getD aA (Int.toNat i7) d_str),true,mA⟩:Cnd)]:List Cnd)) dA eA)))) (k6 aA i7 iA bA jA kA fA gA hA cA lA dA eA)
noncomputable def it2 (Kb1:Kont U El) (n:Nat):Kont U El:=iter nm2 (fun st' K'=>exec X (cdp [1,1,1,0,1,0,0] bd) (.seq none .d (.seq (some nm3) .d .d)) st' K' (Eblk 0 (cutK nm1 Kb1) (fun _ _=>none)) RR) n
noncomputable def it5 (Kb4:Kont U El) (n:Nat):Kont U El:=iter nm5 (fun st' K'=>exec X (cdp [1,1,1,1,0,1,0,0] bd) (.seq none .d (.seq (some nm6) (.block (.seq none .d (.seq (some nm7) (.seq none .d (.block (.loop nm8 (.seq none .d (.seq (some nm9) (.block (.seq none .d (.seq (some nm10) .d .d))) .d))))) (.seq none .d (.seq (some nm11) (.seq none .d (.cond (.region [(9,500000401),(11,4)]) .d)) (.seq none .d (.cond (.region [(9,500000401),(11,4)]) .d))))))) .d)) st' K' (Eblk 2 (cutK nm4 Kb4) (fun _ _=>none)) RR) n
noncomputable def it8 (Kb4 Kb6 Kb7:Kont U El) (n:Nat):Kont U El:=iter nm8 (fun st' K'=>exec X (cdp [1,1,1,1,0,1,0,0,1,0,0,1,0,1,0,0] bd) (.seq none .d (.seq (some nm9) (.block (.seq none .d (.seq (some nm10) .d .d))) .d)) st' K' (Eblk 4 (cutK nm7 Kb7) (Eblk 3 (cutK nm6 Kb6) (Eblk 2 (cutK nm4 Kb4) (fun _ _=>none)))) RR) n
noncomputable def ct1:Kont U El:=fun st=>exec X (cdp [1,1,1,1] bd) (.seq (some nm4) (.seq none .d (.block (.loop nm5 (.seq none .d (.seq (some nm6) (.block (.seq none .d (.seq (some nm7) (.seq none .d (.block (.loop nm8 (.seq none .d (.seq (some nm9) (.block (.seq none .d (.seq (some nm10) .d .d))) .d))))) (.seq none .d (.seq (some nm11) (.seq none .d (.cond (.region [(9,500000401),(11,4)]) .d)) (.seq none .d (.cond (.region [(9,500000401),(11,4)]) .d))))))) .d))))) .d) st RR (fun _ _=>none) RR
noncomputable def ct3 (Kb1 Kb2:Kont U El):Kont U El:=fun st=>exec X (cdp [1,1,1,0,1,0,0,1,1] bd) .d st (cutK nm2 Kb2) (Eblk 0 (cutK nm1 Kb1) (fun _ _=>none)) RR
noncomputable def ct4:Kont U El:=fun st=>exec X (cdp [1,1,1,1,1] bd) .d st RR (fun _ _=>none) RR
noncomputable def ct6 (Kb4 Kb5:Kont U El):Kont U El:=fun st=>exec X (cdp [1,1,1,1,0,1,0,0,1,1] bd) .d st (cutK nm5 Kb5) (Eblk 2 (cutK nm4 Kb4) (fun _ _=>none)) RR
noncomputable def ct7 (Kb4 Kb6:Kont U El):Kont U El:=fun st=>exec X (cdp [1,1,1,1,0,1,0,0,1,0,0,1,1] bd) (.seq none .d (.seq (some nm11) (.seq none .d (.cond (.region [(9,500000401),(11,4)]) .d)) (.seq none .d (.cond (.region [(9,500000401),(11,4)]) .d)))) st (cutK nm6 Kb6) (Eblk 3 (cutK nm6 Kb6) (Eblk 2 (cutK nm4 Kb4) (fun _ _=>none))) RR
noncomputable def ct9 (Kb4 Kb6 Kb7 Kb8:Kont U El):Kont U El:=fun st=>exec X (cdp [1,1,1,1,0,1,0,0,1,0,0,1,0,1,0,0,1,1] bd) .d st (cutK nm8 Kb8) (Eblk 4 (cutK nm7 Kb7) (Eblk 3 (cutK nm6 Kb6) (Eblk 2 (cutK nm4 Kb4) (fun _ _=>none)))) RR
noncomputable def ct10 (Kb4 Kb6 Kb7 Kb9:Kont U El):Kont U El:=fun st=>exec X (cdp [1,1,1,1,0,1,0,0,1,0,0,1,0,1,0,0,1,0,0,1,1] bd) .d st (cutK nm9 Kb9) (Eblk 5 (cutK nm9 Kb9) (Eblk 4 (cutK nm7 Kb7) (Eblk 3 (cutK nm6 Kb6) (Eblk 2 (cutK nm4 Kb4) (fun _ _=>none))))) RR
noncomputable def ct11 (Kb4 Kb6:Kont U El):Kont U El:=fun st=>exec X (cdp [1,1,1,1,0,1,0,0,1,0,0,1,1,1,1] bd) (.seq none .d (.cond (.region [(9,500000401),(11,4)]) .d)) st (cutK nm6 Kb6) (Eblk 3 (cutK nm6 Kb6) (Eblk 2 (cutK nm4 Kb4) (fun _ _=>none))) RR
theorem P0 (r):exec X (cdp [] bd) (.seq none .d (.seq none .d (.seq none .d (.seq (some nm1) (.seq none .d (.block (.loop nm2 (.seq none .d (.seq (some nm3) .d .d))))) (.seq (some nm4) (.seq none .d (.block (.loop nm5 (.seq none .d (.seq (some nm6) (.block (.seq none .d (.seq (some nm7) (.seq none .d (.block (.loop nm8 (.seq none .d (.seq (some nm9) (.block (.seq none .d (.seq (some nm10) .d .d))) .d))))) (.seq none .d (.seq (some nm11) (.seq none .d (.cond (.region [(9,500000401),(11,4)]) .d)) (.seq none .d (.cond (.region [(9,500000401),(11,4)]) .d))))))) .d))))) .d))))) (fr0 r) RR (fun _ _=>none) RR=sh0 r (fun y0 y1 y2 y3 y4 y5 y6 y7 y8 y9 y10 y11=>(hid (it2 (hid ct1) 100000)) (fr2 y0 y1 y2 y3 y4 y5 y6 y7 y8 y9 y10 y11)):=by kernel_rfl
theorem P1 (aA iA bA jA kA fA gA hA cA dA eA):ct1 (fr1 aA iA bA jA kA fA gA hA cA dA eA)=sh1 aA iA bA jA kA fA gA hA cA dA eA (fun y0 y1 y2 y3 y4 y5 y6 y7 y8 y9 y10 y11 y12=>(hid (it5 (hid ct4) 100000)) (fr5 y0 y1 y2 y3 y4 y5 y6 y7 y8 y9 y10 y11 y12)):=by kernel_rfl
theorem P2 (aA i6 iA bA jA kA fA gA hA cA dA eA) (Kb1 Kb2:Kont U El):exec X (cdp [1,1,1,0,1,0,0] bd) (.seq none .d (.seq (some nm3) .d .d)) (fr2 aA i6 iA bA jA kA fA gA hA cA dA eA) (cutK nm2 Kb2) (Eblk 0 (cutK nm1 Kb1) (fun _ _=>none)) RR=sh2 aA i6 iA bA jA kA fA gA hA cA dA eA (fun y0 y1 y2 y3 y4 y5 y6 y7 y8 y9 y10=>Kb1 (fr1 y0 y1 y2 y3 y4 y5 y6 y7 y8 y9 y10)) (fun y0 y1 y2 y3 y4 y5 y6 y7 y8 y9 y10 y11=>(hid (ct3 Kb1 Kb2)) (fr3 y0 y1 y2 y3 y4 y5 y6 y7 y8 y9 y10 y11)):=by kernel_rfl
theorem P3 (aA i6 iA bA jA kA fA gA hA cA dA eA) (Kb1 Kb2:Kont U El):ct3 Kb1 Kb2 (fr3 aA i6 iA bA jA kA fA gA hA cA dA eA)=sh3 aA i6 iA bA jA kA fA gA hA cA dA eA (fun y0 y1 y2 y3 y4 y5 y6 y7 y8 y9 y10 y11=>Kb2 (fr2 y0 y1 y2 y3 y4 y5 y6 y7 y8 y9 y10 y11)):=by kernel_rfl
theorem P4 (fA gA hA cA lA dA eA):ct4 (fr4 fA gA hA cA lA dA eA)=sh4 fA gA hA cA lA dA eA:=by kernel_rfl
theorem P5 (aA i7 iA bA jA kA fA gA hA cA lA dA eA) (Kb4 Kb5:Kont U El):exec X (cdp [1,1,1,1,0,1,0,0] bd) (.seq none .d (.seq (some nm6) (.block (.seq none .d (.seq (some nm7) (.seq none .d (.block (.loop nm8 (.seq none .d (.seq (some nm9) (.block (.seq none .d (.seq (some nm10) .d .d))) .d))))) (.seq none .d (.seq (some nm11) (.seq none .d (.cond (.region [(9,500000401),(11,4)]) .d)) (.seq none .d (.cond (.region [(9,500000401),(11,4)]) .d))))))) .d)) (fr5 aA i7 iA bA jA kA fA gA hA cA lA dA eA) (cutK nm5 Kb5) (Eblk 2 (cutK nm4 Kb4) (fun _ _=>none)) RR=sh5 aA i7 iA bA jA kA fA gA hA cA lA dA eA (fun y0 y1 y2 y3 y4 y5 y6=>Kb4 (fr4 y0 y1 y2 y3 y4 y5 y6)) (fun y0 y1 y2 y3 y4 y5 y6 y7 y8 y9 y10 y11 y12 y13 y14 y15=>(hid (it8 Kb4 (hid (ct6 Kb4 Kb5)) (hid (ct7 Kb4 (hid (ct6 Kb4 Kb5)))) 100000)) (fr8 y0 y1 y2 y3 y4 y5 y6 y7 y8 y9 y10 y11 y12 y13 y14 y15)):=by kernel_rfl
theorem P6 (aA i7 iA bA jA kA fA gA hA cA lA dA eA) (Kb4 Kb5:Kont U El):ct6 Kb4 Kb5 (fr6 aA i7 iA bA jA kA fA gA hA cA lA dA eA)=sh6 aA i7 iA bA jA kA fA gA hA cA lA dA eA (fun y0 y1 y2 y3 y4 y5 y6 y7 y8 y9 y10 y11 y12=>Kb5 (fr5 y0 y1 y2 y3 y4 y5 y6 y7 y8 y9 y10 y11 y12)):=by kernel_rfl
theorem P7 (aA i7 nA mA iA bA jA kA fA gA hA cA lA dA eA) (Kb4 Kb6:Kont U El):ct7 Kb4 Kb6 (fr7 aA i7 nA mA iA bA jA kA fA gA hA cA lA dA eA)=sh7 aA i7 nA mA iA bA jA kA fA gA hA cA lA dA eA (fun y0 y1 y2 y3 y4 y5 y6 y7 y8 y9 y10 y11 y12 y13=>(hid (ct11 Kb4 Kb6)) (fr11 y0 y1 y2 y3 y4 y5 y6 y7 y8 y9 y10 y11 y12 y13)):=by kernel_rfl
theorem P8 (aA i7 nA mA oA iA bA jA kA fA gA hA cA lA dA eA) (Kb4 Kb6 Kb7 Kb8:Kont U El):exec X (cdp [1,1,1,1,0,1,0,0,1,0,0,1,0,1,0,0] bd) (.seq none .d (.seq (some nm9) (.block (.seq none .d (.seq (some nm10) .d .d))) .d)) (fr8 aA i7 nA mA oA iA bA jA kA fA gA hA cA lA dA eA) (cutK nm8 Kb8) (Eblk 4 (cutK nm7 Kb7) (Eblk 3 (cutK nm6 Kb6) (Eblk 2 (cutK nm4 Kb4) (fun _ _=>none)))) RR=sh8 aA i7 nA mA oA iA bA jA kA fA gA hA cA lA dA eA (fun y0 y1 y2 y3 y4 y5 y6 y7 y8 y9 y10 y11 y12 y13 y14=>Kb7 (fr7 y0 y1 y2 y3 y4 y5 y6 y7 y8 y9 y10 y11 y12 y13 y14)) (fun y0 y1 y2 y3 y4 y5 y6 y7 y8 y9 y10 y11 y12 y13 y14 y15 y16=>(hid (ct10 Kb4 Kb6 Kb7 (hid (ct9 Kb4 Kb6 Kb7 Kb8)))) (fr10 y0 y1 y2 y3 y4 y5 y6 y7 y8 y9 y10 y11 y12 y13 y14 y15 y16)):=by kernel_rfl
theorem P9 (aA i7 nA mA oA iA bA jA kA fA gA hA cA lA dA eA) (Kb4 Kb6 Kb7 Kb8:Kont U El):ct9 Kb4 Kb6 Kb7 Kb8 (fr9 aA i7 nA mA oA iA bA jA kA fA gA hA cA lA dA eA)=sh9 aA i7 nA mA oA iA bA jA kA fA gA hA cA lA dA eA (fun y0 y1 y2 y3 y4 y5 y6 y7 y8 y9 y10 y11 y12 y13 y14 y15=>Kb8 (fr8 y0 y1 y2 y3 y4 y5 y6 y7 y8 y9 y10 y11 y12 y13 y14 y15)):=by kernel_rfl
theorem P10 (aA i7 nA mA oA iA bA jA kA fA gA hA cA lA dA eA pA) (Kb4 Kb6 Kb7 Kb9:Kont U El):ct10 Kb4 Kb6 Kb7 Kb9 (fr10 aA i7 nA mA oA iA bA jA kA fA gA hA cA lA dA eA pA)=sh10 aA i7 nA mA oA iA bA jA kA fA gA hA cA lA dA eA pA (fun y0 y1 y2 y3 y4 y5 y6 y7 y8 y9 y10 y11 y12 y13 y14 y15=>Kb9 (fr9 y0 y1 y2 y3 y4 y5 y6 y7 y8 y9 y10 y11 y12 y13 y14 y15)):=by kernel_rfl
theorem P11 (aA i7 mA iA bA jA kA fA gA hA cA lA dA eA) (Kb4 Kb6:Kont U El):ct11 Kb4 Kb6 (fr11 aA i7 mA iA bA jA kA fA gA hA cA lA dA eA)=sh11 aA i7 mA iA bA jA kA fA gA hA cA lA dA eA (fun y0 y1 y2 y3 y4 y5 y6 y7 y8 y9 y10 y11 y12=>Kb6 (fr6 y0 y1 y2 y3 y4 y5 y6 y7 y8 y9 y10 y11 y12)):=by kernel_rfl
noncomputable def f4 (fA:List UInt8) (gA:List UInt8) (hA:Int) (cA:List UInt8) (lA:List Cnd) (dA:List UInt8) (eA:Int):R:=sh4 fA gA hA cA lA dA eA
noncomputable def f6 (k5:Y5) (aA:List (List UInt8)) (i7:Int) (iA:List UInt8) (bA:List Cnd) (jA:List UInt8) (kA:Int) (fA:List UInt8) (gA:List UInt8) (hA:Int) (cA:List UInt8) (lA:List Cnd) (dA:List UInt8) (eA:Int):R:=sh6 aA i7 iA bA jA kA fA gA hA cA lA dA eA k5
noncomputable def f11 (k5:Y5) (aA:List (List UInt8)) (i7:Int) (mA:Int) (iA:List UInt8) (bA:List Cnd) (jA:List UInt8) (kA:Int) (fA:List UInt8) (gA:List UInt8) (hA:Int) (cA:List UInt8) (lA:List Cnd) (dA:List UInt8) (eA:Int):R:=sh11 aA i7 mA iA bA jA kA fA gA hA cA lA dA eA (f6 k5)
noncomputable def f7 (k5:Y5) (aA:List (List UInt8)) (i7:Int) (nA:Int) (mA:Int) (iA:List UInt8) (bA:List Cnd) (jA:List UInt8) (kA:Int) (fA:List UInt8) (gA:List UInt8) (hA:Int) (cA:List UInt8) (lA:List Cnd) (dA:List UInt8) (eA:Int):R:=sh7 aA i7 nA mA iA bA jA kA fA gA hA cA lA dA eA (f11 k5)
noncomputable def f9 (k5:Y5) (k8:Y8) (aA:List (List UInt8)) (i7:Int) (nA:Int) (mA:Int) (oA:Int) (iA:List UInt8) (bA:List Cnd) (jA:List UInt8) (kA:Int) (fA:List UInt8) (gA:List UInt8) (hA:Int) (cA:List UInt8) (lA:List Cnd) (dA:List UInt8) (eA:Int):R:=sh9 aA i7 nA mA oA iA bA jA kA fA gA hA cA lA dA eA k8
noncomputable def f10 (k5:Y5) (k8:Y8) (aA:List (List UInt8)) (i7:Int) (nA:Int) (mA:Int) (oA:Int) (iA:List UInt8) (bA:List Cnd) (jA:List UInt8) (kA:Int) (fA:List UInt8) (gA:List UInt8) (hA:Int) (cA:List UInt8) (lA:List Cnd) (dA:List UInt8) (eA:Int) (pA:Cnd):R:=sh10 aA i7 nA mA oA iA bA jA kA fA gA hA cA lA dA eA pA (f9 k5 k8)
noncomputable def f8 (k5:Y5):Nat→Y8
  | 0=>fun _ _ _ _ _ _ _ _ _ _ _ _ _ _ _ _=>none
  | n+1=>fun aA i7 nA mA oA iA bA jA kA fA gA hA cA lA dA eA=>sh8 aA i7 nA mA oA iA bA jA kA fA gA hA cA lA dA eA (f7 k5) (f10 k5 (f8 k5 n))
noncomputable def f5:Nat→Y5
  | 0=>fun _ _ _ _ _ _ _ _ _ _ _ _ _=>none
  | n+1=>fun aA i7 iA bA jA kA fA gA hA cA lA dA eA=>sh5 aA i7 iA bA jA kA fA gA hA cA lA dA eA f4 (f8 (f5 n) 100000)
noncomputable def f1 (aA:List (List UInt8)) (iA:List UInt8) (bA:List Cnd) (jA:List UInt8) (kA:Int) (fA:List UInt8) (gA:List UInt8) (hA:Int) (cA:List UInt8) (dA:List UInt8) (eA:Int):R:=sh1 aA iA bA jA kA fA gA hA cA dA eA (f5 100000)
noncomputable def f3 (k2:Y2) (aA:List (List UInt8)) (i6:Int) (iA:List UInt8) (bA:List Cnd) (jA:List UInt8) (kA:Int) (fA:List UInt8) (gA:List UInt8) (hA:Int) (cA:List UInt8) (dA:List UInt8) (eA:Int):R:=sh3 aA i6 iA bA jA kA fA gA hA cA dA eA k2
noncomputable def f2:Nat→Y2
  | 0=>fun _ _ _ _ _ _ _ _ _ _ _ _=>none
  | n+1=>fun aA i6 iA bA jA kA fA gA hA cA dA eA=>sh2 aA i6 iA bA jA kA fA gA hA cA dA eA f1 (f3 (f2 n))
noncomputable def f0 (r:Rule):R:=sh0 r (f2 100000)
theorem T4 (fA gA hA cA lA dA eA):(hid ct4) (fr4 fA gA hA cA lA dA eA)=f4 fA gA hA cA lA dA eA:=by
  refine (congrFun (hid_eq _) _).trans <| (P4 fA gA hA cA lA dA eA).trans ?_
  show _=sh4 fA gA hA cA lA dA eA
  rfl
theorem T6 (KL5:Kont U El) (k5:Y5) (h5:∀ aA i7 iA bA jA kA fA gA hA cA lA dA eA,KL5 (fr5 aA i7 iA bA jA kA fA gA hA cA lA dA eA)=k5 aA i7 iA bA jA kA fA gA hA cA lA dA eA) (aA i7 iA bA jA kA fA gA hA cA lA dA eA):(hid (ct6 (hid ct4) KL5)) (fr6 aA i7 iA bA jA kA fA gA hA cA lA dA eA)=f6 k5 aA i7 iA bA jA kA fA gA hA cA lA dA eA:=by
  refine (congrFun (hid_eq _) _).trans <| (P6 aA i7 iA bA jA kA fA gA hA cA lA dA eA (hid ct4) KL5).trans ?_
  show _=sh6 aA i7 iA bA jA kA fA gA hA cA lA dA eA k5
  simp only [h5]
theorem T11 (KL5:Kont U El) (k5:Y5) (h5:∀ aA i7 iA bA jA kA fA gA hA cA lA dA eA,KL5 (fr5 aA i7 iA bA jA kA fA gA hA cA lA dA eA)=k5 aA i7 iA bA jA kA fA gA hA cA lA dA eA) (aA i7 mA iA bA jA kA fA gA hA cA lA dA eA):(hid (ct11 (hid ct4) (hid (ct6 (hid ct4) KL5)))) (fr11 aA i7 mA iA bA jA kA fA gA hA cA lA dA eA)=f11 k5 aA i7 mA iA bA jA kA fA gA hA cA lA dA eA:=by
  refine (congrFun (hid_eq _) _).trans <| (P11 aA i7 mA iA bA jA kA fA gA hA cA lA dA eA (hid ct4) (hid (ct6 (hid ct4) KL5))).trans ?_
  show _=sh11 aA i7 mA iA bA jA kA fA gA hA cA lA dA eA (f6 k5)
  simp only [T6 KL5 k5 h5]
theorem T7 (KL5:Kont U El) (k5:Y5) (h5:∀ aA i7 iA bA jA kA fA gA hA cA lA dA eA,KL5 (fr5 aA i7 iA bA jA kA fA gA hA cA lA dA eA)=k5 aA i7 iA bA jA kA fA gA hA cA lA dA eA) (aA i7 nA mA iA bA jA kA fA gA hA cA lA dA eA):(hid (ct7 (hid ct4) (hid (ct6 (hid ct4) KL5)))) (fr7 aA i7 nA mA iA bA jA kA fA gA hA cA lA dA eA)=f7 k5 aA i7 nA mA iA bA jA kA fA gA hA cA lA dA eA:=by
  refine (congrFun (hid_eq _) _).trans <| (P7 aA i7 nA mA iA bA jA kA fA gA hA cA lA dA eA (hid ct4) (hid (ct6 (hid ct4) KL5))).trans ?_
  show _=sh7 aA i7 nA mA iA bA jA kA fA gA hA cA lA dA eA (f11 k5)
  simp only [T11 KL5 k5 h5]
theorem T9 (KL5:Kont U El) (KL8:Kont U El) (k5:Y5) (k8:Y8) (h5:∀ aA i7 iA bA jA kA fA gA hA cA lA dA eA,KL5 (fr5 aA i7 iA bA jA kA fA gA hA cA lA dA eA)=k5 aA i7 iA bA jA kA fA gA hA cA lA dA eA) (h8:∀ aA i7 nA mA oA iA bA jA kA fA gA hA cA lA dA eA,KL8 (fr8 aA i7 nA mA oA iA bA jA kA fA gA hA cA lA dA eA)=k8 aA i7 nA mA oA iA bA jA kA fA gA hA cA lA dA eA) (aA i7 nA mA oA iA bA jA kA fA gA hA cA lA dA eA):(hid (ct9 (hid ct4) (hid (ct6 (hid ct4) KL5)) (hid (ct7 (hid ct4) (hid (ct6 (hid ct4) KL5)))) KL8)) (fr9 aA i7 nA mA oA iA bA jA kA fA gA hA cA lA dA eA)=f9 k5 k8 aA i7 nA mA oA iA bA jA kA fA gA hA cA lA dA eA:=by
  refine (congrFun (hid_eq _) _).trans <| (P9 aA i7 nA mA oA iA bA jA kA fA gA hA cA lA dA eA (hid ct4) (hid (ct6 (hid ct4) KL5)) (hid (ct7 (hid ct4) (hid (ct6 (hid ct4) KL5)))) KL8).trans ?_
  show _=sh9 aA i7 nA mA oA iA bA jA kA fA gA hA cA lA dA eA k8
  simp only [h8]
theorem T10 (KL5:Kont U El) (KL8:Kont U El) (k5:Y5) (k8:Y8) (h5:∀ aA i7 iA bA jA kA fA gA hA cA lA dA eA,KL5 (fr5 aA i7 iA bA jA kA fA gA hA cA lA dA eA)=k5 aA i7 iA bA jA kA fA gA hA cA lA dA eA) (h8:∀ aA i7 nA mA oA iA bA jA kA fA gA hA cA lA dA eA,KL8 (fr8 aA i7 nA mA oA iA bA jA kA fA gA hA cA lA dA eA)=k8 aA i7 nA mA oA iA bA jA kA fA gA hA cA lA dA eA) (aA i7 nA mA oA iA bA jA kA fA gA hA cA lA dA eA pA):(hid (ct10 (hid ct4) (hid (ct6 (hid ct4) KL5)) (hid (ct7 (hid ct4) (hid (ct6 (hid ct4) KL5)))) (hid (ct9 (hid ct4) (hid (ct6 (hid ct4) KL5)) (hid (ct7 (hid ct4) (hid (ct6 (hid ct4) KL5)))) KL8)))) (fr10 aA i7 nA mA oA iA bA jA kA fA gA hA cA lA dA eA pA)=f10 k5 k8 aA i7 nA mA oA iA bA jA kA fA gA hA cA lA dA eA pA:=by
  refine (congrFun (hid_eq _) _).trans <| (P10 aA i7 nA mA oA iA bA jA kA fA gA hA cA lA dA eA pA (hid ct4) (hid (ct6 (hid ct4) KL5)) (hid (ct7 (hid ct4) (hid (ct6 (hid ct4) KL5)))) (hid (ct9 (hid ct4) (hid (ct6 (hid ct4) KL5)) (hid (ct7 (hid ct4) (hid (ct6 (hid ct4) KL5)))) KL8))).trans ?_
  show _=sh10 aA i7 nA mA oA iA bA jA kA fA gA hA cA lA dA eA pA (f9 k5 k8)
  simp only [T9 KL5 KL8 k5 k8 h5 h8]
theorem T8 (KL5:Kont U El) (k5:Y5) (h5:∀ aA i7 iA bA jA kA fA gA hA cA lA dA eA,KL5 (fr5 aA i7 iA bA jA kA fA gA hA cA lA dA eA)=k5 aA i7 iA bA jA kA fA gA hA cA lA dA eA):∀ (n:Nat),∀ aA i7 nA mA oA iA bA jA kA fA gA hA cA lA dA eA,it8 (hid ct4) (hid (ct6 (hid ct4) KL5)) (hid (ct7 (hid ct4) (hid (ct6 (hid ct4) KL5)))) n (fr8 aA i7 nA mA oA iA bA jA kA fA gA hA cA lA dA eA)=f8 k5 n aA i7 nA mA oA iA bA jA kA fA gA hA cA lA dA eA:=by
  intro n
  induction n with
  | zero=>intros; rfl
  | succ n ih =>
    intro aA i7 nA mA oA iA bA jA kA fA gA hA cA lA dA eA
    refine (P8 aA i7 nA mA oA iA bA jA kA fA gA hA cA lA dA eA (hid ct4) (hid (ct6 (hid ct4) KL5)) (hid (ct7 (hid ct4) (hid (ct6 (hid ct4) KL5)))) (it8 (hid ct4) (hid (ct6 (hid ct4) KL5)) (hid (ct7 (hid ct4) (hid (ct6 (hid ct4) KL5)))) n)).trans ?_
    show _=sh8 aA i7 nA mA oA iA bA jA kA fA gA hA cA lA dA eA (f7 k5) (f10 k5 (f8 k5 n))
    simp only [T7 KL5 k5 h5,T10 KL5 (it8 (hid ct4) (hid (ct6 (hid ct4) KL5)) (hid (ct7 (hid ct4) (hid (ct6 (hid ct4) KL5)))) n) k5 (f8 k5 n) h5 ih]
theorem H8 (KL5:Kont U El) (k5:Y5) (h5:∀ aA i7 iA bA jA kA fA gA hA cA lA dA eA,KL5 (fr5 aA i7 iA bA jA kA fA gA hA cA lA dA eA)=k5 aA i7 iA bA jA kA fA gA hA cA lA dA eA) (aA i7 nA mA oA iA bA jA kA fA gA hA cA lA dA eA):hid (it8 (hid ct4) (hid (ct6 (hid ct4) KL5)) (hid (ct7 (hid ct4) (hid (ct6 (hid ct4) KL5)))) 100000) (fr8 aA i7 nA mA oA iA bA jA kA fA gA hA cA lA dA eA)=f8 k5 100000 aA i7 nA mA oA iA bA jA kA fA gA hA cA lA dA eA:=(congrFun (hid_eq _) _).trans (T8 KL5 k5 h5 100000 aA i7 nA mA oA iA bA jA kA fA gA hA cA lA dA eA)
theorem T5:∀ (n:Nat),∀ aA i7 iA bA jA kA fA gA hA cA lA dA eA,it5 (hid ct4) n (fr5 aA i7 iA bA jA kA fA gA hA cA lA dA eA)=f5 n aA i7 iA bA jA kA fA gA hA cA lA dA eA:=by
  intro n
  induction n with
  | zero=>intros; rfl
  | succ n ih =>
    intro aA i7 iA bA jA kA fA gA hA cA lA dA eA
    refine (P5 aA i7 iA bA jA kA fA gA hA cA lA dA eA (hid ct4) (it5 (hid ct4) n)).trans ?_
    show _=sh5 aA i7 iA bA jA kA fA gA hA cA lA dA eA f4 (f8 (f5 n) 100000)
    simp only [T4,H8 (it5 (hid ct4) n) (f5 n) ih]
theorem H5 (aA i7 iA bA jA kA fA gA hA cA lA dA eA):hid (it5 (hid ct4) 100000) (fr5 aA i7 iA bA jA kA fA gA hA cA lA dA eA)=f5 100000 aA i7 iA bA jA kA fA gA hA cA lA dA eA:=(congrFun (hid_eq _) _).trans (T5 100000 aA i7 iA bA jA kA fA gA hA cA lA dA eA)
theorem T1 (aA iA bA jA kA fA gA hA cA dA eA):(hid ct1) (fr1 aA iA bA jA kA fA gA hA cA dA eA)=f1 aA iA bA jA kA fA gA hA cA dA eA:=by
  refine (congrFun (hid_eq _) _).trans <| (P1 aA iA bA jA kA fA gA hA cA dA eA).trans ?_
  show _=sh1 aA iA bA jA kA fA gA hA cA dA eA (f5 100000)
  simp only [H5]
theorem T3 (KL2:Kont U El) (k2:Y2) (h2:∀ aA i6 iA bA jA kA fA gA hA cA dA eA,KL2 (fr2 aA i6 iA bA jA kA fA gA hA cA dA eA)=k2 aA i6 iA bA jA kA fA gA hA cA dA eA) (aA i6 iA bA jA kA fA gA hA cA dA eA):(hid (ct3 (hid ct1) KL2)) (fr3 aA i6 iA bA jA kA fA gA hA cA dA eA)=f3 k2 aA i6 iA bA jA kA fA gA hA cA dA eA:=by
  refine (congrFun (hid_eq _) _).trans <| (P3 aA i6 iA bA jA kA fA gA hA cA dA eA (hid ct1) KL2).trans ?_
  show _=sh3 aA i6 iA bA jA kA fA gA hA cA dA eA k2
  simp only [h2]
theorem T2:∀ (n:Nat),∀ aA i6 iA bA jA kA fA gA hA cA dA eA,it2 (hid ct1) n (fr2 aA i6 iA bA jA kA fA gA hA cA dA eA)=f2 n aA i6 iA bA jA kA fA gA hA cA dA eA:=by
  intro n
  induction n with
  | zero=>intros; rfl
  | succ n ih =>
    intro aA i6 iA bA jA kA fA gA hA cA dA eA
    refine (P2 aA i6 iA bA jA kA fA gA hA cA dA eA (hid ct1) (it2 (hid ct1) n)).trans ?_
    show _=sh2 aA i6 iA bA jA kA fA gA hA cA dA eA f1 (f3 (f2 n))
    simp only [T1,T3 (it2 (hid ct1) n) (f2 n) ih]
theorem H2 (aA i6 iA bA jA kA fA gA hA cA dA eA):hid (it2 (hid ct1) 100000) (fr2 aA i6 iA bA jA kA fA gA hA cA dA eA)=f2 100000 aA i6 iA bA jA kA fA gA hA cA dA eA:=(congrFun (hid_eq _) _).trans (T2 100000 aA i6 iA bA jA kA fA gA hA cA dA eA)
theorem T0 (r):exec X bd (.seq none .d (.seq none .d (.seq none .d (.seq (some nm1) (.seq none .d (.block (.loop nm2 (.seq none .d (.seq (some nm3) .d .d))))) (.seq (some nm4) (.seq none .d (.block (.loop nm5 (.seq none .d (.seq (some nm6) (.block (.seq none .d (.seq (some nm7) (.seq none .d (.block (.loop nm8 (.seq none .d (.seq (some nm9) (.block (.seq none .d (.seq (some nm10) .d .d))) .d))))) (.seq none .d (.seq (some nm11) (.seq none .d (.cond (.region [(9,500000401),(11,4)]) .d)) (.seq none .d (.cond (.region [(9,500000401),(11,4)]) .d))))))) .d))))) .d))))) (fr0 r) RR (fun _ _=>none) RR=f0 r:=by
  refine (P0 r).trans ?_
  show _=sh0 r (f2 100000)
  simp only [H2]
theorem run (r):runFnC X bd (.seq none .d (.seq none .d (.seq none .d (.seq (some nm1) (.seq none .d (.block (.loop nm2 (.seq none .d (.seq (some nm3) .d .d))))) (.seq (some nm4) (.seq none .d (.block (.loop nm5 (.seq none .d (.seq (some nm6) (.block (.seq none .d (.seq (some nm7) (.seq none .d (.block (.loop nm8 (.seq none .d (.seq (some nm9) (.block (.seq none .d (.seq (some nm10) .d .d))) .d))))) (.seq none .d (.seq (some nm11) (.seq none .d (.cond (.region [(9,500000401),(11,4)]) .d)) (.seq none .d (.cond (.region [(9,500000401),(11,4)]) .d))))))) .d))))) .d))))) nmR [(2,51)] [124,3] [] [(.agg [(.str r.rn),(.lst .cnd r.rw),(.str r.rl),(.int .i64 r.rs)])]=f0 r:=T0 r
theorem inner (F : Y5) (nodes : List (List UInt8)) (i : Nat) (hi : i < nodes.length) (w : List Cnd) (hw : w.length ≤ 90000) (rn rl : List UInt8) (rs : Int) (a0 a2 : List UInt8) (a3 : Int) (o0 : List UInt8) (o1 : List Cnd) (o2 : List UInt8) (o3 : Int) : ∀ (n j : Nat) (low high : Int), w.length < n + j → j ≤ w.length →
    f8 F n nodes (i:Int) low high (j:Int) rn w rl rs a0 a2 a3 o0 o1 o2 o3=f7 F nodes (i:Int) ((w.drop j).foldl (lowF nodes[i]) low) ((w.drop j).foldl (highF nodes[i]) high) rn w rl rs a0 a2 a3 o0 o1 o2 o3:=by
  intro n
  induction n with
  | zero=>intro j low high h1 h2; omega
  | succ n ih =>
    intro j low high h1 h2
    show sh8 nodes (i:Int) low high (j:Int) rn w rl rs a0 a2 a3 o0 o1 o2 o3 (f7 F) (f10 F (f8 F n))=_
    unfold sh8
    by_cases hj:j < w.length
    · have e10 : ∀ hg, f10 F (f8 F n) nodes (i : Int) low hg (j : Int) rn w rl rs a0 a2 a3 o0 o1 o2 o3 w[j] = f8 F n nodes (i : Int) (lowF nodes[i] low w[j]) hg ((j + 1 : Nat) : Int) rn w rl rs a0 a2 a3 o0 o1 o2 o3 := by
        intro hg
        show sh10 nodes (i:Int) low hg (j:Int) rn w rl rs a0 a2 a3 o0 o1 o2 o3 w[j] (f9 F (f8 F n))=_
        have e9:∀ lo,f9 F (f8 F n) nodes (i:Int) lo hg (j:Int) rn w rl rs a0 a2 a3 o0 o1 o2 o3=f8 F n nodes (i:Int) lo hg ((j+1:Nat):Int) rn w rl rs a0 a2 a3 o0 o1 o2 o3:=by
          intro lo
          show f8 F n nodes (i:Int) lo hg (IntKind.wrap .i64 ((j:Int)+1)) rn w rl rs a0 a2 a3 o0 o1 o2 o3=_
          rw [wrapS j (by omega)]
        unfold sh10 lowF
        rw [inbT hi,toNat_nat,getD_lt hi,nltT hi,e9,e9]
        simp only [chkT]
        cases w[j].cn == nodes[i]<;>cases w[j].cb<;>rfl
      rw [iltT (by simp; omega),inbT hj,inbT hi,toNat_nat,toNat_nat,getD_lt hj,getD_lt hi,nltT hi,drop_lt hj,List.foldl_cons,List.foldl_cons,e10,e10]
      simp only [condT,chkT]
      have:=ih (j+1) (lowF nodes[i] low w[j]) (highF nodes[i] high w[j]) (by omega) hj
      rw [← this]
      unfold highF
      cases w[j].cn == nodes[i]<;>cases w[j].cb<;>rfl
    · have : j = w.length := by omega
      subst this
      rw [iltF (by simp),List.drop_length]
      rfl
theorem step (F : Y5) (nodes : List (List UInt8)) (i : Nat) (hi : i < nodes.length) (hn : nodes.length ≤ 90000) (l : List Cnd) (hl : InL l) (w : List Cnd) (rn rl : List UInt8) (rs : Int) (a0 a2 : List UInt8) (a3 : Int) (o0 : List UInt8) (o1 : List Cnd) (o2 : List UInt8) (o3 : Int) (ho : o1.length ≤ 1000) :
    f7 F nodes (i:Int) (lowZ nodes[i] l) (highZ nodes[i] l) rn w rl rs a0 a2 a3 o0 o1 o2 o3=bif clashB (lowO nodes[i] l) (highO nodes[i] l) then rsv ⟨[],[],[],0⟩ false else F nodes ((i+1:Nat):Int) rn w rl rs a0 a2 a3 o0 (o1++pairL nodes[i] l) o2 o3:=by
  have e6:∀ o,f6 F nodes (i:Int) rn w rl rs a0 a2 a3 o0 o o2 o3=F nodes ((i+1:Nat):Int) rn w rl rs a0 a2 a3 o0 o o2 o3:=by
    intro o
    show F nodes (IntKind.wrap .i64 ((i:Int)+1)) rn w rl rs a0 a2 a3 o0 o o2 o3=_
    rw [wrapS i (by omega)]
  have e11:∀ o:List Cnd,o.length≤1001→f11 F nodes (i:Int) (highZ nodes[i] l) rn w rl rs a0 a2 a3 o0 o o2 o3=F nodes ((i+1:Nat):Int) rn w rl rs a0 a2 a3 o0 (o++(highO nodes[i] l).toList) o2 o3:=by
    intro o ho
    show sh11 nodes (i:Int) (highZ nodes[i] l) rn w rl rs a0 a2 a3 o0 o o2 o3 (f6 F)=_
    unfold sh11 highZ
    cases e:highO nodes[i] l with
    | none =>
      simp only
      rw [ileF (show ¬ (4194305:Int)≤4194304 by omega),condF,e6,Option.toList_none,List.append_nil]
    | some y =>
      obtain ⟨y1,y2,y3⟩:=(high_spec nodes[i] l).1 y e
      have hy:=hl y y1
      have ey:(⟨nodes[i],true,y.cl⟩:Cnd)=y:=by rw [← y2,← y3]
      rw [inbT hi,toNat_nat,getD_lt hi,nltT hi]
      simp only
      rw [ileT (show y.cl≤4194304 by omega),nleT (show _≤140737488355328 by simp; omega),nleT (show _≤9223372036854775807 by simp; omega),e6,ey]
      rfl
  show sh7 nodes (i:Int) (lowZ nodes[i] l) (highZ nodes[i] l) rn w rl rs a0 a2 a3 o0 o1 o2 o3 (f11 F)=_
  unfold sh7
  rw [inbT hi,toNat_nat,getD_lt hi,nltT hi]
  have key:ile (highZ nodes[i] l) (lowZ nodes[i] l)=clashB (lowO nodes[i] l) (highO nodes[i] l):=by
    unfold highZ lowZ clashB
    cases e1:lowO nodes[i] l with
    | none =>
      cases e2:highO nodes[i] l with
      | none=>rfl
      | some y =>
        have hy:=hl y ((high_spec nodes[i] l).1 y e2).1
        show ile y.cl (-4194305)=false
        exact ileF (by omega)
    | some x =>
      have hx:=hl x ((low_spec nodes[i] l).1 x e1).1
      cases e2:highO nodes[i] l with
      | none =>
        show ile 4194305 x.cl=false
        exact ileF (by omega)
      | some y=>rfl
  rw [key]
  cases clashB (lowO nodes[i] l) (highO nodes[i] l) with
  | true=>rfl
  | false =>
    unfold pairL lowZ
    cases e:lowO nodes[i] l with
    | none =>
      simp only
      rw [ileF (show ¬ (-4194304:Int) ≤ -4194305 by omega),condF,condF,e11 o1 (by omega),cond_false,Option.toList_none,List.nil_append]
    | some x =>
      obtain ⟨x1,x2,x3⟩:=(low_spec nodes[i] l).1 x e
      have hx:=hl x x1
      have ex:(⟨nodes[i],false,x.cl⟩:Cnd)=x:=by rw [← x2,← x3]
      simp only
      rw [ileT (show -4194304≤x.cl by omega),nleT (show _≤140737488355328 by simp; omega),nleT (show _≤9223372036854775807 by simp; omega),ex,e11 (o1++[x]) (by simp; omega),List.append_assoc]
      rfl
theorem outer (nodes:List (List UInt8)) (hn:nodes.length≤20) (w:List Cnd) (hw:w.length≤90000) (hl:InL w) (rn rl:List UInt8) (rs:Int) (a0 a2:List UInt8) (a3:Int) (o0:List UInt8) (o2:List UInt8) (o3:Int):∀ (n i:Nat) (o1:List Cnd),nodes.length < n+i→i≤nodes.length→o1.length≤2 * i →
    f5 n nodes (i:Int) rn w rl rs a0 a2 a3 o0 o1 o2 o3=bif List.any (nodes.drop i) (fun m=>clashB (lowO m w) (highO m w)) then rsv ⟨[],[],[],0⟩ false else rsv ⟨o0,o1++(nodes.drop i).flatMap (fun m=>pairL m w),o2,o3⟩ true:=by
  intro n
  induction n with
  | zero=>intro i o1 h1 h2; omega
  | succ n ih =>
    intro i o1 h1 h2 h3
    show sh5 nodes (i:Int) rn w rl rs a0 a2 a3 o0 o1 o2 o3 f4 (f8 (f5 n) 100000)=_
    unfold sh5
    by_cases hi:i < nodes.length
    · have e := inner (f5 n) nodes i hi w hw rn rl rs a0 a2 a3 o0 o1 o2 o3 100000 0 (-4194305) 4194305 (by omega) (by omega)
      rw [List.drop_zero,low_fold nodes[i] w hl,high_fold nodes[i] w hl,step (f5 n) nodes i hi (by omega) w hl w rn rl rs a0 a2 a3 o0 o1 o2 o3 (by omega)] at e
      rw [iltT (by simp; omega),condT]
      refine Eq.trans e ?_
      have hp:=pair_short nodes[i] w
      rw [drop_lt hi,List.any_cons,List.flatMap_cons,ih (i+1) (o1++pairL nodes[i] w) (by omega) hi (by simp; omega)]
      cases clashB (lowO nodes[i] w) (highO nodes[i] w) with
      | true=>rfl
      | false=>rw [cond_false,Bool.false_or,List.append_assoc]
    · have : i = nodes.length := by omega
      subst this
      rw [iltF (by simp),List.drop_length,List.flatMap_nil,List.append_nil]
      rfl
theorem first (w : List Cnd) (hw : w.length ≤ 90000) (rn rl : List UInt8) (rs : Int) (a0 a2 : List UInt8) (a3 : Int) (o0 o2 : List UInt8) (o3 : Int) : ∀ (n i : Nat), w.length < n + i → i ≤ w.length →
    f2 n (nodesL (w.take i)) (i:Int) rn w rl rs a0 a2 a3 o0 o2 o3=f1 (nodesL w) rn w rl rs a0 a2 a3 o0 o2 o3:=by
  intro n
  induction n with
  | zero=>intro i h1 h2; omega
  | succ n ih =>
    intro i h1 h2
    show sh2 (nodesL (w.take i)) (i:Int) rn w rl rs a0 a2 a3 o0 o2 o3 f1 (f3 (f2 n))=_
    unfold sh2
    by_cases hi:i < w.length
    · have hl := nodes_len (w.take i)
      have ht:(w.take i).length=i:=by simp; omega
      have go:f3 (f2 n) (addN (nodesL (w.take i)) w[i]) (i:Int) rn w rl rs a0 a2 a3 o0 o2 o3=f1 (nodesL w) rn w rl rs a0 a2 a3 o0 o2 o3:=by
        show f2 n _ (IntKind.wrap .i64 ((i:Int)+1)) rn w rl rs a0 a2 a3 o0 o2 o3=_
        rw [wrapS i (by omega),← nodes_snoc,← take_lt hi]
        exact ih (i+1) (by omega) hi
      rw [iltT (by simp; omega),inbT hi,toNat_nat,getD_lt hi,nleT (show (nodesL (w.take i)).length≤90000 by omega),ilt_ile0,find_elem]
      simp only [condT,chkT]
      by_cases hm:w[i].cn∈nodesL (w.take i)
      · rw [addN_yes hm] at go
        rw [show List.elem w[i].cn (nodesL (w.take i))=true by simpa using hm]
        exact go
      · rw [addN_no hm] at go
        rw [show List.elem w[i].cn (nodesL (w.take i))=false by simpa using hm,nleT (show _≤140737488355328 by simp; omega),nleT (show _≤9223372036854775807 by simp; omega)]
        exact go
    · have : i = w.length := by omega
      subst this
      rw [iltF (by simp),List.take_length]
      rfl
theorem f0_eq (r:Rule) (h:ruleB r=true):f0 r=rsv (rsimR r) (rsimB r):=by
  obtain ⟨h1,h2⟩:=ruleB_len h
  have hn:=nodes_len r.rw
  show f2 100000 (nodesL (r.rw.take 0)) ((0:Nat):Int) r.rn r.rw r.rl r.rs [] [] 0 r.rn r.rl r.rs=_
  rw [first r.rw (by omega) r.rn r.rl r.rs [] [] 0 r.rn r.rl r.rs 100000 0 (by omega) (by omega)]
  show f5 100000 (nodesL r.rw) ((0:Nat):Int) r.rn r.rw r.rl r.rs [] [] 0 r.rn [] r.rl r.rs=_
  rw [outer (nodesL r.rw) (by omega) r.rw (by omega) (ruleB_in h) r.rn r.rl r.rs [] [] 0 r.rn r.rl r.rs 100000 0 [] (by omega) (by omega) (by simp),List.drop_zero,List.nil_append]
  unfold rsimR rsimB
  have e:List.any (nodesL r.rw) (fun m=>clashB (lowO m r.rw) (highO m r.rw))=simF r.rw:=rfl
  rw [e]
  cases simF r.rw<;>rfl
theorem ok:CtxOk Tryz.prog X:=ctxOk tab (spC rfind.spOk spN) dpN
theorem okM:MOk Tryz.prog X:=fun g sp h=>by cases h
theorem spec (r:Rule) (h:(ruleB r)=true):CallSpec Tryz.prog E 27 [(.agg [(.str r.rn),(.lst .cnd r.rw),(.str r.rl),(.int .i64 r.rs)])] (.tup [(.agg [(.str ((rsimR r).rn)),(.lst .cnd ((rsimR r).rw)),(.str ((rsimR r).rl)),(.int .i64 ((rsimR r).rs))]),(.bool (rsimB r))]) [] :=
  runFnC_sound ok okM Tryz.call27 Tryz.func27 (by kernel_rfl) (by kernel_rfl) (by kernel_rfl) (by show 1≤124; decide) (by decide) (by rfl) ((run r).trans (f0_eq r h))
noncomputable def sp:Sp U El:=fun args k=>match args with
  | [.agg [.str r_rn,.lst .cnd r_rw,.str r_rl,.int .i64 r_rs]]=>chk (ruleB (⟨r_rn,r_rw,r_rl,r_rs⟩:Rule)) (k (.tup [(.agg [(.str ((rsimR (⟨r_rn,r_rw,r_rl,r_rs⟩:Rule)).rn)),(.lst .cnd ((rsimR (⟨r_rn,r_rw,r_rl,r_rs⟩:Rule)).rw)),(.str ((rsimR (⟨r_rn,r_rw,r_rl,r_rs⟩:Rule)).rl)),(.int .i64 ((rsimR (⟨r_rn,r_rw,r_rl,r_rs⟩:Rule)).rs))]),(.bool (rsimB (⟨r_rn,r_rw,r_rl,r_rs⟩:Rule)))]) [])
  | _=>none
theorem spOk:SpOk Tryz.prog E 27 sp where
  det:=fun vs=>by
    unfold sp
    split
    · exact det_c _ _ _
    · exact ⟨none,fun _=>rfl⟩
  ok:=fun vs k r h=>by
    unfold sp at h
    split at h
    · obtain ⟨h1, h2⟩ := chk_some h
      exact ⟨_,_,spec ⟨_,_,_,_⟩ h1,h2⟩
    · cases h
end rsimpler
end Go.Proofs.YtlkfbblapimhoaaGreatDoor
