/- The law RulesMore: a further condition; renaming back. -/
import Derived.Test.YtlkfbblapimhoaaDoorVD
namespace Go.Proofs.YtlkfbblapimhoaaDoor
set_option linter.unusedSectionVars false
set_option linter.unusedSimpArgs false
set_option linter.unusedVariables false
set_option maxRecDepth 100000
theorem beq_F {a b:List UInt8} (h:a≠b):(a == b)=false:=by simpa using h
theorem all_map_of {α:Type} {p:α→Bool} {f:α→α} {l:List α} (h:List.all l p=true) (hf:∀ x,p x=true→p (f x)=true):List.all (l.map f) p=true:=by
  rw [List.all_eq_true] at h ⊢
  intro x hx
  obtain ⟨y,hy,rfl⟩:=List.mem_map.1 hx
  exact hf y (h y hy)
theorem renN_name {fr to:List UInt8} (ht:nameB to=true) {s:List UInt8} (hs:nameB s=true):nameB (renN fr to s)=true:=by
  unfold renN
  cases s == fr
  · exact hs
  · exact ht
theorem cndB_ren {fr to:List UInt8} (ht:nameB to=true) (c:Cnd) (hc:cndB c=true):cndB (renC fr to c)=true:=by
  unfold cndB at hc ⊢
  simp only [Bool.and_eq_true] at hc ⊢
  exact ⟨renN_name ht hc.1,hc.2⟩
theorem ruleB_ren {fr to:List UInt8} (ht:nameB to=true) {r:Rule} (h:ruleB r=true):ruleB (renR fr to r)=true:=by
  unfold ruleB at h ⊢
  simp only [Bool.and_eq_true] at h ⊢
  obtain ⟨h1,h2,h3,h4,h5⟩:=h
  exact ⟨h1,renN_name ht h2,by simpa [renR] using h3,h4,all_map_of h5 (cndB_ren ht)⟩
theorem goodR_ren {fr to:List UInt8} (ht:nameB to=true):∀ {l:List Rule} {seen:List (List UInt8)},goodR seen l=true→goodR seen (l.map (renR fr to))=true:=by
  intro l
  induction l with
  | nil=>intro _ _; rfl
  | cons r l ih =>
    intro seen h
    simp only [goodR,Bool.and_eq_true,List.map_cons] at h ⊢
    exact ⟨ruleB_ren ht h.1,h.2.1,ih h.2.2⟩
theorem rulesB_ren {fr to:List UInt8} (ht:nameB to=true) {l:List Rule} (h:rulesB l=true):rulesB (l.map (renR fr to))=true:=by
  unfold rulesB at h ⊢
  simp only [Bool.and_eq_true] at h ⊢
  exact ⟨by simpa using h.1,goodR_ren ht h.2⟩
theorem renN_ne {fr to s:List UInt8} (hne:fr≠to):(renN fr to s == fr)=false:=by
  unfold renN
  cases h:s == fr
  · exact h
  · exact beq_F fun e=>hne e.symm
theorem renN_back {fr to s:List UInt8} (hs:(s == to)=false):renN to fr (renN fr to s)=s:=by
  unfold renN
  cases h:s == fr
  · show (bif s == to then fr else s) = s
    rw [hs]; rfl
  · show (bif to == to then fr else to) = s
    rw [beq_self_eq_true]
    exact (by simpa using h:s=fr).symm
theorem renC_back {fr to:List UInt8} {c:Cnd} (hs:occC to c=false):renC to fr (renC fr to c)=c:=by
  unfold renC
  rw [renN_back hs]
theorem occR_F {to:List UInt8} {r:Rule} (h:occR to r=false):(r.rl == to)=false∧∀ c∈r.rw,occC to c=false:=by
  unfold occR at h
  rw [Bool.or_eq_false_iff] at h
  exact ⟨h.1,fun c hc=>by simpa using List.any_eq_false.1 h.2 c hc⟩
theorem map_id_of {α:Type} {f:α→α} {l:List α} (h:∀ x∈l,f x=x):l.map f=l:=by
  induction l with
  | nil=>rfl
  | cons x l ih=>rw [List.map_cons,h x (by simp),ih fun y hy=>h y (by simp [hy])]
theorem renR_back {fr to:List UInt8} {r:Rule} (h:occR to r=false):renR to fr (renR fr to r)=r:=by
  obtain ⟨h1,h2⟩:=occR_F h
  unfold renR
  simp only
  rw [renN_back h1,List.map_map,map_id_of (f:=renC to fr∘renC fr to) fun c hc=>renC_back (h2 c hc)]
theorem occR_ren {fr to:List UInt8} (hne:fr≠to) (r:Rule):occR fr (renR fr to r)=false:=by
  unfold occR
  rw [Bool.or_eq_false_iff]
  refine ⟨renN_ne hne,?_⟩
  rw [List.any_eq_false]
  intro c hc
  obtain ⟨c0,_,rfl⟩:=List.mem_map.1 hc
  have:occC fr (renC fr to c0)=false:=renN_ne (s:=c0.cn) hne
  rw [this]
  simp
theorem any_F {α:Type} {p:α→Bool} {l:List α} (h:∀ x∈l,p x=false):List.any l p=false:=by
  rw [List.any_eq_false]
  intro x hx
  simp [h x hx]
theorem back {l : List Rule} {fr to : List UInt8} (h : renE l fr to = 0) (hne : fr ≠ to) : rulesB l = true ∧ renE (renL l fr to) to fr = (bif nameB fr then 0 else 7) ∧ (nameB fr = true → renL (renL l fr to) to fr = l) := by
  have h0:=h
  unfold renE at h
  cases h1:rulesB l with
  | false=>rw [h1] at h; cases h
  | true =>
    cases h2:nameB to with
    | false=>rw [h1,h2] at h; cases h
    | true =>
      rw [h1,h2,beq_F hne] at h
      cases h3:List.any l (occR to) with
      | true=>rw [h3] at h; cases h
      | false =>
        have hx:renL l fr to=l.map (renR fr to):=by unfold renL; rw [h0]; rfl
        have h4:List.any (l.map (renR fr to)) (occR fr)=false:=any_F fun x hx=>by
          obtain ⟨r,_,rfl⟩:=List.mem_map.1 hx
          exact occR_ren hne r
        have h5:renE (l.map (renR fr to)) to fr=(bif nameB fr then 0 else 7):=by
          unfold renE
          rw [rulesB_ren h2 h1,h4]
          rfl
        refine ⟨rfl,by rw [hx]; exact h5,fun hn => ?_⟩
        rw [hn] at h5
        rw [hx]
        unfold renL
        rw [h5,List.map_map]
        exact map_id_of fun r hr=>renR_back (by simpa using List.any_eq_false.1 h3 r hr)
theorem gv_one (r:Rule) (ns:List (List UInt8)) (v:List Int):gvE [r] ns v=bif Nat.beq ns.length v.length then (bif freshI ns 0 ns then (bif knowsR ns r then 0 else 9) else 10) else 3:=by
  unfold gvE
  rw [show List.all [r] (knowsR ns)=knowsR ns r by simp]
theorem knows_more (r:Rule) (c:Cnd) (ns:List (List UInt8)):knowsR ns ⟨r.rn,r.rw++[c],r.rl,r.rs⟩=(knowsR ns r&&List.elem c.cn ns):=by
  unfold knowsR
  rw [List.all_append]
  simp
theorem rule_more {r:Rule} {c:Cnd} (h:r.rw.length≤19):ruleB ⟨r.rn,r.rw++[c],r.rl,r.rs⟩=(ruleB r&&cndB c):=by
  unfold ruleB
  simp only
  rw [iltF (show ¬ (20:Int) < Int.ofNat (r.rw++[c]).length by simp; omega),iltF (show ¬ (20:Int) < Int.ofNat r.rw.length by simp; omega),List.all_append]
  simp only [List.all_cons,List.all_nil,Bool.and_true]
  cases nameB r.rn<;>cases nameB r.rl<;>cases (ile 0 r.rs&&ile r.rs 1000)<;>cases List.all r.rw cndB<;>rfl
theorem any_more (r:Rule) (c:Cnd) (p:Cnd→Bool):List.any (r.rw++[c]) p=(List.any r.rw p||p c):=by
  rw [List.any_append]
  simp
noncomputable def okH (r:Rule) (ns:List (List UInt8)) (v:List Int):Bool:=ruleB r&&(gvE [r] ns v == 0)
theorem holdsE_0 (r:Rule) (ns:List (List UInt8)) (v:List Int):(holdsE r ns v == 0)=okH r ns v:=by
  unfold holdsE okH
  cases ruleB r<;>rfl
theorem holdsB_ok (r:Rule) (ns:List (List UInt8)) (v:List Int):holdsB r ns v=(okH r ns v && !(List.any r.rw (failsM (List.zip ns v)))):=by
  unfold holdsB okH
  cases ruleB r<;>cases gvE [r] ns v == 0<;>rfl
theorem okH_more {r:Rule} {c:Cnd} (h:r.rw.length≤19) (ns:List (List UInt8)) (v:List Int):okH ⟨r.rn,r.rw++[c],r.rl,r.rs⟩ ns v=(okH r ns v&&(cndB c&&List.elem c.cn ns)):=by
  unfold okH
  rw [rule_more h,gv_one,gv_one,knows_more]
  cases ruleB r<;>cases cndB c<;>cases Nat.beq ns.length v.length<;>cases freshI ns 0 ns<;>cases knowsR ns r<;>cases List.elem c.cn ns<;>rfl
theorem holdsE_flip {r:Rule} {c:Cnd} (h:r.rw.length≤19) (ns:List (List UInt8)) (v:List Int):holdsE ⟨r.rn,r.rw++[⟨c.cn,!c.cb,c.cl⟩],r.rl,r.rs⟩ ns v=holdsE ⟨r.rn,r.rw++[c],r.rl,r.rs⟩ ns v:=by
  unfold holdsE
  rw [rule_more h,rule_more h,gv_one,gv_one,knows_more,knows_more]
  rfl
theorem fails_flip (m:List ((List UInt8)×Int)) (c:Cnd):failsM m ⟨c.cn,!c.cb,c.cl⟩ = !(failsM m c):=by
  unfold failsM
  simp only
  cases ile c.cl (mgetD kq_str m c.cn d_int)<;>cases c.cb<;>rfl
namespace lawMore
noncomputable def bd:Code:=(Tryd.f5.body).getD .skip
noncomputable def X:Ctx U El:=⟨E,tds,zeros,eqs,specOf [(7,awake.sp),(8,slight.sp),(9,short.sp),(11,uHolds.sp),(13,small.sp),(22,rsame.sp),(23,rcopyP.sp)],100000,185,dspecOf [],mspecOf [(21,(mcSp (orH rename.sp renameO.sp)))]⟩
noncomputable def nmR:Norm U:=⟨[],[14],[],[],[],[],[]⟩
noncomputable def RR:Kont U El:=fun st=>normK nmR st (retFin [14] [])
noncomputable def nm1:Norm U:=⟨[],[0,3,4,5,6,8,9],[8,9],[],[],[],[(8,1,.cnd)]⟩
noncomputable def nm2:Norm U:=⟨[],[3,4,8,9],[8,9],[],[],[],[(8,1,.cnd)]⟩
noncomputable def nm3:Norm U:=⟨[],[21,23,25],[],[],[],[],[]⟩
abbrev Y1:=(List Rule)→(List (List UInt8))→(List Int)→(List UInt8)→(List UInt8)→(List UInt8)→(List Cnd)→(List UInt8)→Int→Cnd→R
abbrev Y2:=(List (List UInt8))→(List Int)→(List UInt8)→(List Cnd)→(List UInt8)→Int→Cnd→R
abbrev Y3:=Bool→Bool→Bool→R
noncomputable def fr0 (l:List Rule) (r:Rule) (c:Cnd) (ns:List (List UInt8)) (v:List Int) (fr:List UInt8) (to:List UInt8):St U El:=⟨[(0,(.lst .rule l)),(1,(.agg [(.str r.rn),(.lst .cnd r.rw),(.str r.rl),(.int .i64 r.rs)])),(2,(.agg [(.str c.cn),(.bool c.cb),(.int .i64 c.cl)])),(3,(.lst .str ns)),(4,(.lst .int v)),(5,(.str fr)),(6,(.str to))],[]⟩
noncomputable def fr1 (l0:List Rule) (bA:List (List UInt8)) (aA:List Int) (gA:List UInt8) (iA:List UInt8) (cA:List UInt8) (dA:List Cnd) (eA:List UInt8) (fA:Int) (b9:Cnd):St U El:=⟨[(0,(.lst .rule l0)),(3,(.lst .str bA)),(4,(.lst .int aA)),(5,(.str gA)),(6,(.str iA)),(8,(.ptr 8 0)),(9,(.ptr 9 0))],[(8,(.box 0 [(.str cA),(.lst .cnd dA),(.str eA),(.int .i64 fA)])),(9,(.box 0 [(.str b9.cn),(.bool b9.cb),(.int .i64 b9.cl)]))]⟩
noncomputable def fr2 (bA:List (List UInt8)) (aA:List Int) (cA:List UInt8) (dA:List Cnd) (eA:List UInt8) (fA:Int) (b9:Cnd):St U El:=⟨[(3,(.lst .str bA)),(4,(.lst .int aA)),(8,(.ptr 8 0)),(9,(.ptr 9 0))],[(8,(.box 0 [(.str cA),(.lst .cnd dA),(.str eA),(.int .i64 fA)])),(9,(.box 0 [(.str b9.cn),(.bool b9.cb),(.int .i64 b9.cl)]))]⟩
noncomputable def fr3 (hA:Bool) (kA:Bool) (jA:Bool):St U El:=⟨[(21,(.bool hA)),(23,(.bool kA)),(25,(.bool jA))],[]⟩
noncomputable def sh0 (l:List Rule) (r:Rule) (c:Cnd) (ns:List (List UInt8)) (v:List Int) (fr:List UInt8) (to:List UInt8) (k1:Y1):R :=
  condB (!(true)) (some ((.bool false),[])) (condB (!(smallB l)) (some ((.bool true),[])) (condB (ilt (19:Int) (Int.ofNat (List.length r.rw))) (some ((.bool true),[])) (condB (!(slightB r)) (some ((.bool true),[])) (condB (!(shortB ns v)) (some ((.bool true),[])) (condB (ilt (50:Int) (Int.ofNat (List.length c.cn))) (some ((.bool true),[])) (condB (ilt (50:Int) (Int.ofNat (List.length fr))) (some ((.bool true),[])) (condB (ilt (50:Int) (Int.ofNat (List.length to))) (some ((.bool true),[])) (k1 l ns v fr to r.rn r.rw r.rl r.rs c))))))))
noncomputable def sh1 (l0:List Rule) (bA:List (List UInt8)) (aA:List Int) (gA:List UInt8) (iA:List UInt8) (cA:List UInt8) (dA:List Cnd) (eA:List UInt8) (fA:Int) (b9:Cnd) (k2:Y2):R :=
  condB ((renE l0 gA iA) == (0:Int)) (condB (!(gA == iA)) (condB ((renE (renL l0 gA iA) iA gA) == (0:Int)) (chk (okR (renL (renL l0 gA iA) iA gA)) (condB (!(sameL (renL (renL l0 gA iA) iA gA) l0)) (some ((.bool false),[])) (condB ((renE (renL l0 gA iA) iA gA) != (0:Int)) (condB ((renE (renL l0 gA iA) iA gA) != (7:Int)) (some ((.bool false),[])) (k2 bA aA cA dA eA fA b9)) (k2 bA aA cA dA eA fA b9)))) (condB ((renE (renL l0 gA iA) iA gA) != (0:Int)) (condB ((renE (renL l0 gA iA) iA gA) != (7:Int)) (some ((.bool false),[])) (k2 bA aA cA dA eA fA b9)) (k2 bA aA cA dA eA fA b9))) (k2 bA aA cA dA eA fA b9)) (k2 bA aA cA dA eA fA b9)
noncomputable def sh2 (bA:List (List UInt8)) (aA:List Int) (cA:List UInt8) (dA:List Cnd) (eA:List UInt8) (fA:Int) (b9:Cnd) (k3:Y3):R :=
  chk (nle (List.length (Rule.rw (⟨cA,dA,eA,fA⟩:Rule))) 90000) (chk (nle (List.length (Rule.rw (⟨cA,dA,eA,fA⟩:Rule))) 90000) (chk (nle ((List.length (Rule.rw (⟨cA,dA,eA,fA⟩:Rule))+List.length ([b9]:List Cnd)) * 32) 140737488355328&&nle (List.length (Rule.rw (⟨cA,dA,eA,fA⟩:Rule))+List.length ([b9]:List Cnd)) 9223372036854775807) (chk (nle ((List.length (Rule.rw (⟨cA,dA,eA,fA⟩:Rule))+List.length ([(⟨b9.cn,(!b9.cb),b9.cl⟩:Cnd)]:List Cnd)) * 32) 140737488355328&&nle (List.length (Rule.rw (⟨cA,dA,eA,fA⟩:Rule))+List.length ([(⟨b9.cn,(!b9.cb),b9.cl⟩:Cnd)]:List Cnd)) 9223372036854775807) (chk (nle (List.length bA) 90000) (chk (nle (List.length bA) 90000) (chk (nle (List.length bA) 90000) (condB ((holdsE (⟨(Rule.rn (⟨cA,dA,eA,fA⟩:Rule)),((Rule.rw (⟨cA,dA,eA,fA⟩:Rule))++([b9]:List Cnd)),(Rule.rl (⟨cA,dA,eA,fA⟩:Rule)),(Rule.rs (⟨cA,dA,eA,fA⟩:Rule))⟩:Rule) bA aA) != (holdsE (⟨(Rule.rn (⟨cA,dA,eA,fA⟩:Rule)),((Rule.rw (⟨cA,dA,eA,fA⟩:Rule))++([(⟨b9.cn,(!b9.cb),b9.cl⟩:Cnd)]:List Cnd)),(Rule.rl (⟨cA,dA,eA,fA⟩:Rule)),(Rule.rs (⟨cA,dA,eA,fA⟩:Rule))⟩:Rule) bA aA)) (some ((.bool false),[])) (condB ((holdsE (⟨cA,dA,eA,fA⟩:Rule) bA aA) != (0:Int)) (condB (!(holdsB (⟨(Rule.rn (⟨cA,dA,eA,fA⟩:Rule)),((Rule.rw (⟨cA,dA,eA,fA⟩:Rule))++([b9]:List Cnd)),(Rule.rl (⟨cA,dA,eA,fA⟩:Rule)),(Rule.rs (⟨cA,dA,eA,fA⟩:Rule))⟩:Rule) bA aA)) (some ((.bool (!(holdsB (⟨(Rule.rn (⟨cA,dA,eA,fA⟩:Rule)),((Rule.rw (⟨cA,dA,eA,fA⟩:Rule))++([(⟨b9.cn,(!b9.cb),b9.cl⟩:Cnd)]:List Cnd)),(Rule.rl (⟨cA,dA,eA,fA⟩:Rule)),(Rule.rs (⟨cA,dA,eA,fA⟩:Rule))⟩:Rule) bA aA))),[])) (some ((.bool false),[]))) (condB ((holdsE (⟨(Rule.rn (⟨cA,dA,eA,fA⟩:Rule)),((Rule.rw (⟨cA,dA,eA,fA⟩:Rule))++([b9]:List Cnd)),(Rule.rl (⟨cA,dA,eA,fA⟩:Rule)),(Rule.rs (⟨cA,dA,eA,fA⟩:Rule))⟩:Rule) bA aA) != (0:Int)) (condB (!(holdsB (⟨(Rule.rn (⟨cA,dA,eA,fA⟩:Rule)),((Rule.rw (⟨cA,dA,eA,fA⟩:Rule))++([b9]:List Cnd)),(Rule.rl (⟨cA,dA,eA,fA⟩:Rule)),(Rule.rs (⟨cA,dA,eA,fA⟩:Rule))⟩:Rule) bA aA)) (some ((.bool (!(holdsB (⟨(Rule.rn (⟨cA,dA,eA,fA⟩:Rule)),((Rule.rw (⟨cA,dA,eA,fA⟩:Rule))++([(⟨b9.cn,(!b9.cb),b9.cl⟩:Cnd)]:List Cnd)),(Rule.rl (⟨cA,dA,eA,fA⟩:Rule)),(Rule.rs (⟨cA,dA,eA,fA⟩:Rule))⟩:Rule) bA aA))),[])) (some ((.bool false),[]))) (k3 (holdsB (⟨cA,dA,eA,fA⟩:Rule) bA aA) (holdsB (⟨(Rule.rn (⟨cA,dA,eA,fA⟩:Rule)),((Rule.rw (⟨cA,dA,eA,fA⟩:Rule))++([b9]:List Cnd)),(Rule.rl (⟨cA,dA,eA,fA⟩:Rule)),(Rule.rs (⟨cA,dA,eA,fA⟩:Rule))⟩:Rule) bA aA) (holdsB (⟨(Rule.rn (⟨cA,dA,eA,fA⟩:Rule)),((Rule.rw (⟨cA,dA,eA,fA⟩:Rule))++([(⟨b9.cn,(!b9.cb),b9.cl⟩:Cnd)]:List Cnd)),(Rule.rl (⟨cA,dA,eA,fA⟩:Rule)),(Rule.rs (⟨cA,dA,eA,fA⟩:Rule))⟩:Rule) bA aA)))))))))))
noncomputable def sh3 (hA:Bool) (kA:Bool) (jA:Bool):R :=
  condB (!kA) (condB (!jA) (condB kA (condB (hA == true) (condB kA (some ((.bool (!jA)),[])) (some ((.bool true),[]))) (some ((.bool false),[]))) (condB (hA == jA) (condB kA (some ((.bool (!jA)),[])) (some ((.bool true),[]))) (some ((.bool false),[])))) (condB hA (condB kA (condB (hA == true) (condB kA (some ((.bool (!jA)),[])) (some ((.bool true),[]))) (some ((.bool false),[]))) (condB (hA == jA) (condB kA (some ((.bool (!jA)),[])) (some ((.bool true),[]))) (some ((.bool false),[])))) (some ((.bool false),[])))) (condB hA (condB (!jA) (condB kA (condB (hA == true) (condB kA (some ((.bool (!jA)),[])) (some ((.bool true),[]))) (some ((.bool false),[]))) (condB (hA == jA) (condB kA (some ((.bool (!jA)),[])) (some ((.bool true),[]))) (some ((.bool false),[])))) (condB hA (condB kA (condB (hA == true) (condB kA (some ((.bool (!jA)),[])) (some ((.bool true),[]))) (some ((.bool false),[]))) (condB (hA == jA) (condB kA (some ((.bool (!jA)),[])) (some ((.bool true),[]))) (some ((.bool false),[])))) (some ((.bool false),[])))) (some ((.bool false),[])))
noncomputable def ct1:Kont U El:=fun st=>exec X (cdp [1,1,1] bd) (.seq (some nm2) .d (.seq none (.region [(6,19),(7,20)]) (.seq none .d (.seq none .d (.seq none .d (.seq none .d (.seq none .d (.seq none .d (.seq none .d (.seq (some nm3) .d .d)))))))))) st RR (fun _ _=>none) RR
noncomputable def ct2:Kont U El:=fun st=>exec X (cdp [1,1,1,1] bd) (.seq none (.region [(6,19),(7,20)]) (.seq none .d (.seq none .d (.seq none .d (.seq none .d (.seq none .d (.seq none .d (.seq none .d (.seq (some nm3) .d .d))))))))) st RR (fun _ _=>none) RR
noncomputable def ct3:Kont U El:=fun st=>exec X (cdp [1,1,1,1,1,1,1,1,1,1,1,1,1] bd) .d st RR (fun _ _=>none) RR
theorem P0 (l r c ns v fr to):exec X (cdp [] bd) (.seq none .d (.seq none .d (.seq (some nm1) .d (.seq (some nm2) .d (.seq none (.region [(6,19),(7,20)]) (.seq none .d (.seq none .d (.seq none .d (.seq none .d (.seq none .d (.seq none .d (.seq none .d (.seq (some nm3) .d .d))))))))))))) (fr0 l r c ns v fr to) RR (fun _ _=>none) RR=sh0 l r c ns v fr to (fun y0 y1 y2 y3 y4 y5 y6 y7 y8 y9=>(hid ct1) (fr1 y0 y1 y2 y3 y4 y5 y6 y7 y8 y9)):=by kernel_rfl
theorem P1 (l0 bA aA gA iA cA dA eA fA b9):ct1 (fr1 l0 bA aA gA iA cA dA eA fA b9)=sh1 l0 bA aA gA iA cA dA eA fA b9 (fun y0 y1 y2 y3 y4 y5 y6=>(hid ct2) (fr2 y0 y1 y2 y3 y4 y5 y6)):=by kernel_rfl
theorem P2 (bA aA cA dA eA fA b9):ct2 (fr2 bA aA cA dA eA fA b9)=sh2 bA aA cA dA eA fA b9 (fun y0 y1 y2=>(hid ct3) (fr3 y0 y1 y2)):=by kernel_rfl
theorem P3 (hA kA jA):ct3 (fr3 hA kA jA)=sh3 hA kA jA:=by kernel_rfl
noncomputable def f3 (hA:Bool) (kA:Bool) (jA:Bool):R:=sh3 hA kA jA
noncomputable def f2 (bA:List (List UInt8)) (aA:List Int) (cA:List UInt8) (dA:List Cnd) (eA:List UInt8) (fA:Int) (b9:Cnd):R:=sh2 bA aA cA dA eA fA b9 f3
noncomputable def f1 (l0:List Rule) (bA:List (List UInt8)) (aA:List Int) (gA:List UInt8) (iA:List UInt8) (cA:List UInt8) (dA:List Cnd) (eA:List UInt8) (fA:Int) (b9:Cnd):R:=sh1 l0 bA aA gA iA cA dA eA fA b9 f2
noncomputable def f0 (l:List Rule) (r:Rule) (c:Cnd) (ns:List (List UInt8)) (v:List Int) (fr:List UInt8) (to:List UInt8):R:=sh0 l r c ns v fr to f1
theorem T3 (hA kA jA):(hid ct3) (fr3 hA kA jA)=f3 hA kA jA:=by
  refine (congrFun (hid_eq _) _).trans <| (P3 hA kA jA).trans ?_
  show _=sh3 hA kA jA
  rfl
theorem T2 (bA aA cA dA eA fA b9):(hid ct2) (fr2 bA aA cA dA eA fA b9)=f2 bA aA cA dA eA fA b9:=by
  refine (congrFun (hid_eq _) _).trans <| (P2 bA aA cA dA eA fA b9).trans ?_
  show _=sh2 bA aA cA dA eA fA b9 f3
  simp only [T3]
theorem T1 (l0 bA aA gA iA cA dA eA fA b9):(hid ct1) (fr1 l0 bA aA gA iA cA dA eA fA b9)=f1 l0 bA aA gA iA cA dA eA fA b9:=by
  refine (congrFun (hid_eq _) _).trans <| (P1 l0 bA aA gA iA cA dA eA fA b9).trans ?_
  show _=sh1 l0 bA aA gA iA cA dA eA fA b9 f2
  simp only [T2]
theorem T0 (l r c ns v fr to):exec X bd (.seq none .d (.seq none .d (.seq (some nm1) .d (.seq (some nm2) .d (.seq none (.region [(6,19),(7,20)]) (.seq none .d (.seq none .d (.seq none .d (.seq none .d (.seq none .d (.seq none .d (.seq none .d (.seq (some nm3) .d .d))))))))))))) (fr0 l r c ns v fr to) RR (fun _ _=>none) RR=f0 l r c ns v fr to:=by
  refine (P0 l r c ns v fr to).trans ?_
  show _=sh0 l r c ns v fr to f1
  simp only [T1]
theorem run (l r c ns v fr to):runFn X bd (.seq none .d (.seq none .d (.seq (some nm1) .d (.seq (some nm2) .d (.seq none (.region [(6,19),(7,20)]) (.seq none .d (.seq none .d (.seq none .d (.seq none .d (.seq none .d (.seq none .d (.seq none .d (.seq (some nm3) .d .d))))))))))))) nmR [14] [] [(.lst .rule l),(.agg [(.str r.rn),(.lst .cnd r.rw),(.str r.rl),(.int .i64 r.rs)]),(.agg [(.str c.cn),(.bool c.cb),(.int .i64 c.cl)]),(.lst .str ns),(.lst .int v),(.str fr),(.str to)]=f0 l r c ns v fr to:=T0 l r c ns v fr to
theorem part3 (is a b:Bool) (x:Bool) (ha:a=(is && !x)) (hb:b=(is&&x)):f3 is a b=outB true:=by
  subst ha hb
  cases is<;>cases x<;>rfl
theorem part2 (rn:List UInt8) (w:List Cnd) (rl:List UInt8) (rs:Int) (c:Cnd) (ns:List (List UInt8)) (v:List Int) (hr:w.length≤19) (hn:nle ns.length 90000=true):f2 ns v rn w rl rs c=outB true:=by
  show sh2 ns v rn w rl rs c f3=_
  unfold sh2
  have hr':(⟨rn,w,rl,rs⟩:Rule).rw.length≤19:=hr
  have e0:holdsE (⟨rn,w++[(⟨c.cn,!c.cb,c.cl⟩:Cnd)],rl,rs⟩:Rule) ns v=holdsE (⟨rn,w++[c],rl,rs⟩:Rule) ns v:=holdsE_flip (r:=⟨rn,w,rl,rs⟩) hr' ns v
  have e1:(holdsE (⟨rn,w,rl,rs⟩:Rule) ns v != 0) = !(okH (⟨rn,w,rl,rs⟩:Rule) ns v):=by rw [bne,holdsE_0]
  have e2:(holdsE (⟨rn,w++[c],rl,rs⟩:Rule) ns v != 0) = !(okH (⟨rn,w,rl,rs⟩:Rule) ns v&&(cndB c&&List.elem c.cn ns)):=by rw [bne,holdsE_0,← okH_more (r:=⟨rn,w,rl,rs⟩) hr' ns v]
  have e3:holdsB (⟨rn,w,rl,rs⟩:Rule) ns v=(okH (⟨rn,w,rl,rs⟩:Rule) ns v && !(List.any w (failsM (List.zip ns v)))):=holdsB_ok _ ns v
  have e4:holdsB (⟨rn,w++[c],rl,rs⟩:Rule) ns v=((okH (⟨rn,w,rl,rs⟩:Rule) ns v&&(cndB c&&List.elem c.cn ns)) && !(List.any w (failsM (List.zip ns v))||failsM (List.zip ns v) c)):=by
    rw [holdsB_ok,← okH_more (r:=⟨rn,w,rl,rs⟩) hr' ns v,← any_more ⟨rn,w,rl,rs⟩]
  have e5:holdsB (⟨rn,w++[(⟨c.cn,!c.cb,c.cl⟩:Cnd)],rl,rs⟩:Rule) ns v=((okH (⟨rn,w,rl,rs⟩:Rule) ns v&&(cndB c&&List.elem c.cn ns)) && !(List.any w (failsM (List.zip ns v)) || !(failsM (List.zip ns v) c))):=by
    rw [holdsB_ok,← fails_flip,← any_more ⟨rn,w,rl,rs⟩]
    have:=okH_more (r:=⟨rn,w,rl,rs⟩) (c:=⟨c.cn,!c.cb,c.cl⟩) hr' ns v
    rw [show (okH (⟨rn,w,rl,rs⟩:Rule) ns v&&(cndB c&&List.elem c.cn ns))=okH (⟨rn,w++[(⟨c.cn,!c.cb,c.cl⟩:Cnd)],rl,rs⟩:Rule) ns v from this.symm]
  dsimp only
  rw [hn,nleT (show w.length≤90000 by omega)]
  simp only [List.length_singleton]
  rw [nleT (show _≤140737488355328 by omega),nleT (show _≤9223372036854775807 by omega),e0,bne_self_eq_false,e1,e2,e3,e4,e5]
  cases h1:okH (⟨rn,w,rl,rs⟩:Rule) ns v with
  | false=>rfl
  | true =>
    cases h2:cndB c&&List.elem c.cn ns with
    | false=>rfl
    | true =>
      show f3 (true && !(List.any w (failsM (List.zip ns v)))) (true && !(List.any w (failsM (List.zip ns v))||failsM (List.zip ns v) c)) (true && !(List.any w (failsM (List.zip ns v)) || !(failsM (List.zip ns v) c)))=_
      refine part3 _ _ _ (failsM (List.zip ns v) c) ?_ ?_
      · cases List.any w (failsM (List.zip ns v))<;>cases failsM (List.zip ns v) c<;>rfl
      · cases List.any w (failsM (List.zip ns v))<;>cases failsM (List.zip ns v) c<;>rfl
theorem part1 (l : List Rule) (r : Rule) (c : Cnd) (ns : List (List UInt8)) (v : List Int) (fr to : List UInt8) (hr : r.rw.length ≤ 19) (hn : nle ns.length 90000 = true) : f1 l ns v fr to r.rn r.rw r.rl r.rs c = outB true := by
  show sh1 l ns v fr to r.rn r.rw r.rl r.rs c f2=_
  unfold sh1
  rw [part2 r.rn r.rw r.rl r.rs c ns v hr hn]
  cases h1:renE l fr to == 0 with
  | false=>rfl
  | true =>
    cases h2:fr == to with
    | true=>rfl
    | false =>
      obtain ⟨b0,b1,b2⟩:=back (by simpa using h1:renE l fr to=0) (by simpa using h2)
      rw [b1]
      cases h3:nameB fr with
      | false=>rfl
      | true =>
        rw [b2 h3,sameL_self,rulesB_okR b0]
        rfl
theorem f0_eq (l : List Rule) (r : Rule) (c : Cnd) (ns : List (List UInt8)) (v : List Int) (fr to : List UInt8) : f0 l r c ns v fr to = outB true := by
  show sh0 l r c ns v fr to f1=_
  unfold sh0
  cases hs:smallB l with
  | false=>rfl
  | true =>
    by_cases hr:(19:Int) < Int.ofNat r.rw.length
    · rw [show ilt 19 (Int.ofNat r.rw.length)=true from iltT hr]; rfl
    · rw [show ilt 19 (Int.ofNat r.rw.length) = false from iltF hr]
      cases slightB r with
      | false=>rfl
      | true =>
        cases hh:shortB ns v with
        | false=>rfl
        | true =>
          have hn:ns.length≤90000:=by
            unfold shortB at hh
            simp only [Bool.and_eq_true] at hh
            have:=ileI hh.1
            simp at this
            omega
          have e:=part1 l r c ns v fr to (by simp at hr; omega) (nleT hn)
          rw [e]
          cases ilt 50 (Int.ofNat c.cn.length)<;>cases ilt 50 (Int.ofNat fr.length)<;>cases ilt 50 (Int.ofNat to.length)<;>rfl
theorem ok:CtxOk Tryd.prog X:=ctxOk tab (spC awake.spOk (spC slight.spOk (spC short.spOk (spC uHolds.spOk (spC small.spOk (spC rsame.spOk (spC rcopyP.spOk spN))))))) dpN
theorem okM:MOk Tryd.prog X:=mspecOf_ok _ (mpC (mcSp_ok ok (orH_ok rename.spOk renameO.spOk)) mpN)
theorem spec (l:List Rule) (r:Rule) (c:Cnd) (ns:List (List UInt8)) (v:List Int) (fr:List UInt8) (to:List UInt8):CallSpec Tryd.prog E 5 [(.lst .rule l),(.agg [(.str r.rn),(.lst .cnd r.rw),(.str r.rl),(.int .i64 r.rs)]),(.agg [(.str c.cn),(.bool c.cb),(.int .i64 c.cl)]),(.lst .str ns),(.lst .int v),(.str fr),(.str to)] (.bool (true)) [] :=
  runFn_sound ok okM Tryd.call5 Tryd.func5 (by kernel_rfl) (by kernel_rfl) (by kernel_rfl) (by show 7≤185; decide) (by decide) (by rfl) ((run l r c ns v fr to).trans (f0_eq l r c ns v fr to))
noncomputable def sp:Sp U El:=fun args k=>match args with
  | [.lst .rule l,.agg [.str r_rn,.lst .cnd r_rw,.str r_rl,.int .i64 r_rs],.agg [.str c_cn,.bool c_cb,.int .i64 c_cl],.lst .str ns,.lst .int v,.str fr,.str to]=>k (.bool (true)) []
  | _=>none
theorem spOk:SpOk Tryd.prog E 5 sp where
  det:=fun vs=>by
    unfold sp
    split
    · exact ⟨some (_,_),fun _=>rfl⟩
    · exact ⟨none,fun _=>rfl⟩
  ok:=fun vs k r h=>by
    unfold sp at h
    split at h
    · exact ⟨_,_,spec _ ⟨_,_,_,_⟩ ⟨_,_,_⟩ _ _ _ _,h⟩
    · cases h
end lawMore
end Go.Proofs.YtlkfbblapimhoaaDoor
