/- The law RulesSimpler: its own run is true. -/
import Derived.Test.YtlkfbblapimhoaaDoorUX
import Derived.Test.YtlkfbblapimhoaaDoorVD
import Derived.Test.YtlkfbblapimhoaaDoorAW
namespace Go.Proofs.YtlkfbblapimhoaaDoor
set_option linter.unusedSectionVars false
set_option linter.unusedSimpArgs false
set_option linter.unusedVariables false
set_option maxRecDepth 100000
theorem all_iff_mem {α β:Type} {f:α→Bool} {g:β→α} {l m:List β} (h1:∀ c∈m,∃ x∈l,g x=g c) (h2:∀ c∈l,∃ x∈m,g x=g c):List.all l (fun c=>f (g c))=List.all m (fun c=>f (g c)):=by
  rw [Bool.eq_iff_iff,List.all_eq_true,List.all_eq_true]
  constructor
  · intro h c hc
    obtain ⟨x,hx,e⟩:=h1 c hc
    rw [← e]; exact h x hx
  · intro h c hc
    obtain ⟨x,hx,e⟩:=h2 c hc
    rw [← e]; exact h x hx
noncomputable def simS (r:Rule):Rule:=⟨r.rn,simC r.rw,r.rl,r.rs⟩
theorem ruleB_sim {r:Rule} (h:ruleB r=true):ruleB (simS r)=true:=by
  obtain ⟨g1,g2⟩:=ruleB_len h
  have hl:=sim_len r.rw
  unfold ruleB at h ⊢
  simp only [Bool.and_eq_true,Bool.not_eq_true'] at h ⊢
  refine ⟨h.1,h.2.1,?_,h.2.2.2.1,List.all_eq_true.2 fun c hc=>g2 c (sim_mem hc).1⟩
  exact iltF (by show ¬ (20:Int) < Int.ofNat (simC r.rw).length; simp; omega)
theorem simR_ok {r:Rule} (h:ruleB r=true) (hf:simF r.rw=false):simR r=simS r:=by unfold simR; rw [h,hf]; rfl
theorem simE_ok {r:Rule} (h:ruleB r=true) (hf:simF r.rw=false):simE r=0:=by unfold simE; rw [h,hf]; rfl
theorem gv_sim (r:Rule) (ns:List (List UInt8)) (v:List Int):gvE [simS r] ns v=gvE [r] ns v:=by
  have:knowsR ns (simS r)=knowsR ns r:=all_iff_mem (f:=fun n=>List.elem n ns) (g:=Cnd.cn) (fun c hc=>sim_node hc) (fun c hc=>⟨c,(sim_mem hc).1,rfl⟩)
  unfold gvE
  simp only [List.all_cons,List.all_nil,this]
theorem fails_sim (m:List ((List UInt8)×Int)) (r:Rule):List.any (simS r).rw (failsM m)=List.any r.rw (failsM m):=any_sim (fun n=>mgetD kq_str m n d_int) r.rw
theorem holdsB_sim {r:Rule} (h:ruleB r=true) (ns:List (List UInt8)) (v:List Int):holdsB (simS r) ns v=holdsB r ns v:=by
  unfold holdsB
  rw [ruleB_sim h,h,gv_sim,fails_sim]
theorem holdsE_sim {r:Rule} (h:ruleB r=true) (ns:List (List UInt8)) (v:List Int):holdsE (simS r) ns v=holdsE r ns v:=by
  unfold holdsE
  rw [ruleB_sim h,h,gv_sim]
theorem holdsB_clash {r:Rule} (hf:simF r.rw=true) (ns:List (List UInt8)) (v:List Int):holdsB r ns v=false:=by
  unfold holdsB
  have:List.any r.rw (failsM (List.zip ns v))=true:=clash_fails (fun n=>mgetD kq_str (List.zip ns v) n d_int) hf
  rw [this]
  cases ruleB r<;>cases gvE [r] ns v == 0<;>rfl
theorem mgetD_mput (m : List ((List UInt8) × Int)) (k n : List UInt8) (z d : Int) : mgetD kq_str (mput kq_str m k z) n d = bif n == k then z else mgetD kq_str m n d := by
  unfold mgetD
  induction m with
  | nil =>
    simp only [mput,mfind,kq_eq]
    cases n == k<;>rfl
  | cons p m ih =>
    simp only [mput]
    rw [kq_eq]
    cases e:k == p.1 with
    | true =>
      have e':=beq_iff_eq.1 e
      simp only [cond_true,mfind,kq_eq,← e']
      cases n == k<;>rfl
    | false =>
      simp only [cond_false,mfind,kq_eq]
      cases e2:n == p.1 with
      | true =>
        have e3:(n == k)=false:=by
          rw [beq_iff_eq.1 e2]
          simp only [beq_eq_false_iff_ne,ne_eq] at e ⊢
          exact fun h=>e h.symm
        rw [e3]; rfl
      | false =>
        simp only [cond_false]
        exact ih
noncomputable def cntI (n:List UInt8) (l:List Cnd):Int:=Int.ofNat (List.filter (fun c=>c.cn == n) l).length
theorem cnt_snoc (n:List UInt8) (l:List Cnd) (c:Cnd):cntI n (l++[c])=bif n == c.cn then cntI n l+1 else cntI n l:=by
  unfold cntI
  rw [List.filter_append,List.length_append]
  cases e:n == c.cn with
  | true =>
    rw [List.filter_cons_of_pos (by rw [beq_iff_eq.1 e]; simp)]
    simp
  | false =>
    rw [List.filter_cons_of_neg (by simp only [beq_eq_false_iff_ne,ne_eq] at e; simpa using fun h=>e h.symm)]
    simp
theorem cnt_take {l:List Cnd} (h:∀ n,cntI n l≤2) (n:List UInt8) (i:Nat):cntI n (l.take i)≤2:=by
  refine Int.le_trans ?_ (h n)
  unfold cntI
  have:(List.filter (fun c=>c.cn == n) (l.take i)).length≤(List.filter (fun c=>c.cn == n) l).length:=List.Sublist.length_le ((List.take_sublist i l).filter _)
  simpa using this
namespace lawSimpler
noncomputable def bd:Code:=(Tryd.f3.body).getD .skip
noncomputable def X:Ctx U El:=⟨E,tds,zeros,eqs,specOf [(7,awake.sp),(8,slight.sp),(9,short.sp),(10,usimpler.sp),(11,uHolds.sp),(12,rsameR.sp)],100000,126,dspecOf [],fun _=>none⟩
noncomputable def nmR:Norm U:=⟨[],[6],[],[],[],[],[]⟩
noncomputable def RR:Kont U El:=fun st=>normK nmR st (retFin [6] [])
noncomputable def nm1:Norm U:=⟨[],[1,2,3],[3],[],[],[],[(3,1,.cnd)]⟩
noncomputable def nm2:Norm U:=⟨[],[7],[7],[],[],[],[(7,1,.cnd)]⟩
noncomputable def nm3:Norm U:=⟨[],[],[],[],[],[],[]⟩
noncomputable def nm4:Norm U:=⟨[],[15,109,110,111],[107],[],[],[],[]⟩
abbrev Y1:=(List (List UInt8))→(List Int)→(List UInt8)→(List Cnd)→(List UInt8)→Int→R
abbrev Y2:=(List UInt8)→(List Cnd)→(List UInt8)→Int→R
abbrev Y3:=R
abbrev Y4:=(List Cnd)→Int→Int→(List ((List UInt8)×Int))→R
noncomputable def fr0 (r:Rule) (ns:List (List UInt8)) (v:List Int):St U El:=⟨[(0,(.agg [(.str r.rn),(.lst .cnd r.rw),(.str r.rl),(.int .i64 r.rs)])),(1,(.lst .str ns)),(2,(.lst .int v))],[]⟩
noncomputable def fr1 (bA:List (List UInt8)) (aA:List Int) (dA:List UInt8) (cA:List Cnd) (eA:List UInt8) (fA:Int):St U El:=⟨[(1,(.lst .str bA)),(2,(.lst .int aA)),(3,(.ptr 3 0))],[(3,(.box 0 [(.str dA),(.lst .cnd cA),(.str eA),(.int .i64 fA)]))]⟩
noncomputable def fr2 (lA:List UInt8) (kA:List Cnd) (mA:List UInt8) (nA:Int):St U El:=⟨[(7,(.ptr 7 0))],[(7,(.box 0 [(.str lA),(.lst .cnd kA),(.str mA),(.int .i64 nA)]))]⟩
noncomputable def fr3:St U El:=⟨[],[]⟩
noncomputable def fr4 (hA:List Cnd) (jA:Int) (gA:Int) (iA:List ((List UInt8)×Int)):St U El:=⟨[(15,(.mp 107)),(109,(.lst .cnd hA)),(110,(.int .i64 jA)),(111,(.int .i64 gA))],[(107,(.map .str .int iA))]⟩
noncomputable def sh0 (r:Rule) (ns:List (List UInt8)) (v:List Int) (k1:Y1):R :=
  condB (!(true)) (some ((.bool false),[])) (condB (!(slightB r)) (some ((.bool true),[])) (condB (!(shortB ns v)) (some ((.bool true),[])) (k1 ns v r.rn r.rw r.rl r.rs)))
noncomputable def sh1 (bA:List (List UInt8)) (aA:List Int) (dA:List UInt8) (cA:List Cnd) (eA:List UInt8) (fA:Int) (k2:Y2):R :=
  chk (nle (List.length bA) 90000) (condB ((simE (⟨dA,cA,eA,fA⟩:Rule)) != (0:Int)) (condB ((Int.ofNat (List.length ((simR (⟨dA,cA,eA,fA⟩:Rule)).rw))) == (0:Int)) (condB (((simR (⟨dA,cA,eA,fA⟩:Rule)).rn) == ([]:List UInt8)) (condB ((simE (⟨dA,cA,eA,fA⟩:Rule)) == (12:Int)) (condB (!(holdsB (⟨dA,cA,eA,fA⟩:Rule) bA aA)) (some ((.bool true),[])) (condB ((simE (⟨dA,cA,eA,fA⟩:Rule)) == (1:Int)) (some ((.bool ((holdsE (⟨dA,cA,eA,fA⟩:Rule) bA aA) == (1:Int))),[])) (some ((.bool false),[])))) (condB ((simE (⟨dA,cA,eA,fA⟩:Rule)) == (1:Int)) (some ((.bool ((holdsE (⟨dA,cA,eA,fA⟩:Rule) bA aA) == (1:Int))),[])) (some ((.bool false),[])))) (some ((.bool false),[]))) (some ((.bool false),[]))) (chk (nle (List.length bA) 90000) (condB ((holdsE (⟨dA,cA,eA,fA⟩:Rule) bA aA) != (holdsE (simR (⟨dA,cA,eA,fA⟩:Rule)) bA aA)) (some ((.bool false),[])) (condB (!((holdsB (⟨dA,cA,eA,fA⟩:Rule) bA aA) == (holdsB (simR (⟨dA,cA,eA,fA⟩:Rule)) bA aA))) (some ((.bool false),[])) (condB ((simE (simR (⟨dA,cA,eA,fA⟩:Rule))) != (0:Int)) (some ((.bool false),[])) (chk (nle (List.length (Rule.rw (simR (simR (⟨dA,cA,eA,fA⟩:Rule))))) 90000) (condB (!(sameR (simR (simR (⟨dA,cA,eA,fA⟩:Rule))) (simR (⟨dA,cA,eA,fA⟩:Rule)))) (some ((.bool false),[])) (condB (ilt (Int.ofNat (List.length cA)) (Int.ofNat (List.length ((simR (⟨dA,cA,eA,fA⟩:Rule)).rw)))) (some ((.bool false),[])) (k2 ((simR (⟨dA,cA,eA,fA⟩:Rule)).rn) ((simR (⟨dA,cA,eA,fA⟩:Rule)).rw) ((simR (⟨dA,cA,eA,fA⟩:Rule)).rl) ((simR (⟨dA,cA,eA,fA⟩:Rule)).rs))))))))))
noncomputable def sh2 (lA:List UInt8) (kA:List Cnd) (mA:List UInt8) (nA:Int) (k4:Y4):R :=
  k4 kA (Int.ofNat (List.length kA)) (0:Int) ([]:List ((List UInt8)×Int))
noncomputable def sh3:R :=
  some ((.bool true),[])
noncomputable def sh4 (hA:List Cnd) (jA:Int) (gA:Int) (iA:List ((List UInt8)×Int)) (k3:Y3) (k4:Y4):R :=
  condB (ilt gA jA) (chk (inb gA (List.length hA)) (condB (ilt (2:Int) (mgetD kq_str (mput kq_str iA ((List.getD hA (Int.toNat gA) d_cnd).cn) (IntKind.wrap .i64 ((mgetD kq_str iA ((List.getD hA (Int.toNat gA) d_cnd).cn) d_int)+(1:Int)))) ((List.getD hA (Int.toNat gA) d_cnd).cn) d_int)) (some ((.bool false),[])) (k4 hA jA (IntKind.wrap .i64 (gA+(1:Int))) (mput kq_str iA ((List.getD hA (Int.toNat gA) d_cnd).cn) (IntKind.wrap .i64 ((mgetD kq_str iA ((List.getD hA (Int.toNat gA) d_cnd).cn) d_int)+(1:Int))))))) (k3)
noncomputable def it4 (Kb3:Kont U El) (n:Nat):Kont U El:=iter nm4 (fun st' K'=>exec X (cdp [1,1,1,1,1,1,1,1,1,1,0,1,0,0] bd) .d st' K' (Eblk 0 (cutK nm3 Kb3) (fun _ _=>none)) RR) n
noncomputable def ct1:Kont U El:=fun st=>exec X (cdp [1,1,1] bd) (.seq none .d (.seq none .d (.seq none .d (.seq none .d (.seq none .d (.seq (some nm2) .d (.seq none .d (.seq (some nm3) (.seq none .d (.block (.loop nm4 .d))) .d)))))))) st RR (fun _ _=>none) RR
noncomputable def ct2:Kont U El:=fun st=>exec X (cdp [1,1,1,1,1,1,1,1,1] bd) (.seq none .d (.seq (some nm3) (.seq none .d (.block (.loop nm4 .d))) .d)) st RR (fun _ _=>none) RR
noncomputable def ct3:Kont U El:=fun st=>exec X (cdp [1,1,1,1,1,1,1,1,1,1,1] bd) .d st RR (fun _ _=>none) RR
theorem P0 (r ns v):exec X (cdp [] bd) (.seq none .d (.seq none .d (.seq (some nm1) .d (.seq none .d (.seq none .d (.seq none .d (.seq none .d (.seq none .d (.seq (some nm2) .d (.seq none .d (.seq (some nm3) (.seq none .d (.block (.loop nm4 .d))) .d))))))))))) (fr0 r ns v) RR (fun _ _=>none) RR=sh0 r ns v (fun y0 y1 y2 y3 y4 y5=>(hid ct1) (fr1 y0 y1 y2 y3 y4 y5)):=by kernel_rfl
theorem P1 (bA aA dA cA eA fA):ct1 (fr1 bA aA dA cA eA fA)=sh1 bA aA dA cA eA fA (fun y0 y1 y2 y3=>(hid ct2) (fr2 y0 y1 y2 y3)):=by kernel_rfl
theorem P2 (lA kA mA nA):ct2 (fr2 lA kA mA nA)=sh2 lA kA mA nA (fun y0 y1 y2 y3=>(hid (it4 (hid ct3) 100000)) (fr4 y0 y1 y2 y3)):=by kernel_rfl
theorem P3:ct3 (fr3)=sh3:=by kernel_rfl
theorem P4 (hA jA gA iA) (Kb3 Kb4:Kont U El):exec X (cdp [1,1,1,1,1,1,1,1,1,1,0,1,0,0] bd) .d (fr4 hA jA gA iA) (cutK nm4 Kb4) (Eblk 0 (cutK nm3 Kb3) (fun _ _=>none)) RR=sh4 hA jA gA iA (Kb3 (fr3)) (fun y0 y1 y2 y3=>Kb4 (fr4 y0 y1 y2 y3)):=by kernel_rfl
noncomputable def f3:R:=sh3
noncomputable def f4:Nat→Y4
  | 0=>fun _ _ _ _=>none
  | n+1=>fun hA jA gA iA=>sh4 hA jA gA iA f3 (f4 n)
noncomputable def f2 (lA:List UInt8) (kA:List Cnd) (mA:List UInt8) (nA:Int):R:=sh2 lA kA mA nA (f4 100000)
noncomputable def f1 (bA:List (List UInt8)) (aA:List Int) (dA:List UInt8) (cA:List Cnd) (eA:List UInt8) (fA:Int):R:=sh1 bA aA dA cA eA fA f2
noncomputable def f0 (r:Rule) (ns:List (List UInt8)) (v:List Int):R:=sh0 r ns v f1
theorem T3:(hid ct3) (fr3)=f3:=by
  refine (congrFun (hid_eq _) _).trans <| (P3).trans ?_
  show _=sh3
  rfl
theorem T4:∀ (n:Nat),∀ hA jA gA iA,it4 (hid ct3) n (fr4 hA jA gA iA)=f4 n hA jA gA iA:=by
  intro n
  induction n with
  | zero=>intros; rfl
  | succ n ih =>
    intro hA jA gA iA
    refine (P4 hA jA gA iA (hid ct3) (it4 (hid ct3) n)).trans ?_
    show _=sh4 hA jA gA iA f3 (f4 n)
    simp only [T3,ih]
theorem H4 (hA jA gA iA):hid (it4 (hid ct3) 100000) (fr4 hA jA gA iA)=f4 100000 hA jA gA iA:=(congrFun (hid_eq _) _).trans (T4 100000 hA jA gA iA)
theorem T2 (lA kA mA nA):(hid ct2) (fr2 lA kA mA nA)=f2 lA kA mA nA:=by
  refine (congrFun (hid_eq _) _).trans <| (P2 lA kA mA nA).trans ?_
  show _=sh2 lA kA mA nA (f4 100000)
  simp only [H4]
theorem T1 (bA aA dA cA eA fA):(hid ct1) (fr1 bA aA dA cA eA fA)=f1 bA aA dA cA eA fA:=by
  refine (congrFun (hid_eq _) _).trans <| (P1 bA aA dA cA eA fA).trans ?_
  show _=sh1 bA aA dA cA eA fA f2
  simp only [T2]
theorem T0 (r ns v):exec X bd (.seq none .d (.seq none .d (.seq (some nm1) .d (.seq none .d (.seq none .d (.seq none .d (.seq none .d (.seq none .d (.seq (some nm2) .d (.seq none .d (.seq (some nm3) (.seq none .d (.block (.loop nm4 .d))) .d))))))))))) (fr0 r ns v) RR (fun _ _=>none) RR=f0 r ns v:=by
  refine (P0 r ns v).trans ?_
  show _=sh0 r ns v f1
  simp only [T1]
theorem run (r ns v):runFn X bd (.seq none .d (.seq none .d (.seq (some nm1) .d (.seq none .d (.seq none .d (.seq none .d (.seq none .d (.seq none .d (.seq (some nm2) .d (.seq none .d (.seq (some nm3) (.seq none .d (.block (.loop nm4 .d))) .d))))))))))) nmR [6] [] [(.agg [(.str r.rn),(.lst .cnd r.rw),(.str r.rl),(.int .i64 r.rs)]),(.lst .str ns),(.lst .int v)]=f0 r ns v:=T0 r ns v
theorem loop (l:List Cnd) (hl:l.length≤90000) (h2:∀ n,cntI n l≤2):∀ (n i:Nat) (m:List ((List UInt8)×Int)),l.length < n+i→i≤l.length→(∀ x,mgetD kq_str m x d_int=cntI x (l.take i))→f4 n l (Int.ofNat l.length) (i:Int) m=outB true:=by
  intro n
  induction n with
  | zero=>intro i m h1 h3; omega
  | succ n ih =>
    intro i m h1 h3 hm
    show sh4 l (Int.ofNat l.length) (i:Int) m f3 (f4 n)=_
    unfold sh4
    by_cases hi:i < l.length
    · have c2 := cnt_take h2 l[i].cn i
      have c3:=cnt_take h2 l[i].cn (i+1)
      have c0:(0:Int)≤cntI l[i].cn (l.take i):=by unfold cntI; simp
      have hw:IntKind.wrap .i64 (cntI l[i].cn (l.take i)+1)=cntI l[i].cn (l.take i)+1:=wrapI (by omega) (by omega)
      have hs:cntI l[i].cn (l.take (i+1))=cntI l[i].cn (l.take i)+1:=by rw [take_lt hi,cnt_snoc]; simp
      rw [iltT (by simp; omega),inbT hi,toNat_nat,getD_lt hi,mgetD_mput,hm,hw,beq_self_eq_true,cond_true,iltF (by omega),wrapS i (by omega)]
      simp only [condT,chkT,condF]
      refine ih (i+1) _ (by omega) hi fun x => ?_
      rw [mgetD_mput,hm,take_lt hi,cnt_snoc]
      cases e:x == l[i].cn with
      | true=>rw [beq_iff_eq.1 e]; first | done | rfl
      | false=>rfl
    · have : i = l.length := by omega
      subst this
      rw [iltF (by simp)]
      rfl
theorem f0_eq (r : Rule) (ns : List (List UInt8)) (v : List Int) : f0 r ns v = outB true := by
  show sh0 r ns v f1=_
  unfold sh0
  cases hr:slightB r with
  | false=>rfl
  | true =>
    cases hh:shortB ns v with
    | false=>rfl
    | true =>
      show sh1 ns v r.rn r.rw r.rl r.rs f2=_
      have hn:ns.length≤90000:=by
        unfold shortB at hh
        simp only [Bool.and_eq_true] at hh
        have:=ileI hh.1
        simp at this; omega
      unfold sh1
      rw [nleT hn]
      cases h1:ruleB r with
      | false =>
        have e1:simE (⟨r.rn,r.rw,r.rl,r.rs⟩:Rule)=1:=by unfold simE; rw [show ruleB (⟨r.rn,r.rw,r.rl,r.rs⟩:Rule)=false from h1]; rfl
        have e2:simR (⟨r.rn,r.rw,r.rl,r.rs⟩:Rule)=⟨[],[],[],0⟩:=by unfold simR; rw [show ruleB (⟨r.rn,r.rw,r.rl,r.rs⟩:Rule)=false from h1]; rfl
        have e3:holdsE (⟨r.rn,r.rw,r.rl,r.rs⟩:Rule) ns v=1:=by unfold holdsE; rw [show ruleB (⟨r.rn,r.rw,r.rl,r.rs⟩:Rule)=false from h1]; rfl
        rw [e1,e2,e3]
        rfl
      | true =>
        cases hf:simF r.rw with
        | true =>
          have e1:simE (⟨r.rn,r.rw,r.rl,r.rs⟩:Rule)=12:=by unfold simE; rw [show ruleB (⟨r.rn,r.rw,r.rl,r.rs⟩:Rule)=true from h1,hf]; rfl
          have e2:simR (⟨r.rn,r.rw,r.rl,r.rs⟩:Rule)=⟨[],[],[],0⟩:=by unfold simR; rw [show ruleB (⟨r.rn,r.rw,r.rl,r.rs⟩:Rule)=true from h1,hf]; rfl
          have e3:holdsB (⟨r.rn,r.rw,r.rl,r.rs⟩:Rule) ns v=false:=holdsB_clash (r:=r) hf ns v
          rw [e1,e2,e3]
          rfl
        | false =>
          have e1:simE (⟨r.rn,r.rw,r.rl,r.rs⟩:Rule)=0:=simE_ok (r:=r) h1 hf
          have e2:simR (⟨r.rn,r.rw,r.rl,r.rs⟩:Rule)=simS r:=simR_ok (r:=r) h1 hf
          have hf2:simF (simS r).rw=false:=(simF_sim r.rw).trans hf
          have e3:simE (simS r)=0:=simE_ok (ruleB_sim h1) hf2
          have e4:simR (simS r)=simS r:=by
            rw [simR_ok (ruleB_sim h1) hf2]
            unfold simS
            rw [sim_sim]
          have e5:holdsB (⟨r.rn,r.rw,r.rl,r.rs⟩:Rule) ns v=holdsB r ns v:=rfl
          have e6:holdsE (⟨r.rn,r.rw,r.rl,r.rs⟩:Rule) ns v=holdsE r ns v:=rfl
          have hl:=sim_len r.rw
          have hl2:=(ruleB_len h1).1
          rw [e1,e2,e3,e4,e5,e6,holdsE_sim h1,holdsB_sim h1,sameR_self,nleT (show (Rule.rw (simS r)).length≤90000 by show (simC r.rw).length≤_; omega),iltF (show ¬ Int.ofNat r.rw.length < Int.ofNat (simS r).rw.length by show ¬ Int.ofNat r.rw.length < Int.ofNat (simC r.rw).length; simp; omega)]
          simp only [bne_self_eq_false,beq_self_eq_true,Bool.not_true,condF,chkT]
          show f4 100000 (simC r.rw) (Int.ofNat (simC r.rw).length) ((0:Nat):Int) []=_
          refine loop (simC r.rw) (by omega) (fun n => ?_) 100000 0 [] (by omega) (by omega) fun x => ?_
          · have := sim_two n r.rw
            unfold cntI
            simp only [Int.ofNat_eq_natCast]
            omega
          · rfl
theorem ok:CtxOk Tryd.prog X:=ctxOk tab (spC awake.spOk (spC slight.spOk (spC short.spOk (spC usimpler.spOk (spC uHolds.spOk (spC rsameR.spOk spN)))))) dpN
theorem okM:MOk Tryd.prog X:=fun g sp h=>by cases h
theorem spec (r:Rule) (ns:List (List UInt8)) (v:List Int):CallSpec Tryd.prog E 3 [(.agg [(.str r.rn),(.lst .cnd r.rw),(.str r.rl),(.int .i64 r.rs)]),(.lst .str ns),(.lst .int v)] (.bool (true)) [] :=
  runFn_sound ok okM Tryd.call3 Tryd.func3 (by kernel_rfl) (by kernel_rfl) (by kernel_rfl) (by show 3≤126; decide) (by decide) (by rfl) ((run r ns v).trans (f0_eq r ns v))
noncomputable def sp:Sp U El:=fun args k=>match args with
  | [.agg [.str r_rn,.lst .cnd r_rw,.str r_rl,.int .i64 r_rs],.lst .str ns,.lst .int v]=>k (.bool (true)) []
  | _=>none
theorem spOk:SpOk Tryd.prog E 3 sp where
  det:=fun vs=>by
    unfold sp
    split
    · exact ⟨some (_,_),fun _=>rfl⟩
    · exact ⟨none,fun _=>rfl⟩
  ok:=fun vs k r h=>by
    unfold sp at h
    split at h
    · exact ⟨_,_,spec ⟨_,_,_,_⟩ _ _,h⟩
    · cases h
end lawSimpler
end Go.Proofs.YtlkfbblapimhoaaDoor
