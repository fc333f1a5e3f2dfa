import Derived.Test.YtlkfbblapimhoaaGreatDoorPS
import Derived.Recover
namespace Go.Proofs.YtlkfbblapimhoaaGreatDoor
set_option linter.all false
set_option maxRecDepth 100000
theorem HRel.sub {S:Nat→Prop} {ρ:Rho} {w:World} {B:Bd} {H H':Heap U El} (h:HRel E S ρ w B H) (hs:∀ id b,hget H' id=some b→hget H id=some b):HRel E S ρ w B H' :=
 ⟨fun id b hb=>h.get id b (hs id b hb),fun i j b b' l l' hi hj=>h.inj i j b b' l l' (hs i b hi) (hs j b' hj),h.lt⟩
theorem hget3 {H:Heap U El} {i j k:Nat} {b0 b1 b2:Blk U El} (e0:hget H i=some b0) (e1:hget H j=some b1) (e2:hget H k=some b2):∀ id b,hget [(i,b0),(j,b1),(k,b2)] id=some b→hget H id=some b:=by
 intro id b h
 simp only [hget] at h
 by_cases h0:i=id
 ·subst h0; rw [Nat.beq_refl] at h; cases h; exact e0
 ·rw [nbeq_ne h0] at h
  by_cases h1:j=id
  ·subst h1; rw [Nat.beq_refl] at h; cases h; exact e1
  ·rw [nbeq_ne h1] at h
   by_cases h2:k=id
   ·subst h2; rw [Nat.beq_refl] at h; cases h; exact e2
   ·rw [nbeq_ne h2] at h; cases h
namespace clos
noncomputable def bd:Code:=(Tryz.f43.body).getD .skip
noncomputable def ops (p:List Nat):Array Oper:=match cdp p bd with | .region _ o _=>o | _=>#[]
noncomputable def rest:Code:=cdp [1,1,0,1] bd
theorem body:Tryz.f43.body=some (.seq (.region 0 (ops [0]) false) (.seq (.region 1 (ops [1,0]) false) (.cond (.tmp 8) (.seq (.region 2 (ops [1,1,0,0]) false) rest) .skip))):=by kernel_rfl
noncomputable def X:Ctx U El:=⟨E,tds,zeros,eqs,specOf [],10,18,dspecOf [],fun _=>none,fun _=>none⟩
theorem ok:CtxOk Tryz.prog X:=ctxOk tab spN dpN
theorem okM:MOk Tryz.prog X:=fun g sp h=>by cases h
noncomputable def st0 (l c:Int):St U El:=⟨[(0,.ptr 1000000000 0),(1,.ptr 1000000001 0),(2,.ptr 1000000002 0),(9,.tup [.agg [.int .i64 l,.int .i64 c],.bool true])],[(1000000000,.box 1000000000 [.any]),(1000000001,.box 1000000001 [.any,.any]),(1000000002,.box 1000000002 [.any])]⟩
noncomputable def K (F:Int→Int→Int→R):Kont U El:=fun st=>match hget st.h 1000000000,hget st.h 1000000001,hget st.h 1000000002 with
 | some (.box t0 [.nils]),some (.box t1 [.int .i64 x,.int .i64 y]),some (.box t2 [.int .i64 e])=>chk (Nat.beq t0 1000000000&&(Nat.beq t1 1000000001&&Nat.beq t2 1000000002)) (F x y e)
 | _,_,_=>none
theorem P0 (l c:Int) (F:Int→Int→Int→R):runOps X ((ops [1,1,0,0]).toList.map (·.dst)) ((ops [1,1,0,0]).toList.drop 3) (st0 l c) (fun st=>exec X rest (.seq none .d (.region [(1,1000000000),(2,1000000001),(3,1000000002)])) st (K F) (fun _ _=>none) (K F))=F l c 7:=by kernel_rfl
theorem chkO:((ops [1,1,0,0]).toList.drop 3).all (fun o=>match o.dst with | some d=>Nat.blt d 18 | none=>true)=true:=by kernel_rfl
theorem run_ta (x:Value) (w:World):(Instr.typeAssert (.iface 95 x) 20 95 true).run Tryz.prog w=.ok (.tuple #[x,.bool true]) w:=by
 obtain ⟨fs,h⟩:=rdFail0.und
 simp [Instr.typeAssert,run_underlying h]
theorem wpOp_val {P:Program} {ops:Array Oper} {Q:Exit→Act→World→Prop} {i:Nat} {K:Act→World→Prop} {a:Act} {w:World} {o:Oper} {v:Value} (ho:ops[i]? = some o) (hg:o.guard=none) (hr:(execOp a.eval o).run P w=.ok (.value v) w) (hk:K (a.put o.dst v) w):wpOp P ops Q i K a w:=by
 unfold wpOp
 rw [ho]
 have hw:Region.wanted o (yielded ops a.tmps)=true:=by simp [Region.wanted,hg]
 simp only [hw,if_true]
 refine .inl ?_
 unfold Oper.wp
 rw [hr]
 exact hk
theorem op0:∃ o,(ops [1,1,0,0])[0]? = some o∧o.op=.move (.tmp 3)∧o.guard=none∧o.dst=some 10:=⟨(ops [1,1,0,0]).getD 0 default,by kernel_rfl,by kernel_rfl,by kernel_rfl,by kernel_rfl⟩
theorem op1:∃ o,(ops [1,1,0,0])[1]? = some o∧o.op=.typeAssert (.tmp 10) 20 95 true∧o.guard=none∧o.dst=some 11:=⟨(ops [1,1,0,0]).getD 1 default,by kernel_rfl,by kernel_rfl,by kernel_rfl,by kernel_rfl⟩
theorem op2:∃ o,(ops [1,1,0,0])[2]? = some o∧o.op=.move (.tmp 11)∧o.guard=none∧o.dst=some 9:=⟨(ops [1,1,0,0]).getD 2 default,by kernel_rfl,by kernel_rfl,by kernel_rfl,by kernel_rfl⟩
theorem size2:((ops [1,1,0,0]).toList.drop 3).length=5:=by kernel_rfl
theorem box1 {S:Nat→Prop} {ρ:Rho} {w:World} {B:Bd} {H:Heap U El} (hh:HRel E S ρ w B H) {id:Nat} {cs:List (AV U El)} {l:Loc} (hg:hget H id=some (.box id cs)) (hl:ρ id=some l):BlkRel E S ρ w B l (.box id (cs.map fun _=>.any)):=by
 obtain ⟨l',h1,h2,h3,h4⟩:=hh.get id _ hg
 rw [hl] at h1; cases h1
 refine ⟨h2,by simpa using h3,fun hn=>?_⟩
 obtain ⟨g1,g2,c,e,g3,g4,g5⟩:=h4 hn
 refine ⟨g1,g2,c,e,g3,g4,fun j a ha=>?_⟩
 rw [List.getElem?_map,Option.map_eq_some_iff] at ha
 obtain ⟨a0,ha0,rfl⟩:=ha
 obtain ⟨v,hv,_⟩:=g5 j a0 ha0
 exact ⟨v,hv,.any _⟩
def ClosR (B:Bd) (S0:Nat→Prop) (w0:World) (l c:Int) (l0 l1 l2:Loc):Ending→FrameMode→World→Prop:=fun e u' w' =>
   (∃ v,e = .returned v)∧u' = .panicking [{ v := .iface 95 (.agg #[.int .i64 l,.int .i64 c]),recovered:=true }]∧∃ S' ρ',Fr B w0 w'∧(∀ k,w'.heap.size≤k→B.own k)∧(∀ b,S0 b→S' b)∧(∀ b,S' b→S0 b∨B.own b) ∧
    HRel E S' ρ' w' B [(1000000000,.box 1000000000 [.nils]),(1000000001,.box 1000000001 [.int .i64 l,.int .i64 c]),(1000000002,.box 1000000002 [.int .i64 7])]∧ρ' 1000000000=some l0∧ρ' 1000000001=some l1∧ρ' 1000000002=some l2
theorem spec {B : Bd} {S0 : Nat → Prop} {w0 : World} {S : Nat → Prop} {ρ : Rho} {H : Heap U El} {w : World} {l c : Int} {l0 l1 l2 : Loc} {x0 y0 y1 z0 : AV U El}
    (hfr:Fr B w0 w) (hB:∀ k,w.heap.size≤k→B.own k) (hs0:∀ b,S0 b→S b) (hs1:∀ b,S b→S0 b∨B.own b) (hg:∀ w',Fr B w0 w'→E.G w') (hh:HRel E S ρ w B H)
    (b0:hget H 1000000000=some (.box 1000000000 [x0])) (b1:hget H 1000000001=some (.box 1000000001 [y0,y1])) (b2:hget H 1000000002=some (.box 1000000002 [z0]))
    (h0:ρ 1000000000=some l0) (h1:ρ 1000000001=some l1) (h2:ρ 1000000002=some l2) (p0:B.pin 1000000000=some l0) (p1:B.pin 1000000001=some l1) (p2:B.pin 1000000002=some l2) :
    CallsD Tryz.prog 43 #[.pointer (some ⟨l0.b,0,none⟩),.pointer (some ⟨l1.b,0,none⟩),.pointer (some ⟨l2.b,0,none⟩)] (.panicking (pEntry 95 l c)) w (ClosR B S0 w0 l c l0 l1 l2):=by
  have hne:∀ W x,(binOp .neq 20 (.iface 95 x) .nilIface).run Tryz.prog W=.ok (.bool true) W:=fun W x=>by kernel_rfl
  refine callsD_of_wpS Tryz.func43 rfl fun c₀ cs hu=>?_
  apply wpS_seq
  apply wpS_region
  simp [wpOpsS,go_sem,recoverD,hu,Tryz.ntmps43,Exit.thenS]
  apply wpS_seq
  apply wpS_region
  simp [wpOpsS,go_sem,hne,Exit.thenS]
  refine wpS_cond (t:=true) (by simp [Act.eval,Array.replicate]) ?_
  simp only [if_true]
  refine wpS_of_wp ?_
  generalize hA:(Act.mk _ _:Act)=A
  have t0:A.tmps.getD 0 undef=.pointer (some ⟨l0.b,0,none⟩):=by subst hA; simp [Array.replicate]
  have t1:A.tmps.getD 1 undef=.pointer (some ⟨l1.b,0,none⟩):=by subst hA; simp [Array.replicate]
  have t2:A.tmps.getD 2 undef=.pointer (some ⟨l2.b,0,none⟩):=by subst hA; simp [Array.replicate]
  have t3:A.tmps.getD 3 undef=.iface 95 (.agg #[.int .i64 l,.int .i64 c]):=by subst hA; simp [Array.replicate]
  have tsz:A.tmps.size=18:=by subst hA; simp
  have tdf:A.defers=[]:=by subst hA; rfl
  clear hA
  show (Code.seq (.region 2 (ops [1,1,0,0]) false) rest).wp Tryz.prog (fun e a' w'=>bodyPostS Tryz.prog Tryz.f43 c₀ cs (ClosR B S0 w0 l c l0 l1 l2) e a' ({ c₀ with mode:=.panicking [{ v:=.iface 95 (.agg #[.int .i64 l,.int .i64 c]),recovered:=true }] } :: cs) w') A w
  obtain ⟨Q,hQ⟩:∃ Q:Exit→Act→World→Prop,Q=fun e a' w'=>bodyPostS Tryz.prog Tryz.f43 c₀ cs (ClosR B S0 w0 l c l0 l1 l2) e a' ({ c₀ with mode:=.panicking [{ v:=.iface 95 (.agg #[.int .i64 l,.int .i64 c]),recovered:=true }] } :: cs) w':=⟨_,rfl⟩
  rw [← hQ]
  obtain ⟨F,hF⟩:∃ F:Int→Int→Int→R,F=fun x y e=>bif x == l&&(y == c&&e == 7) then some (.nilp,[]) else none:=⟨_,rfl⟩
  have hFT:F l c 7=some (.nilp,[]):=by rw [hF]; simp
  obtain ⟨Bc,hBc⟩:∃ Bc:Bd,Bc=⟨B.own,B.pin,[]⟩:=⟨_,rfl⟩
  have fin:∀ st' a' w',StRel X Bc S0 w0 st' a' w'→K F st'=some (.nilp,[])→a'.defers=[]∧∃ S' ρ',Fr B w0 w'∧(∀ k,w'.heap.size≤k→B.own k)∧(∀ b,S0 b→S' b)∧(∀ b,S' b→S0 b∨B.own b) ∧
        HRel E S' ρ' w' B [(1000000000,.box 1000000000 [.nils]),(1000000001,.box 1000000001 [.int .i64 l,.int .i64 c]),(1000000002,.box 1000000002 [.int .i64 7])]∧ρ' 1000000000=some l0∧ρ' 1000000001=some l1∧ρ' 1000000002=some l2:=by
    rintro st' a' w' ⟨S',ρ',hi⟩ hk
    unfold K at hk
    split at hk
    · rename_i q0 q1 x y q2 e e0 e1 e2
      obtain ⟨hc1,hk2⟩:=chk_some hk
      simp only [Bool.and_eq_true] at hc1
      obtain ⟨hc1,hc2,hc3⟩:=hc1
      obtain rfl:=Nat.eq_of_beq_eq_true hc1
      obtain rfl:=Nat.eq_of_beq_eq_true hc2
      obtain rfl:=Nat.eq_of_beq_eq_true hc3
      rw [hF] at hk2
      simp only at hk2
      cases hq:(x == l&&(y == c&&e == 7)) with
      | false=>rw [hq] at hk2; cases hk2
      | true =>
        simp only [Bool.and_eq_true,beq_iff_eq] at hq
        obtain ⟨rfl,rfl,rfl⟩:=hq
        have hpin:Bc.pin=B.pin:=by rw [hBc]
        have at_:∀ id cs,id≠0→hget st'.h id=some (.box id cs)→∀ l',B.pin id=some l'→ρ' id=some l':=fun id cs hne hg' l' hp=>by
          obtain ⟨l3,k1,k2,_⟩:=hi.heap.get id _ hg'
          rcases k2 with k2 | k2
          · exact absurd k2 hne
          · rw [hpin,hp] at k2; cases k2; exact k1
        have k0:=at_ _ _ (by decide) e0 l0 p0
        have k1:=at_ _ _ (by decide) e1 l1 p1
        have k2:=at_ _ _ (by decide) e2 l2 p2
        have hB':HRel E S' ρ' w' B st'.h:=by
          have:=hi.heap
          rw [hBc] at this
          exact this.df'
        refine ⟨by rw [hi.defers,hBc],S',ρ',?_,?_,hi.s0,?_,hB'.sub (hget3 e0 e1 e2),k0,k1,k2⟩
        · have:=hi.below; rw [hBc] at this; exact this.mono fun _ h=>h
        · have:=hi.hB; rw [hBc] at this; exact this
        · have:=hi.s1; rw [hBc] at this; exact this
    · cases hk
  have hres:∀ tmps w',(results Tryz.f43 tmps).run Tryz.prog w'=.ok (.tuple #[]) w':=fun tmps w'=>by simp [results,Tryz.results43]
  have post:∀ st' a' w',StRel X Bc S0 w0 st' a' w'→K F st'=some (.nilp,[])→bodyPostS Tryz.prog Tryz.f43 c₀ cs (ClosR B S0 w0 l c l0 l1 l2) .normal a' ({ c₀ with mode := .panicking [{ v := .iface 95 (.agg #[.int .i64 l,.int .i64 c]),recovered:=true }] } :: cs) w'∧bodyPostS Tryz.prog Tryz.f43 c₀ cs (ClosR B S0 w0 l c l0 l1 l2) .ret a' ({ c₀ with mode := .panicking [{ v := .iface 95 (.agg #[.int .i64 l,.int .i64 c]),recovered:=true }] } :: cs) w':=fun st' a' w' h1 h2=>by
    obtain ⟨g1,g2⟩:=fin st' a' w' h1 h2
    exact ⟨⟨g1,_,rfl,_,hres _ _,⟨_,rfl⟩,rfl,g2⟩,⟨g1,_,rfl,_,hres _ _,⟨_,rfl⟩,rfl,g2⟩⟩
  refine wp_seq (wp_region ?_)
  have hsz:(ops [1,1,0,0]).size=8:=by kernel_rfl
  rw [hsz]
  obtain ⟨o0,e0,q0,g0,d0⟩:=op0
  obtain ⟨o1,e1,q1,g1,d1⟩:=op1
  obtain ⟨o2,e2,q2,g2,d2⟩:=op2
  show wpOps Tryz.prog (ops [1,1,0,0]) _ (0 :: 1 :: 2 :: List.range' 3 5) A w
  rw [wpOps_cons]
  have r0:A.eval (.tmp 3)=.iface 95 (.agg #[.int .i64 l,.int .i64 c]):=t3
  refine wpOp_val e0 g0 (v:=.iface 95 (.agg #[.int .i64 l,.int .i64 c])) (by simp [execOp,q0,r0]) ?_
  rw [d0,wpOps_cons]
  obtain ⟨A1,hA1⟩:∃ A1,A1=A.put (some 10) (.iface 95 (.agg #[.int .i64 l,.int .i64 c])):=⟨_,rfl⟩
  rw [← hA1]
  have r1:A1.eval (.tmp 10)=.iface 95 (.agg #[.int .i64 l,.int .i64 c]):=by rw [hA1]; simp [Act.eval,Act.put,tsz]
  refine wpOp_val e1 g1 (v:=.tuple #[.agg #[.int .i64 l,.int .i64 c],.bool true]) (by simp [execOp,q1,r1,run_ta]) ?_
  rw [d1,wpOps_cons]
  obtain ⟨A2,hA2⟩:∃ A2,A2=A1.put (some 11) (.tuple #[.agg #[.int .i64 l,.int .i64 c],.bool true]):=⟨_,rfl⟩
  rw [← hA2]
  have r2:A2.eval (.tmp 11)=.tuple #[.agg #[.int .i64 l,.int .i64 c],.bool true]:=by rw [hA2,hA1]; simp [Act.eval,Act.put,tsz]
  refine wpOp_val e2 g2 (v:=.tuple #[.agg #[.int .i64 l,.int .i64 c],.bool true]) (by simp [execOp,q2,r2]) ?_
  rw [d2]
  obtain ⟨A3,hA3⟩:∃ A3,A3=A2.put (some 9) (.tuple #[.agg #[.int .i64 l,.int .i64 c],.bool true]):=⟨_,rfl⟩
  rw [← hA3]
  have hst:StRel X Bc S0 w0 (st0 l c) A3 w:=by
    refine ⟨S,ρ,?_,?_,?_,?_,hs0,?_,?_,fun i=>?_,?_⟩
    · rw [hBc,hA3,hA2,hA1]; exact tdf
    · rw [hA3,hA2,hA1]; simp [Act.put,tsz]; rfl
    · rw [hBc]; exact hfr.mono fun _ h=>h
    · rw [hBc]; exact hB
    · rw [hBc]; exact hs1
    · intro w' h; rw [hBc] at h; exact hg w' (h.mono fun _ h=>h)
    · have old : ∀ i, i ≠ 9 → i ≠ 10 → i ≠ 11 → A3.tmps.getD i undef = A.tmps.getD i undef := fun i h9 h10 h11 => by
        rw [hA3,hA2,hA1]
        simp only [Act.put,Array.getD_eq_getD_getElem?]
        rw [Array.getElem?_setIfInBounds_ne (Ne.symm h9),Array.getElem?_setIfInBounds_ne (Ne.symm h11),Array.getElem?_setIfInBounds_ne (Ne.symm h10)]
      by_cases i0:i=0
      · subst i0
        rw [old 0 (by decide) (by decide) (by decide),t0]
        exact .ptr _ _ _ h0
      · by_cases i1 : i = 1
        · subst i1
          rw [old 1 (by decide) (by decide) (by decide),t1]
          exact .ptr _ _ _ h1
        · by_cases i2 : i = 2
          · subst i2
            rw [old 2 (by decide) (by decide) (by decide),t2]
            exact .ptr _ _ _ h2
          · by_cases i9 : i = 9
            · subst i9
              have:A3.tmps.getD 9 undef=.tuple #[.agg #[.int .i64 l,.int .i64 c],.bool true]:=by rw [hA3,hA2,hA1]; simp [Act.put,tsz]
              rw [this]
              refine .tup _ _ rfl fun j a v ha hv=>?_
              match j,ha,hv with
              | 0, ha, hv =>
                cases ha; cases hv
                refine .agg _ _ rfl fun j a v ha hv=>?_
                match j,ha,hv with
                | 0,ha,hv=>cases ha; cases hv; exact .int _ _
                | 1,ha,hv=>cases ha; cases hv; exact .int _ _
              | 1,ha,hv=>cases ha; cases hv; exact .bool _
            · have : tget (st0 l c).t i = .any := by
                simp only [st0,tget]
                rw [nbeq_ne (Ne.symm i0),nbeq_ne (Ne.symm i1),nbeq_ne (Ne.symm i2),nbeq_ne (Ne.symm i9)]
                rfl
              rw [this]
              exact .any _
    · have c0 := box1 hh b0 h0
      have c1:=box1 hh b1 h1
      have c2:=box1 hh b2 h2
      rw [hBc]
      refine HRel.df (B:=B) ⟨fun id b hb=>?_,fun i j b b' la lb hi hj hne' ha hb hn hn'=>?_,hh.lt⟩ []
      · simp only [st0, hget] at hb
        by_cases i0:1000000000=id
        · subst i0; rw [Nat.beq_refl] at hb; cases hb; exact ⟨l0,h0,c0⟩
        · rw [nbeq_ne i0] at hb
          by_cases i1:1000000001=id
          · subst i1; rw [Nat.beq_refl] at hb; cases hb; exact ⟨l1,h1,c1⟩
          · rw [nbeq_ne i1] at hb
            by_cases i2:1000000002=id
            · subst i2; rw [Nat.beq_refl] at hb; cases hb; exact ⟨l2,h2,c2⟩
            · rw [nbeq_ne i2] at hb; cases hb
      · have there : ∀ id b, hget (st0 l c).h id = some b → ∃ b', hget H id = some b' := fun id b hb => by
          simp only [st0,hget] at hb
          by_cases i0:1000000000=id
          · subst i0; exact ⟨_,b0⟩
          · rw [nbeq_ne i0] at hb
            by_cases i1:1000000001=id
            · subst i1; exact ⟨_,b1⟩
            · rw [nbeq_ne i1] at hb
              by_cases i2:1000000002=id
              · subst i2; exact ⟨_,b2⟩
              · rw [nbeq_ne i2] at hb; cases hb
        obtain ⟨d,hd⟩:=there i b hi
        obtain ⟨d',hd'⟩:=there j b' hj
        exact hh.inj i j d d' la lb hd hd' hne' ha hb hn hn'
  have key:=runOps_soundG (pan:=noPan) (P:=Tryz.prog) (X:=X) (B:=Bc) (S0:=S0) (w0:=w0) (r:=(.nilp,[])) (ops:=ops [1,1,0,0]) (Q:=Exit.then (rest.wp Tryz.prog Q) Q) ok okM.g .no
    (fun st' a' w' h1 h2=>exec_sound (B:=Bc) (S0:=S0) (w0:=w0) (r:=(.nilp,[])) rfl ok okM rest _ st' (K F) (fun _ _=>none) (K F) a' w' Q (fun st2 a2 w2 k1 k2=>by rw [hQ]; exact (post st2 a2 w2 k1 k2).1) (fun i st2 a2 w2 _ k2=>by cases k2) (fun st2 a2 w2 k1 k2=>by rw [hQ]; exact (post st2 a2 w2 k1 k2).2) h1 h2)
    ((ops [1,1,0,0]).toList.drop 3) 3 (st0 l c) A3 w rfl hst (fun o ho e he=>by
      have:=List.all_eq_true.1 chkO o ho
      rw [he] at this
      exact Nat.le_of_ble_eq_true this) ((P0 l c F).trans hFT)
  rw [size2] at key
  exact key
end clos
end Go.Proofs.YtlkfbblapimhoaaGreatDoor
