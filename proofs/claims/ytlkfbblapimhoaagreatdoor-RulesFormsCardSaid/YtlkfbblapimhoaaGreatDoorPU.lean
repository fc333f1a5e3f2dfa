import Derived.Test.YtlkfbblapimhoaaGreatDoorPT
import Derived.Test.YtlkfbblapimhoaaGreatDoorAW
namespace Go.Proofs.YtlkfbblapimhoaaGreatDoor
set_option linter.all false
set_option maxRecDepth 100000
namespace parseR
theorem ok:CtxOk Tryz.prog X:=ctxOk tab (spC valid.spOk spN) dpN
theorem okM:MOkG panP Tryz.prog X:=mspecOf_okG _ (mpCG (mcSp_ok ok rdNow.spOk).g (mpCG (mcpSp_ok ok rdRule.spOk) mpNG))
end parseR
noncomputable def uparE (s:List UInt8):Int:=bif tokE s == 0 then parE (tokL s) else tokE s
noncomputable def uparL (s:List UInt8):List Rule:=bif tokE s == 0 then parL (tokL s) else []
noncomputable def uparP (s:List UInt8):Pos:=bif tokE s == 0 then parP (tokL s) else tokP s
noncomputable def uparV (s:List UInt8):AV U El:=.tup [.lst .rule (uparL s),.agg [.int .i64 (uparP s).pl,.int .i64 (uparP s).pc],.int .i64 (uparE s)]
namespace parse0
noncomputable def bd:Code:=(Tryz.f11.body).getD .skip
noncomputable def o0:Array Oper:=match cdp [0] bd with | .region _ o _=>o | _=>#[]
noncomputable def o1:Array Oper:=match cdp [1,0] bd with | .region _ o _=>o | _=>#[]
noncomputable def o4:Array Oper:=match cdp [1,1,1,0] bd with | .region _ o _=>o | _=>#[]
theorem body:Tryz.f11.body=some (.seq (cdp [0] bd) (.seq (cdp [1,0] bd) (.seq (cdp [1,1,0] bd) (.seq (.region 4 o4 false) parseR.bd)))):=by kernel_rfl
noncomputable def X:Ctx U El:=⟨E,tds,zeros,eqs,specOf [(42,tokens.sp)],10,47,dspecOf [],fun _=>none,fun _=>none⟩
theorem ok:CtxOk Tryz.prog X:=ctxOk tab (spC tokens.spOk spN) dpN
theorem okM:MOk Tryz.prog X:=fun g sp h=>by cases h
noncomputable def KK (F:List Tok→Int→Int→Int→R):Kont U El:=fun st=>match tget st.t 2,tget st.t 3,tget st.t 4,tget st.t 5,hget st.h 2,hget st.h 3,hget st.h 4 with
 | .ptr i0 0,.ptr i1 0,.ptr i2 0,.lst .tok ts,some (.box _ [.nils]),some (.box _ [.int .i64 a,.int .i64 b]),some (.box _ [.int .i64 c])=>chk (Nat.beq i0 2&&(Nat.beq i1 3&&Nat.beq i2 4)) (F ts a b c)
 | _,_,_,_,_,_,_=>none
noncomputable def An:Ann U:=.seq none .d (.cond (.seq none (.region [(2,2),(3,3),(4,4)]) .d) .d)
theorem P1 (s:List UInt8) (F:List Tok→Int→Int→Int→R):exec X (cdp [0] bd) .d ⟨[(0,.str s)],[]⟩ (fun st=>exec X (cdp [1,0] bd) .d st (fun st=>exec X (cdp [1,1,0] bd) An st (KK F) (fun _ _=>none) parseR.RR) (fun _ _=>none) parseR.RR) (fun _ _=>none) parseR.RR =
  chk (nle (List.length s) 90000) (condB (tokE s != 0) (some (.tup [.lst .rule [],.agg [.int .i64 (tokP s).pl,.int .i64 (tokP s).pc],.int .i64 (tokE s)],[])) (F (tokL s) (tokP s).pl (tokP s).pc (tokE s))):=by kernel_rfl
theorem fin {B:Bd} {S:Nat→Prop} {w:World} {st':St U El} {a':Act} {w':World} {v:AV U El} (hown:∀ k,B.own k→w.heap.size≤k) (hlt:∀ b,S b→b < w.heap.size) (hs:StRel parseR.X B S w st' a' w') (hr:parseR.RR st'=some (v,[])) :
  ∃ x,(results Tryz.f11 a'.tmps).run Tryz.prog w'=.ok x w'∧∃ v' S' ρ',Ending.returned x=.returned v'∧Step S (fun _=>none) w S' ρ' w'∧HRel E S' ρ' w' (From w) []∧Rel E S' ρ' w' v v':=by
 obtain ⟨S1,ρ1,hi⟩:=hs
 obtain ⟨vals,st2,l1,l2,l3,l4,l5⟩:=loadRes_sound (n0:=47) [(2,22),(3,29),(4,25)] parseR.X st' a' parseR.ok hi (Nat.le_refl _) hr
 obtain ⟨st3,n1,n2⟩:=normK_sound l4 ⟨S1,ρ1,l5⟩ l2
 obtain ⟨S2,ρ2,hj⟩:=n1
 refine ⟨_,run_resultsC (res:=[47,48,49]) (nt:=47) (lds:=[(2,22),(3,29),(4,25)]) (by kernel_rfl) hi.size l1 l3,_,S2,ρ2,rfl,⟨hj.below.mono hown,hj.s0,fun b hb=>(hj.s1 b hb).imp id (hown b),(fun _ _ h=>by cases h),hlt⟩,HRel.nil hj.heap.lt _,?_⟩
 have hT:=hj.tmps
 unfold retM at n2
 simp only [Option.some.injEq,Prod.mk.injEq] at n2
 obtain ⟨rfl,_⟩:=n2
 refine .tup _ _ (by simp) fun i c v hc hv=>?_
 simp only [List.getElem?_map,Option.map_eq_some_iff] at hc
 obtain ⟨q,hq,rfl⟩:=hc
 simp only [List.getElem?_toArray,List.getElem?_map,hq,Option.map_some,Option.some.injEq] at hv
 subst hv
 exact hT q
theorem q0:∃ o,o4[0]? = some o∧o.op=.makeFunc (.func 43) #[] #[.tmp 2,.tmp 3,.tmp 4]∧o.guard=none∧o.dst=some 17:=⟨o4.getD 0 default,by kernel_rfl,by kernel_rfl,by kernel_rfl,by kernel_rfl⟩
theorem q1:∃ o,o4[1]? = some o∧o.op=.defer ⟨.value (.tmp 17),#[],#[]⟩∧o.guard=none∧o.dst=none:=⟨o4.getD 1 default,by kernel_rfl,by kernel_rfl,by kernel_rfl,by kernel_rfl⟩
theorem size4:o4.size=2:=by kernel_rfl
theorem conv {B:Bd} {S:Nat→Prop} {w:World} {st':St U El} {a':Act} {w':World} (hs:StRel X B S w st' a' w'):StRel parseR.X B S w st' a' w':=by
 obtain ⟨S1,ρ1,hi⟩:=hs
 exact ⟨S1,ρ1,⟨hi.defers,hi.size,hi.below,hi.hB,hi.s0,hi.s1,hi.g0,hi.tmps,hi.heap⟩⟩
theorem RRp (l c:Int):parseR.RR ⟨[(2,.ptr 1000000000 0),(3,.ptr 1000000001 0),(4,.ptr 1000000002 0)],[(1000000000,.box 1000000000 [.nils]),(1000000001,.box 1000000001 [.int .i64 l,.int .i64 c]),(1000000002,.box 1000000002 [.int .i64 7])]⟩=some (.tup [.lst .rule [],.agg [.int .i64 l,.int .i64 c],.int .i64 7],[]):=by kernel_rfl
theorem retag {S:Nat→Prop} {ρ ρ':Rho} {w:World} {B B':Bd} {l:Loc} {t t':Nat} {cs:List (AV U El)} (h:BlkRel E S ρ w B l (.box t cs)) (hc:∀ c∈cs,c.cell=true) (hB:∀ k,B.own k→B'.own k) (hp:B'.pin t'=some l):BlkRel E S ρ' w B' l (.box t' cs):=by
 obtain ⟨_,h2,h3⟩:=h
 refine ⟨.inr hp,h2,fun hn=>?_⟩
 obtain ⟨g1,g2,c,e,g3,g4,g5⟩:=h3 hn
 exact ⟨hB _ g1,g2,c,e,g3,g4,fun j a ha=>by obtain ⟨v,hv,hr⟩:=g5 j a ha; exact ⟨v,hv,hr.cellρ E_good (hc a (List.mem_of_getElem? ha))⟩⟩
theorem spec (s : List UInt8) (h : nle (List.length s) 80000 = true) (hok : tokE s = 0 → okT (tokL s) = true) : CallSpec Tryz.prog E 11 [.str s] (uparV s) [] := by
  classical
  have hl:=nleI h
  refine ⟨Tryz.call11,(fun id b h=>by cases h),fun S w vs hlt hG hr=>?_⟩
  obtain ⟨R0,hR0⟩:∃ R0:Ending→World→Prop,R0=fun e w'=>∃ v S' ρ',e=.returned v∧Step S (fun _=>none) w S' ρ' w'∧HRel E S' ρ' w' (From w) []∧Rel E S' ρ' w' (uparV s) v:=⟨_,rfl⟩
  rw [← hR0]
  obtain ⟨v0,rfl⟩:∃ v0,vs=#[v0]:=by
    have:=hr.1
    match vs,this with
    | ⟨[v0]⟩,_=>exact ⟨v0,rfl⟩
  refine calls_of_wp_defers Tryz.func11 body ?_
  have hnt:Tryz.f11.ntmps=47:=by kernel_rfl
  obtain ⟨a0,ha0⟩:∃ a0:Act,a0={ tmps:=#[v0]++Array.replicate (Tryz.f11.ntmps - #[v0].size) undef,defers:=[] }:=⟨_,rfl⟩
  have a0d:a0.defers=[]:=by rw [ha0]
  have a0s:a0.tmps.size=47:=by rw [ha0,hnt]; simp
  have a00:a0.tmps.getD 0 undef=v0:=by rw [ha0]; simp
  rw [← ha0]
  clear ha0
  have h0:StRel X (From w) S w ⟨[(0,.str s)],[]⟩ a0 w:=by
    refine ⟨S,fun _=>none,a0d,a0s,Fr.refl _ _,fun _ hk=>hk,fun _ h=>h,fun _ h=>.inl h,fun w' hb=>E_good.gst _ _ hG hb.below,fun i=>?_,HRel.nil hlt _⟩
    by_cases e:i=0
    · subst e
      rw [a00]
      exact hr.2 0 _ v0 rfl rfl
    · have : tget ([(0, .str s)] : Tmps U El) i = .any := by
        simp only [tget]
        rw [nbeq_ne (Ne.symm e)]
        rfl
      show Rel E S _ w (tget ([(0,.str s)]:Tmps U El) i) _
      rw [this]
      exact .any _
  obtain ⟨F,hF⟩:∃ F:List Tok→Int→Int→Int→R,F=fun ts a b c=>if ts=tokL s∧tokE s=0 then some (uparV s,[]) else none:=⟨_,rfl⟩
  have hv:=P1 s F
  rw [nleT (show s.length≤90000 by omega),chkT] at hv
  have hv:_=some (uparV s,[]):=hv.trans (by
    cases he:tokE s != 0 with
    | true =>
      have:(tokE s == 0)=false:=by simpa using he
      simp only [condT]
      unfold uparV uparL uparP uparE
      rw [this]
      rfl
    | false =>
      have:tokE s=0:=by simpa using he
      rw [condF,hF]
      exact if_pos ⟨rfl,this⟩)
  have retQ:∀ st' a' w',StRel X (From w) S w st' a' w'→parseR.RR st'=some (uparV s,[])→bodyPostD Tryz.prog Tryz.f11 R0 .ret a' w':=fun st' a' w' hs hk=>by
    have hd:a'.defers=[]:=by obtain ⟨S1,ρ1,hi⟩:=hs; exact hi.defers
    obtain ⟨x,hx,v',S',ρ',he,hrest⟩:=fin (fun k hk=>hk) hlt (conv hs) hk
    show Leaves _ _ _ _ a'.defers _ _
    rw [hd]
    exact ⟨x,hx,by rw [hR0]; exact ⟨v',S',ρ',he,hrest⟩⟩
  refine wp_seq (exec_sound (r:=(uparV s,[])) rfl ok okM (cdp [0] bd) _ _ _ (fun _ _=>none) parseR.RR _ w _ (fun st1 a1 w1 h1 k1=>?_) (fun i st a w _ k=>by cases k) (fun st' a' w' hs hk=>retQ st' a' w' hs hk) h0 hv)
  refine wp_seq (exec_sound (r:=(uparV s,[])) rfl ok okM (cdp [1,0] bd) _ _ _ (fun _ _=>none) parseR.RR _ w1 _ (fun st2 a2 w2 h2 k2=>?_) (fun i st a w _ k=>by cases k) (fun st' a' w' hs hk=>retQ st' a' w' hs hk) h1 k1)
  refine wp_seq (exec_sound (r:=(uparV s,[])) rfl ok okM (cdp [1,1,0] bd) _ _ _ (fun _ _=>none) parseR.RR _ w2 _ (fun st3 a3 w3 h3 k3=>?_) (fun i st a w _ k=>by cases k) (fun st' a' w' hs hk=>retQ st' a' w' hs hk) h2 k2)
  clear hv h0 h1 k1 h2 k2
  unfold KK at k3
  split at k3
  case h_2=>cases k3
  rename_i i0 i1 i2 ts t0 t1 a b t2 c g2 g3 g4 g5 e0 e1 e2
  obtain ⟨hck,k3⟩:=chk_some k3
  simp only [Bool.and_eq_true] at hck
  obtain ⟨hck0,hck1,hck2⟩:=hck
  obtain rfl:=Nat.eq_of_beq_eq_true hck0
  obtain rfl:=Nat.eq_of_beq_eq_true hck1
  obtain rfl:=Nat.eq_of_beq_eq_true hck2
  have hts:ts=tokL s∧tokE s=0:=by
    rw [hF] at k3
    simp only at k3
    split at k3
    · rename_i h; exact h
    · cases k3
  obtain ⟨rfl,hE0⟩:=hts
  obtain ⟨S3,ρ3,hi⟩:=h3
  obtain ⟨l0,m0,c0⟩:=hi.heap.get 2 _ e0
  obtain ⟨l1,m1,c1⟩:=hi.heap.get 3 _ e1
  obtain ⟨l2,m2,c2⟩:=hi.heap.get 4 _ e2
  have v2:a3.tmps.getD 2 undef = .pointer (some ⟨l0.b,0,none⟩):=by
    have:=hi.tmps 2; rw [g2] at this
    generalize a3.tmps.getD 2 undef=q at this
    cases this with
    | ptr _ _ l hl=>rw [m0] at hl; cases hl; rfl
  have v3:a3.tmps.getD 3 undef = .pointer (some ⟨l1.b,0,none⟩):=by
    have:=hi.tmps 3; rw [g3] at this
    generalize a3.tmps.getD 3 undef=q at this
    cases this with
    | ptr _ _ l hl=>rw [m1] at hl; cases hl; rfl
  have v4:a3.tmps.getD 4 undef = .pointer (some ⟨l2.b,0,none⟩):=by
    have:=hi.tmps 4; rw [g4] at this
    generalize a3.tmps.getD 4 undef=q at this
    cases this with
    | ptr _ _ l hl=>rw [m2] at hl; cases hl; rfl
  have v5:=hi.tmps 5
  rw [g5] at v5
  refine wp_seq (wp_region ?_)
  rw [size4]
  obtain ⟨p0,x0,y0,z0,d0⟩:=q0
  obtain ⟨p1,x1,y1,z1,d1⟩:=q1
  show wpOps Tryz.prog o4 _ [0,1] a3 w3
  rw [wpOps_cons]
  have r2:a3.eval (.tmp 2)=.pointer (some ⟨l0.b,0,none⟩):=v2
  have r3:a3.eval (.tmp 3)=.pointer (some ⟨l1.b,0,none⟩):=v3
  have r4:a3.eval (.tmp 4)=.pointer (some ⟨l2.b,0,none⟩):=v4
  refine clos.wpOp_val x0 z0 (v:=.func (.func 43) #[] #[.pointer (some ⟨l0.b,0,none⟩),.pointer (some ⟨l1.b,0,none⟩),.pointer (some ⟨l2.b,0,none⟩)]) (by simp [execOp,y0,Instr.makeFunc,r2,r3,r4]) ?_
  rw [d0,wpOps_cons]
  obtain ⟨a4,ha4⟩:∃ a4:Act,a4=a3.put (some 17) (.func (.func 43) #[] #[.pointer (some ⟨l0.b,0,none⟩),.pointer (some ⟨l1.b,0,none⟩),.pointer (some ⟨l2.b,0,none⟩)]):=⟨_,rfl⟩
  rw [← ha4]
  have a4s:a4.tmps.size=47:=by rw [ha4]; simp [Act.put]; exact hi.size
  have a4d:a4.defers=[]:=by rw [ha4]; exact hi.defers
  have a4v:∀ i,i≠17→a4.tmps.getD i undef=a3.tmps.getD i undef:=fun i hne=>by
    rw [ha4]
    simp only [Act.put,Array.getD_eq_getD_getElem?]
    rw [Array.getElem?_setIfInBounds_ne (Ne.symm hne)]
  have a417:a4.eval (.tmp 17) = .func (.func 43) #[] #[.pointer (some ⟨l0.b,0,none⟩),.pointer (some ⟨l1.b,0,none⟩),.pointer (some ⟨l2.b,0,none⟩)]:=by
    have:17 < a3.tmps.size:=by rw [hi.size]; decide
    rw [ha4]; simp [Act.eval,Act.put,this]
  clear ha4
  unfold wpOp
  rw [x1]
  have hw1:Region.wanted p1 (yielded o4 a4.tmps)=true:=by simp [Region.wanted,z1]
  simp only [hw1,if_true]
  refine .inl ?_
  unfold Oper.wp
  obtain ⟨D,hD⟩:∃ D:Deferred,D={ target:=.fn (.func 43) #[.pointer (some ⟨l0.b,0,none⟩),.pointer (some ⟨l1.b,0,none⟩),.pointer (some ⟨l2.b,0,none⟩)],args:=#[] }:=⟨_,rfl⟩
  have hx1:(execOp a4.eval p1).run Tryz.prog w3 = .ok (.defer D) w3:=by
    rw [hD]
    simp [execOp,y1,resolve,Deferred.ofValue,a417]
  rw [hx1,Oper.upon_defer,d1]
  show parseR.bd.wp Tryz.prog _ { a4 with defers:=D :: a4.defers } w3
  rw [a4d]
  obtain ⟨a5,ha5⟩:∃ a5:Act,a5={ a4 with defers:=[D] }:=⟨_,rfl⟩
  rw [← ha5]
  have a5s:a5.tmps.size=47:=by rw [ha5]; exact a4s
  have a5d:a5.defers=[D]:=by rw [ha5]
  have a5v:∀ i,i≠17→a5.tmps.getD i undef=a3.tmps.getD i undef:=fun i hne=>by rw [ha5]; exact a4v i hne
  clear ha5
  obtain ⟨pin,hpin⟩:∃ pin:Rho,pin=fun id=>if id=1000000000 then some l0 else if id=1000000001 then some l1 else if id=1000000002 then some l2 else none:=⟨_,rfl⟩
  have pin0:pin 1000000000=some l0:=by rw [hpin]; rfl
  have pin1:pin 1000000001=some l1:=by rw [hpin]; rfl
  have pin2:pin 1000000002=some l2:=by rw [hpin]; rfl
  obtain ⟨B,hB⟩:∃ B:Bd,B=⟨fun k=>w.heap.size≤k,pin,[D]⟩:=⟨_,rfl⟩
  have hBo:∀ k,B.own k→w.heap.size≤k:=fun k hk=>by rw [hB] at hk; exact hk
  have hBo':∀ k,w.heap.size≤k→B.own k:=fun k hk=>by rw [hB]; exact hk
  have hBp:B.pin=pin:=by rw [hB]
  have hBd:B.df=[D]:=by rw [hB]
  clear hB hpin
  have hst:StRel parseR.X B S w (parseR.fr0 (tokL s) a b c) a5 w3:=by
    refine ⟨S3,pin,a5d.trans hBd.symm,a5s,hi.below.mono hBo',fun k hk=>hBo' k (hi.hB k hk),hi.s0,fun b hb=>(hi.s1 b hb).imp id (hBo' b),fun w' h=>hi.g0 w' (h.mono hBo),fun i=>?_,⟨fun id bb hb=>?_,fun i j bi bj la lb hgi hgj hne hla hlb hn hn'=>?_,hi.heap.lt⟩⟩
    · by_cases e2 : i = 2
      · subst e2; rw [a5v 2 (by decide),v2]; exact .ptr _ _ _ pin0
      · by_cases e3 : i = 3
        · subst e3; rw [a5v 3 (by decide),v3]; exact .ptr _ _ _ pin1
        · by_cases e4 : i = 4
          · subst e4; rw [a5v 4 (by decide),v4]; exact .ptr _ _ _ pin2
          · by_cases e5 : i = 5
            · subst e5; rw [a5v 5 (by decide)]; exact v5.cellρ E_good rfl
            · have : tget (parseR.fr0 (tokL s) a b c).t i = .any := by
                simp only [parseR.fr0,tget]
                rw [nbeq_ne (Ne.symm e2),nbeq_ne (Ne.symm e3),nbeq_ne (Ne.symm e4),nbeq_ne (Ne.symm e5)]
                rfl
              rw [this]
              exact .any _
    · simp only [parseR.fr0, hget] at hb
      by_cases e0:1000000000=id
      · subst e0; rw [Nat.beq_refl] at hb; cases hb
        exact ⟨l0,pin0,retag c0 (by simp [AV.cell]) hBo' (by rw [hBp]; exact pin0)⟩
      · rw [nbeq_ne e0] at hb
        by_cases e1:1000000001=id
        · subst e1; rw [Nat.beq_refl] at hb; cases hb
          exact ⟨l1,pin1,retag c1 (by simp [AV.cell]) hBo' (by rw [hBp]; exact pin1)⟩
        · rw [nbeq_ne e1] at hb
          by_cases e2:1000000002=id
          · subst e2; rw [Nat.beq_refl] at hb; cases hb
            exact ⟨l2,pin2,retag c2 (by simp [AV.cell]) hBo' (by rw [hBp]; exact pin2)⟩
          · rw [nbeq_ne e2] at hb; cases hb
    · have there : ∀ id bb, hget (parseR.fr0 (tokL s) a b c).h id = some bb → ∃ id', id = 999999998 + id' ∧ ∃ b', hget st3.h id' = some b' ∧ pin id = ρ3 id' := fun id bb hb => by
        simp only [parseR.fr0,hget] at hb
        by_cases e0:1000000000=id
        · subst e0; exact ⟨2,rfl,_,e0,by rw [pin0,m0]⟩
        · rw [nbeq_ne e0] at hb
          by_cases e1:1000000001=id
          · subst e1; exact ⟨3,rfl,_,by assumption,by rw [pin1,m1]⟩
          · rw [nbeq_ne e1] at hb
            by_cases e2:1000000002=id
            · subst e2; exact ⟨4,rfl,_,by assumption,by rw [pin2,m2]⟩
            · rw [nbeq_ne e2] at hb; cases hb
      obtain ⟨i',rfl,bi',hi1,hi2⟩:=there i bi hgi
      obtain ⟨j',rfl,bj',hj1,hj2⟩:=there j bj hgj
      rw [hi2] at hla
      rw [hj2] at hlb
      exact hi.heap.inj i' j' bi' bj' la lb hi1 hj1 (fun e=>hne (by rw [e])) hla hlb hn hn'
  have hval:uparV s = .tup [.lst .rule (parL (tokL s)),.agg [.int .i64 (parP (tokL s)).pl,.int .i64 (parP (tokL s)).pc],.int .i64 (parE (tokL s))]:=by
    unfold uparV uparL uparP uparE
    rw [hE0]
    rfl
  have hrun:=(parseR.run (tokL s) a b c).trans (parseR.f0_eq (tokL s) a b c (hok hE0))
  rw [← hval] at hrun
  have endQ:∀ st' a' w',StRel parseR.X B S w st' a' w'→parseR.RR st'=some (uparV s,[])→Leaves Tryz.prog Tryz.f11 a'.tmps R0 a'.defers .returning w':=fun st' a' w' hs hk=>by
    obtain ⟨x,hx,v',S',ρ',he,hrest⟩:=fin hBo hlt hs hk
    have hd:a'.defers=[D]:=by obtain ⟨S1,ρ1,hi⟩:=hs; rw [hi.defers,hBd]
    rw [hd,hD]
    refine leaves_cons (by simp) (f:=43) (args:=#[.pointer (some ⟨l0.b,0,none⟩),.pointer (some ⟨l1.b,0,none⟩),.pointer (some ⟨l2.b,0,none⟩)]) (by simp [invoke,quietP.1]) ((quietP.2 _ w' rfl).mono ?_)
    rintro e u' w2 ⟨⟨v2,rfl⟩,rfl,rfl⟩
    exact ⟨x,hx,by rw [hR0]; exact ⟨v',S',ρ',he,hrest⟩⟩
  refine exec_soundG (pan:=panP) (r:=(uparV s,[])) parseR.ok parseR.okM parseR.bd (NoFr.ok rfl _) _ _ parseR.RR (fun _ _=>none) parseR.RR a5 w3 _ (fun T l cc st' a' w' hs hp=>?_) (fun st' a' w' hs hk=>endQ st' a' w' hs hk) (fun i st a w _ k=>by cases k) (fun st' a' w' hs hk=>endQ st' a' w' hs hk) hst hrun
  show Leaves Tryz.prog Tryz.f11 a'.tmps R0 a'.defers (.panicking (pEntry T l cc)) w'
  obtain ⟨S4,ρ4,hj⟩:=hs
  unfold panP at hp
  split at hp
  case h_2=>cases hp
  rename_i j0 j1 j2 t0 xx t1 yy zz t2 uu f0 f1 f2 k0 k1 k2
  obtain ⟨hck,hp2⟩:=chk_some hp
  simp only [Bool.and_eq_true] at hck
  obtain ⟨hT,h0,h1,h2,h3,h4,h5⟩:=hck
  obtain rfl:=Nat.eq_of_beq_eq_true hT
  obtain rfl:=Nat.eq_of_beq_eq_true h0
  obtain rfl:=Nat.eq_of_beq_eq_true h1
  obtain rfl:=Nat.eq_of_beq_eq_true h2
  obtain rfl:=Nat.eq_of_beq_eq_true h3
  obtain rfl:=Nat.eq_of_beq_eq_true h4
  obtain rfl:=Nat.eq_of_beq_eq_true h5
  have at_:∀ id cs,id≠0→hget st'.h id=some (.box id cs)→∀ l',pin id=some l'→ρ4 id=some l':=fun id cs hne hg' l' hp=>by
    obtain ⟨l3,k1,k2,_⟩:=hj.heap.get id _ hg'
    rcases k2 with k2 | k2
    · exact absurd k2 hne
    · rw [hBp,hp] at k2; cases k2; exact k1
  have n0:=at_ _ _ (by decide) k0 l0 pin0
  have n1:=at_ _ _ (by decide) k1 l1 pin1
  have n2:=at_ _ _ (by decide) k2 l2 pin2
  have hd:a'.defers=[D]:=by rw [hj.defers,hBd]
  rw [hd,hD]
  refine leaves_cons (by simp) (f:=43) (args:=#[.pointer (some ⟨l0.b,0,none⟩),.pointer (some ⟨l1.b,0,none⟩),.pointer (some ⟨l2.b,0,none⟩)]) (by simp [invoke,quietP.1]) ((clos.spec (B:=B) (S0:=S) (w0:=w) (l:=l) (c:=cc) hj.below hj.hB hj.s0 hj.s1 hj.g0 hj.heap k0 k1 k2 n0 n1 n2 (by rw [hBp]; exact pin0) (by rw [hBp]; exact pin1) (by rw [hBp]; exact pin2)).mono ?_)
  rintro e u' w2 ⟨⟨v2',rfl⟩,rfl,S5,ρ5,b1,b2,b3,b4,b5,b6,b7,b8⟩
  have rel:∀ i id l',tget st'.t i = .ptr id 0→ρ4 id=some l'→ρ5 id=some l'→Rel E S5 ρ5 w2 (.ptr id 0) (a'.tmps.getD i undef):=fun i id l' ht h4 h5=>by
    have:=hj.tmps i
    rw [ht] at this
    generalize a'.tmps.getD i undef=q at this
    cases this with
    | ptr _ _ l hl=>rw [h4] at hl; cases hl; exact .ptr _ _ _ h5
  have hs5:StRel parseR.X B S w ⟨[(2,.ptr 1000000000 0),(3,.ptr 1000000001 0),(4,.ptr 1000000002 0)],[(1000000000,.box 1000000000 [.nils]),(1000000001,.box 1000000001 [.int .i64 l,.int .i64 cc]),(1000000002,.box 1000000002 [.int .i64 7])]⟩ a' w2:=by
    refine ⟨S5,ρ5,hj.defers,hj.size,b1,b2,b3,b4,hj.g0,fun i=>?_,b5⟩
    by_cases e2:i=2
    · subst e2; exact rel 2 _ _ f0 n0 b6
    · by_cases e3 : i = 3
      · subst e3; exact rel 3 _ _ f1 n1 b7
      · by_cases e4 : i = 4
        · subst e4; exact rel 4 _ _ f2 n2 b8
        · have : tget ([(2, .ptr 1000000000 0), (3, .ptr 1000000001 0), (4, .ptr 1000000002 0)] : Tmps U El) i = .any := by
            simp only [tget]
            rw [nbeq_ne (Ne.symm e2),nbeq_ne (Ne.symm e3),nbeq_ne (Ne.symm e4)]
            rfl
          show Rel E S5 ρ5 w2 (tget ([(2,.ptr 1000000000 0),(3,.ptr 1000000001 0),(4,.ptr 1000000002 0)]:Tmps U El) i) _
          rw [this]
          exact .any _
  obtain ⟨x,hx,v',S',ρ',he,hrest⟩:=fin hBo hlt hs5 ((RRp l cc).trans hp2)
  show Leaves Tryz.prog Tryz.f11 a'.tmps R0 [] .returning w2
  exact ⟨x,hx,by rw [hR0]; exact ⟨v',S',ρ',he,hrest⟩⟩
end parse0
end Go.Proofs.YtlkfbblapimhoaaGreatDoor
