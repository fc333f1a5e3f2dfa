import Derived.Test.YtlkfbblapimhoaaGreatDoorLU
namespace Go.Proofs.YtlkfbblapimhoaaGreatDoor
set_option linter.all false
open Go.RowKit
section
variable {U:Type} {El:U→Type} {P:Program} {X:Ctx U El} {S S0 S':Nat→Prop} {ρ ρ':Rho} {w w0 w':World} [DecidableEq U] [Drw]
variable {a:Act} {st:St U El} {B:Bd} {d:Nat} {r:Fin U El}
def panId:Nat:=3000000000
def panH (T:TypeId):Heap U El:=[(panId+T,.box 0 [])]
def panOf:Heap U El→Option Nat
 | [(i,_)]=>bif Nat.ble panId i then some (i - panId) else none
 | _=>none
theorem panOf_H (T:TypeId):panOf (panH T:Heap U El)=some T:=by
 have h:∀ p:Nat,(bif Nat.ble p (p+T) then some (p+T - p) else none)=some T:=fun p=>by
  rw [Nat.ble_eq_true_of_le (Nat.le_add_right p T),Nat.add_sub_cancel_left]
  rfl
 exact h panId
def panR:Pan U El:=fun T l c _=>some (.agg [.int .i64 l,.int .i64 c],panH T)
def retP (res:List Nat) (st:St U El):Option (Fin U El):=chk (panOf st.h).isNone (retM res st)
def PMCall (P:Program) (E:Univ U El) (f:FuncId) (args:List (AV U El)) (hs:Heap U El) (v:AV U El) (h:Heap U El):Prop :=
 ∀ (B:Bd) (S:Nat → Prop) (ρ:Rho) (w:World) (vs:Array Value),(∀ k,w.heap.size ≤ k → B.own k) → (∀ w',Fr B w w' → E.G w') → HRel E S ρ w B hs → RelL E S ρ w args vs →
  Calls P f vs w fun e w'=>(panOf h=none∧∃ v' S' ρ',e=.returned v'∧Fr B w w'∧(∀ b,S b→S' b)∧(∀ b,S' b→S b∨B.own b)∧HRel E S' ρ' w' B h∧Rel E S' ρ' w' v v')∨(∃ T l c,h=panH T∧v=.agg [.int .i64 l,.int .i64 c]∧e=.panicked (pEntry T l c)∧Fr B w w')
def PSpOk (P:Program) (E:Univ U El) (f:FuncId) (sp:MSp U El):Prop :=
 (∀ as w,(callFunc f as).run P w=.ok (.enter f as) w)∧∀ args hs k r,sp args hs k=some r→∃ v hc,PMCall P E f args hs v hc∧k v hc=some r
theorem PMCall.m {E:Univ U El} {f:FuncId} {args:List (AV U El)} {hs h:Heap U El} {v:AV U El} (hp:PMCall P E f args hs v h) (hn:panOf h=none):MCall P E f args hs v h:=fun B S ρ w vs hB hG hH hr =>
 (hp B S ρ w vs hB hG hH hr).mono fun e w' h'=>by
  rcases h' with ⟨_,h'⟩ | ⟨T,l,c,rfl,_⟩
  ·exact h'
  ·rw [panOf_H] at hn; cases hn
theorem MCall.p {E:Univ U El} {f:FuncId} {args:List (AV U El)} {hs h:Heap U El} {v:AV U El} (hm:MCall P E f args hs v h) (hn:panOf h=none):PMCall P E f args hs v h:=fun B S ρ w vs hB hG hH hr =>
 (hm B S ρ w vs hB hG hH hr).mono fun e w' h'=>.inl ⟨hn,h'⟩
noncomputable def runPC (X:Ctx U El) (body:Code) (n:Ann U) (nm:Norm U) (lds:List (Nat×TypeId)) (res:List Nat) (hs:Heap U El) (args:List (AV U El)):Option (Fin U El) :=
 exec X body n ⟨args0 args 0,hs⟩ (fun st=>loadRes X X.nt lds X.nt st fun st=>normK nm st (retP res)) (fun _ _=>none) (fun st=>loadRes X X.nt lds X.nt st fun st=>normK nm st (retP res))
noncomputable def runP (X:Ctx U El) (body:Code) (n:Ann U) (nm:Norm U) (res:List Nat) (hs:Heap U El) (args:List (AV U El)):Option (Fin U El) :=
 exec X body n ⟨args0 args 0,hs⟩ (fun st=>normK nm st (retP res)) (fun _ _=>none) (fun st=>normK nm st (retP res))
theorem runPC_sound {f:FuncId} {fn:Func} {body:Code} {n:Ann U} {nm:Norm U} {lds:List (Nat×TypeId)} {res:List Nat} {args:List (AV U El)} {hs h:Heap U El} {v:AV U El} (hX:CtxOk P X) (hM:MOkG panR P X)
    (hf:P.funcs[f]? = some fn) (hb:fn.body=some body) (hnt:fn.ntmps=X.nt) (hres:fn.results=(res.map (rvOf X.nt lds)).toArray) (hargs:args.length≤X.nt)
    (hv:runPC X body n nm lds res hs args=some (v,h)) (hF:NoFr X:=by rfl):PMCall P X.E f args hs v h:=by
  intro B0 S ρ w vs hB0 hG0 hH0 hrel
  obtain ⟨B,hBe⟩:∃ B:Bd,B=⟨B0.own,B0.pin,[]⟩:=⟨_,rfl⟩
  have hdf:B.df=[]:=by rw [hBe]
  have hB:∀ k,w.heap.size≤k→B.own k:=by rw [hBe]; exact hB0
  have hG:∀ w',Fr B w w'→X.E.G w':=fun w' hf=>hG0 w' (hf.mono fun k h=>by rw [hBe] at h; exact h)
  have hH:HRel X.E S ρ w B hs:=by rw [hBe]; exact hH0.df []
  refine Calls.mono (R:=fun e w'=>(panOf h=none∧∃ v' S' ρ',e=.returned v'∧Fr B w w'∧(∀ b,S b→S' b)∧(∀ b,S' b→S b∨B.own b)∧HRel X.E S' ρ' w' B h∧Rel X.E S' ρ' w' v v')∨(∃ T l c,h=panH T∧v=.agg [.int .i64 l,.int .i64 c]∧e=.panicked (pEntry T l c)∧Fr B w w')) ?_ fun e w' hR=>?_
  rotate_left
  · rcases hR with ⟨h0, v', S', ρ', h1, h2, h3, h4, h5, h6⟩ | ⟨T, l, c, h1, h2, h3, h4⟩
    · subst hBe
      exact .inl ⟨h0,v',S',ρ',h1,h2.mono fun _ h=>h,h3,h4,h5.df',h6⟩
    · subst hBe
      exact .inr ⟨T,l,c,h1,h2,h3,h4.mono fun _ h=>h⟩
  refine calls_of_wp hf hb ?_
  have hsz:(vs++Array.replicate (fn.ntmps - vs.size) undef).size=X.nt:=by
    have:=hrel.1
    simp; omega
  have h0:StRel X B S w ⟨args0 args 0,hs⟩ { tmps:=vs++Array.replicate (fn.ntmps - vs.size) undef,defers:=[] } w:=by
    refine ⟨S,ρ,hdf.symm,hsz,Fr.refl _ _,hB,fun _ h=>h,fun _ h=>.inl h,hG,fun i=>?_,hH⟩
    show Rel X.E S _ w (tget (args0 args 0) i) _
    rw [args0_get]
    simp only [Nat.zero_le,if_true,Nat.sub_zero]
    cases hc:args[i]? with
    | none=>exact .any _
    | some c =>
      have hi:i < vs.size:=by rw [hrel.1]; exact (List.getElem?_eq_some_iff.1 hc).1
      simp only [Option.getD_some]
      rw [Array.getD_eq_getD_getElem?,Array.getElem?_append_left hi,Array.getElem?_eq_getElem hi]
      exact hrel.2 i c _ hc (Array.getElem?_eq_getElem hi)
  have hret:∀ (X':Ctx U El) (st':St U El) (a':Act) (w':World),X'.E=X.E→StRel X' B S w st' a' w'→retP res st'=some (v,h)→panOf h=none∧∃ v' S' ρ',Ending.returned (resVal a'.tmps res) = .returned v'∧Fr B w w'∧(∀ b,S b→S' b)∧(∀ b,S' b→S b∨B.own b)∧HRel X.E S' ρ' w' B h∧Rel X.E S' ρ' w' v v':=by
    rintro X' st' a' w' hE ⟨S',ρ',hi⟩ hr
    obtain ⟨hpn,hr⟩:=chk_some hr
    have hiH:=hi.heap
    have hiT:=hi.tmps
    rw [hE] at hiH hiT
    have hh:st'.h=h:=by
      unfold retM at hr
      simp only [Option.some.injEq] at hr
      split at hr<;>exact (Prod.mk.inj hr).2
    refine ⟨by rw [← hh]; exact Option.isNone_iff_eq_none.1 hpn,_,S',ρ',rfl,hi.below,hi.s0,hi.s1,?_⟩
    unfold retM at hr
    match res with
    | [t] =>
      simp only [Option.some.injEq,Prod.mk.injEq] at hr
      obtain ⟨rfl,rfl⟩:=hr
      exact ⟨hiH,hiT t⟩
    | [] =>
      simp only [Option.some.injEq,Prod.mk.injEq] at hr
      obtain ⟨rfl,rfl⟩:=hr
      exact ⟨hiH,.tup _ _ rfl (by simp)⟩
    | t :: u :: l =>
      simp only [Option.some.injEq,Prod.mk.injEq] at hr
      obtain ⟨rfl,rfl⟩:=hr
      refine ⟨hiH,.tup _ _ (by simp) fun i c v hc hv=>?_⟩
      simp only [List.getElem?_map,Option.map_eq_some_iff] at hc
      obtain ⟨q,hq,rfl⟩:=hc
      simp only [List.getElem?_toArray,List.getElem?_map,hq,Option.map_some,Option.some.injEq] at hv
      subst hv
      exact hiT q
  have hret2:∀ st' a' w',StRel X B S w st' a' w'→loadRes X X.nt lds X.nt st' (fun st=>normK nm st (retP res))=some (v,h)→a'.defers=[]∧∃ x,(results fn a'.tmps).run P w' = .ok x w'∧((panOf h=none∧∃ v' S' ρ',Ending.returned x = .returned v'∧Fr B w w'∧(∀ b,S b→S' b)∧(∀ b,S' b→S b∨B.own b)∧HRel X.E S' ρ' w' B h∧Rel X.E S' ρ' w' v v')∨(∃ T l c,h=panH T∧v = .agg [.int .i64 l,.int .i64 c]∧Ending.returned x = .panicked (pEntry T l c)∧Fr B w w')):=by
    rintro st' a' w' ⟨S1,ρ1,hi⟩ hr
    obtain ⟨vals,st2,l1,l2,l3,l4,l5⟩:=loadRes_sound lds X st' a' hX hi (Nat.le_refl _) hr
    obtain ⟨st3,n1,n2⟩:=normK_sound l4 ⟨S1,ρ1,l5⟩ l2
    exact ⟨hi.defers.trans hdf,_,run_resultsC hres hi.size l1 l3,.inl (hret { X with nt:=X.nt+lds.length } st3 _ w' rfl n1 n2)⟩
  refine exec_soundG (r:=(v,h)) hX hM body (hF.ok body) n _ _ _ _ _ _ _ (fun T l c st' a' w' hs' hp=>?_) hret2 (fun i st' a' w' hs hr=>by cases hr) hret2 h0 hv
  obtain ⟨S1,ρ1,hi⟩:=hs'
  obtain ⟨rfl,rfl⟩:=Prod.mk.inj (Option.some.inj hp)
  exact ⟨hi.defers.trans hdf,.inr ⟨T,l,c,rfl,rfl,rfl,hi.below⟩⟩
theorem runP_sound {f:FuncId} {fn:Func} {body:Code} {n:Ann U} {nm:Norm U} {res:List Nat} {args:List (AV U El)} {hs h:Heap U El} {v:AV U El} (hX:CtxOk P X) (hM:MOkG panR P X)
  (hf:P.funcs[f]? = some fn) (hb:fn.body=some body) (hnt:fn.ntmps=X.nt) (hres:fn.results=(res.map ResultVar.tmp).toArray) (hargs:args.length≤X.nt)
  (hv:runP X body n nm res hs args=some (v,h)) (hF:NoFr X:=by rfl):PMCall P X.E f args hs v h :=
 runPC_sound (lds:=[]) hX hM hf hb hnt (by rw [rvOf_nil]; exact hres) hargs hv hF
theorem Inv.pcall {f:FuncId} {args args':List (AV U El)} {vs:Array Value} {ids:List Nat} {hs hc:Heap U El} {v:AV U El} (hX:CtxOk P X) (hi:Inv X B S0 w0 S ρ st a w) (hr:RelL X.E S ρ w args vs)
  (ha:args.map (AV.ren (upOf ids hidBase))=args') (haw:args.all (AV.within ids)=true) (hnd:ids.Nodup) (hh:handed st.h ids ids hidBase=some hs) (hm:PMCall P X.E f args' hs v hc) {T:Nat} (hT:panOf hc=some T) :
  Calls P f vs w fun e w'=>∃ T l c,hc=panH T∧v=.agg [.int .i64 l,.int .i64 c]∧e=.panicked (pEntry T l c)∧StRel X B S0 w0 (st.forgets ids) a w':=by
 subst ha
 obtain ⟨ρc,hρc⟩:∃ ρc:Rho,ρc=fun m=>if hidBase≤m then (ids[m - hidBase]?).bind ρ else none:=⟨_,rfl⟩
 have hup:∀ j∈ids,ρc (upOf ids hidBase j)=ρ j:=fun j hj=>by
  obtain ⟨i,h1,h2⟩:=upOf_get ids hidBase j hj
  rw [hρc,h2]
  simp [h1]
 obtain ⟨Bc,hBc⟩:∃ Bc:Bd,Bc=⟨fun k=>w.heap.size≤k∨∃ id∈ids,∃ l,ρ id=some l∧l.n≠0∧l.b=k,ρc,[]⟩:=⟨_,rfl⟩
 have hown:∀ k,Bc.own k→B.own k:=fun k hkk=>by
  rw [hBc] at hkk
  rcases hkk with h | ⟨id,hid,l,hl,hn,rfl⟩
  ·exact hi.hB k h
  ·obtain ⟨b,hb⟩:=handed_mem _ _ _ hh id hid
   obtain ⟨l',hl',hbl⟩:=hi.heap.get id b hb
   rw [hl] at hl'; cases hl'
   exact (hbl.lt hn).2.1
 have hownS:∀ k,Bc.own k→¬ S k:=fun k hkk hS=>by
  rw [hBc] at hkk
  rcases hkk with h | ⟨id,hid,l,hl,hn,rfl⟩
  ·have:=hi.heap.lt k hS; omega
  ·obtain ⟨b,hb⟩:=handed_mem _ _ _ hh id hid
   obtain ⟨l',hl',hbl⟩:=hi.heap.get id b hb
   rw [hl] at hl'; cases hl'
   exact (hbl.lt hn).2.2 hS
 have hHc:HRel X.E S ρc w Bc hs:=by
  refine ⟨fun m b hg=>?_,fun m m' b b' l l' hg hg' hne hl hl' hn hn'=>?_,hi.heap.lt⟩
  ·obtain ⟨i,id,b0,h1,rfl,h3,h4,rfl⟩:=handed_get _ _ _ hh m b hg
   obtain ⟨l,hl,hbl⟩:=hi.heap.get id b0 h3
   have hmem:id∈ids:=List.mem_of_getElem? h1
   have hρl:ρc (hidBase+i)=some l:=by rw [hρc]; simp [h1,hl]
   exact ⟨l,hρl,hbl.ren hX.u h4 (fun j hj l' e=>by rw [hup j hj]; exact e) (fun hn=>by rw [hBc]; exact .inr ⟨id,hmem,l,hl,hn,rfl⟩) (.inr (by rw [hBc]; exact hρl))⟩
  ·obtain ⟨i,id,b0,h1,rfl,h3,_⟩:=handed_get _ _ _ hh m b hg
   obtain ⟨i',id',b0',h1',rfl,h3',_⟩:=handed_get _ _ _ hh m' b' hg'
   have e1:ρ id=some l:=by rw [hρc] at hl; simpa [h1] using hl
   have e2:ρ id'=some l':=by rw [hρc] at hl'; simpa [h1'] using hl'
   refine hi.heap.inj id id' b0 b0' l l' h3 h3' (fun e=>hne ?_) e1 e2 hn hn'
   subst e
   obtain ⟨q1,q2⟩:=List.getElem?_eq_some_iff.1 h1
   have:=(List.getElem?_inj q1 hnd).1 (h1.trans h1'.symm)
   rw [this]
 have hrc:RelL X.E S ρc w (args.map (AV.ren (upOf ids hidBase))) vs:=by
  refine ⟨by simpa using hr.1,fun i c v hc hv=>?_⟩
  simp only [List.getElem?_map,Option.map_eq_some_iff] at hc
  obtain ⟨c0,hc0,rfl⟩:=hc
  exact (hr.2 i c0 v hc0 hv).ren hX.u (List.all_eq_true.1 haw c0 (List.mem_of_getElem? hc0)) fun j hj l e=>by rw [hup j hj]; exact e
 refine (hm Bc S ρc w vs (fun k hkk=>by rw [hBc]; exact .inl hkk) (fun w' hf=>hi.g0 w' (hi.below.trans (hf.mono hown))) hHc hrc).mono ?_
 rintro e w' (⟨h1,_⟩ | ⟨T',l,c,h1,h2,h3,hfr⟩)
 ·rw [h1] at hT; cases hT
 refine ⟨T',l,c,h1,h2,h3,S,ρ.dels ids,?_⟩
 have hF:=hi.forgets hX ids
 have hsame:∀ b,S b→w'.heap[b]? = w.heap[b]?:=fun b hb=>hfr.block b (hi.heap.lt b hb) fun h=>hownS b h hb
 refine ⟨hF.defers,hF.size,hi.below.trans (hfr.mono hown),fun k hkk=>hi.hB k (Nat.le_trans hfr.size hkk),hi.s0,hi.s1,hi.g0,fun i=>(hF.tmps i).mono (fun _ h=>h) hsame fun _ _ h=>h,⟨fun id b hg=>?_,hF.heap.inj,fun b hb=>Nat.lt_of_lt_of_le (hi.heap.lt b hb) hfr.size⟩⟩
 obtain ⟨l1,hl1,hbl⟩:=hF.heap.get id b hg
 refine ⟨l1,hl1,hbl.mono (fun _ h=>h) hsame (fun _ _ h=>h) fun hn=>?_⟩
 obtain ⟨g1,b0,g2⟩:=forgets_get ids st id b hg
 have hlt:=hbl.lt hn
 refine ⟨hfr.block _ hlt.1 fun ho=>?_,hlt.2.2⟩
 rw [hBc] at ho
 rcases ho with h | ⟨id',hid',l2,hl2,hn2,e⟩
 ·have:w.heap.size ≤ l1.b:=h
  have:=hlt.1
  omega
 ·obtain ⟨b2,hb2⟩:=handed_mem _ _ _ hh id' hid'
  rw [dels_get ids ρ id g1] at hl1
  exact hi.heap.inj id id' b0 b2 l1 l2 g2 hb2 (fun e=>g1 (e ▸ hid')) hl1 hl2 hn hn2 e.symm
def mcpSp (pan:Pan U El) (sp:MSp U El):SpM U El:=fun d args st k =>
  let ids:=reach st.h 40 0 (AV.nms.nmsL args [])
  match handed st.h ids ids hidBase with
  | some hs=>sp (args.map (AV.ren (upOf ids hidBase))) hs fun v hc =>
      match panOf hc with
      | some T => chk (args.all (AV.within ids) && decide ids.Nodup) (match v with
        | .agg [.int .i64 l,.int .i64 c]=>pan T l c (st.forgets ids)
        | _=>none)
      | none =>
        let outs:=outsOf ids d hc 0
        let pins:=pinsOf ids hc
        chk (args.all (AV.within ids)&&mOk hc ids outs pins v) (k (v.ren (dnOf outs)) (mState st ids outs pins hc))
  | none=>none
theorem mcpSp_ok {pan:Pan U El} {f:FuncId} {sp:MSp U El} (hX:CtxOk P X) (h:PSpOk P X.E f sp):SpMOkG pan P X f (mcpSp pan sp):=by
 refine ⟨h.1,?_⟩
 intro B S0 w0 S ρ st a w d args vs k r hi hr hv
 unfold mcpSp at hv
 simp only at hv
 split at hv
 ·rename_i hs hh
  obtain ⟨v,hc,hm,hk⟩:=h.2 _ _ _ _ hv
  split at hk
  ·rename_i T hT
   obtain ⟨hck,hk⟩:=chk_some hk
   simp only [Bool.and_eq_true,decide_eq_true_eq] at hck
   refine (hi.pcall hX hr rfl hck.1 hck.2 hh hm hT).mono ?_
   rintro e w' ⟨T',l,c,rfl,rfl,rfl,hs'⟩
   rw [panOf_H] at hT; cases hT
   exact .inr ⟨T,l,c,_,rfl,hs',hk⟩
  ·rename_i hT
   obtain ⟨hck,hk⟩:=chk_some hk
   simp only [Bool.and_eq_true] at hck
   exact (hi.mcall hX hr rfl hck.1 hh (hm.m hT) hck.2 hk).mono fun e w' h=>.inl h
 ·cases hv
theorem mpNG {pan:Pan U El}:∀ p∈([]:List (FuncId×SpM U El)),SpMOkG pan P X p.1 p.2:=fun p h=>by cases h
theorem mpCG {pan:Pan U El} {f:FuncId} {sp:SpM U El} {l:List (FuncId×SpM U El)} (h:SpMOkG pan P X f sp) (hl:∀ p∈l,SpMOkG pan P X p.1 p.2):∀ p∈(f,sp) :: l,SpMOkG pan P X p.1 p.2:=fun p hp=>by
 rcases List.mem_cons.1 hp with rfl | hp
 ·exact h
 ·exact hl p hp
theorem mspecOf_okG {pan:Pan U El}:∀ (l:List (FuncId×SpM U El)),(∀ p∈l,SpMOkG pan P X p.1 p.2)→∀ g sp,mspecOf l g=some sp→SpMOkG pan P X g sp:=by
  intro l
  induction l with
  | nil=>intro _ g sp h; cases h
  | cons p l ih =>
    obtain ⟨j,s⟩:=p
    intro hl g sp h
    unfold mspecOf at h
    cases e:Nat.beq j g with
    | true =>
      rw [e] at h
      cases h
      have:=Nat.eq_of_beq_eq_true e
      subst this
      exact hl (j,s) List.mem_cons_self
    | false =>
      rw [e] at h
      exact ih (fun p hp=>hl p (List.mem_cons_of_mem _ hp)) g sp h
end
end Go.Proofs.YtlkfbblapimhoaaGreatDoor
