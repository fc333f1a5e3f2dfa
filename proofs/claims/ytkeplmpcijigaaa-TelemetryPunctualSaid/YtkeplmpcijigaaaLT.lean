/- A call that is handed blocks of the caller's own: its abstract run from these blocks, and what it is to the caller. -/
import Derived.Test.YtkeplmpcijigaaaLP
namespace Go.Proofs.Ytkeplmpcijigaaa
set_option linter.unusedVariables false
set_option linter.unusedSectionVars false
set_option linter.unusedSimpArgs false
open Go.RowKit
section
variable {U:Type} {El:U→Type} {P:Program} {X:Ctx U El} {S S0 S':Nat→Prop} {ρ ρ':Rho} {w w0 w':World} [DecidableEq U] [Drw]
variable {a:Act} {st:St U El} {B:Bd} {d:Nat} {r:Fin U El}
def retM (res:List Nat) (st:St U El):Option (Fin U El) :=
  some (match res with | [t]=>(tget st.t t,st.h) | _=>(.tup (res.map (tget st.t)),st.h))
noncomputable def runMC (X:Ctx U El) (body:Code) (n:Ann U) (nm:Norm U) (lds:List (Nat×TypeId)) (res:List Nat) (hs:Heap U El) (args:List (AV U El)):Option (Fin U El) :=
  exec X body n ⟨args0 args 0,hs⟩ (fun st=>loadRes X X.nt lds X.nt st fun st=>normK nm st (retM res)) (fun _ _=>none) (fun st=>loadRes X X.nt lds X.nt st fun st=>normK nm st (retM res))
noncomputable def runM (X:Ctx U El) (body:Code) (n:Ann U) (nm:Norm U) (res:List Nat) (hs:Heap U El) (args:List (AV U El)):Option (Fin U El) :=
  exec X body n ⟨args0 args 0,hs⟩ (fun st=>normK nm st (retM res)) (fun _ _=>none) (fun st=>normK nm st (retM res))
theorem args0_get:∀ (l:List (AV U El)) (m i:Nat),tget (args0 l m) i=if m≤i then (l[i - m]?).getD .any else .any:=by
  intro l
  induction l with
  | nil=>intro m i; simp [args0,tget]
  | cons c l ih =>
    intro m i
    simp only [args0,tget]
    by_cases e:m=i
    · subst e; simp [Nat.beq_refl]
    · rw [nbeq_ne e, ih]
      simp only [cond]
      by_cases h1:m≤i
      · rw [if_pos (by omega),if_pos h1,show i - m=(i - (m+1))+1 by omega,List.getElem?_cons_succ]
      · rw [if_neg (by omega),if_neg h1]
theorem runMC_sound {f:FuncId} {fn:Func} {body:Code} {n:Ann U} {nm:Norm U} {lds:List (Nat×TypeId)} {res:List Nat} {args:List (AV U El)} {hs h:Heap U El} {v:AV U El} (hX:CtxOk P X) (hM:MOk P X)
    (hf:P.funcs[f]? = some fn) (hb:fn.body=some body) (hnt:fn.ntmps=X.nt) (hres:fn.results=(res.map (rvOf X.nt lds)).toArray) (hargs:args.length≤X.nt)
    (hv:runMC X body n nm lds res hs args=some (v,h)) (hF:NoFr X:=by rfl):MCall P X.E f args hs v h:=by
  refine MCall.of_clean fun B S ρ w vs hdf hB hG hH hrel => ?_
  refine calls_of_wp hf hb ?_
  have hsz:(vs++Array.replicate (fn.ntmps - vs.size) undef).size=X.nt:=by
    have:=hrel.1
    simp; omega
  have h0:StRel X B S w ⟨args0 args 0,hs⟩ { tmps:=vs++Array.replicate (fn.ntmps - vs.size) undef,defers:=[] } w:=by
    refine ⟨S,ρ,hdf.symm,hsz,Fr.refl _ _,hB,fun _ h=>h,fun _ h => .inl h,hG,fun i => ?_,hH⟩
    show Rel X.E S _ w (tget (args0 args 0) i) _
    rw [args0_get]
    simp only [Nat.zero_le,if_true,Nat.sub_zero]
    cases hc:args[i]? with
    | none=>exact .any _
    | some c =>
      have hi:i < vs.size:=by rw [hrel.1]; exact (List.getElem?_eq_some_iff.1 hc).1
      simp only [Option.getD_some]
      rw [Array.getD_eq_getD_getElem?,Array.getElem?_append_left hi,Array.getElem?_eq_getElem hi]
      exact hrel.2 i c _ hc (Array.getElem?_eq_getElem hi)
  have hret:∀ (X':Ctx U El) (st':St U El) (a':Act) (w':World),X'.E=X.E→StRel X' B S w st' a' w'→retM res st'=some (v,h)→∃ v' S' ρ',Ending.returned (resVal a'.tmps res) = .returned v'∧Fr B w w'∧(∀ b,S b→S' b)∧(∀ b,S' b→S b∨B.own b)∧HRel X.E S' ρ' w' B h∧Rel X.E S' ρ' w' v v':=by
    rintro X' st' a' w' hE ⟨S',ρ',hi⟩ hr
    have hiH:=hi.heap
    have hiT:=hi.tmps
    rw [hE] at hiH hiT
    refine ⟨_,S',ρ',rfl,hi.below,hi.s0,hi.s1,?_⟩
    unfold retM at hr
    match res with
    | [t] =>
      simp only [Option.some.injEq,Prod.mk.injEq] at hr
      obtain ⟨rfl,rfl⟩:=hr
      exact ⟨hiH,hiT t⟩
    | [] =>
      simp only [Option.some.injEq,Prod.mk.injEq] at hr
      obtain ⟨rfl,rfl⟩:=hr
      exact ⟨hiH,.tup _ _ rfl (by simp)⟩
    | t :: u :: l =>
      simp only [Option.some.injEq,Prod.mk.injEq] at hr
      obtain ⟨rfl,rfl⟩:=hr
      refine ⟨hiH,.tup _ _ (by simp) fun i c v hc hv => ?_⟩
      simp only [List.getElem?_map,Option.map_eq_some_iff] at hc
      obtain ⟨q,hq,rfl⟩:=hc
      simp only [List.getElem?_toArray,List.getElem?_map,hq,Option.map_some,Option.some.injEq] at hv
      subst hv
      exact hiT q
  have hret2:∀ st' a' w',StRel X B S w st' a' w'→loadRes X X.nt lds X.nt st' (fun st=>normK nm st (retM res))=some (v,h)→a'.defers=[]∧∃ x,(results fn a'.tmps).run P w' = .ok x w'∧∃ v' S' ρ',Ending.returned x = .returned v'∧Fr B w w'∧(∀ b,S b→S' b)∧(∀ b,S' b→S b∨B.own b)∧HRel X.E S' ρ' w' B h∧Rel X.E S' ρ' w' v v':=by
    rintro st' a' w' ⟨S1,ρ1,hi⟩ hr
    obtain ⟨vals,st2,l1,l2,l3,l4,l5⟩:=loadRes_sound lds X st' a' hX hi (Nat.le_refl _) hr
    obtain ⟨st3,n1,n2⟩:=normK_sound l4 ⟨S1,ρ1,l5⟩ l2
    exact ⟨hi.defers.trans hdf,_,run_resultsC hres hi.size l1 l3,hret { X with nt:=X.nt+lds.length } st3 _ w' rfl n1 n2⟩
  exact exec_sound (r:=(v,h)) hF hX hM body n _ _ _ _ _ _ _ hret2 (fun i st' a' w' hs hr=>by cases hr) hret2 h0 hv
theorem runM_sound {f:FuncId} {fn:Func} {body:Code} {n:Ann U} {nm:Norm U} {res:List Nat} {args:List (AV U El)} {hs h:Heap U El} {v:AV U El} (hX:CtxOk P X) (hM:MOk P X)
    (hf:P.funcs[f]? = some fn) (hb:fn.body=some body) (hnt:fn.ntmps=X.nt) (hres:fn.results=(res.map ResultVar.tmp).toArray) (hargs:args.length≤X.nt)
    (hv:runM X body n nm res hs args=some (v,h)) (hF:NoFr X:=by rfl):MCall P X.E f args hs v h :=
  runMC_sound (lds:=[]) hX hM hf hb hnt (by rw [rvOf_nil]; exact hres) hargs hv hF
def mState (st:St U El) (ids:List Nat) (outs:List (Nat×Nat)) (pins:List Nat) (hc:Heap U El):St U El :=
  let st1:=st.forgets (mForget ids outs pins)
  ⟨st1.t,mBlks st.h hc pins outs outs++hdels st1.h pins⟩
theorem hget_dels (h:Heap U El) (ids:List Nat) (j:Nat):hget (hdels h ids) j=if j∈ids then none else hget h j:=by
  induction ids generalizing h with
  | nil=>simp [hdels]
  | cons i ids ih =>
    simp only [hdels,ih,hget_del]
    by_cases e:j∈ids
    · simp [e]
    · by_cases e2 : j = i
      · subst e2; simp
      · simp [e,e2]
theorem dels_get:∀ (ids:List Nat) (ρ:Rho) (j:Nat),j ∉ ids→ρ.dels ids j=ρ j:=by
  intro ids
  induction ids with
  | nil=>intro ρ j _; rfl
  | cons i ids ih =>
    intro ρ j h
    simp only [List.mem_cons,not_or] at h
    show (ρ.del i).dels ids j=ρ j
    rw [ih _ _ h.2]
    simp [Rho.del,h.1]
theorem forgets_get:∀ (ids:List Nat) (st:St U El) (j:Nat) (b:Blk U El),hget (st.forgets ids).h j=some b→j ∉ ids∧∃ b0,hget st.h j=some b0:=by
  intro ids
  induction ids with
  | nil=>intro st j b h; exact ⟨by simp,b,h⟩
  | cons i ids ih =>
    intro st j b h
    obtain ⟨h1,b0,h2⟩:=ih (st.forget i) j b h
    simp only [St.forget,hget_kill,hget_del,Option.map_eq_some_iff] at h2
    obtain ⟨b1,h3,_⟩:=h2
    split at h3
    · cases h3
    · rename_i e
      exact ⟨by simp [e,h1],b1,h3⟩
theorem Inv.mcall {f:FuncId} {args args':List (AV U El)} {vs:Array Value} {ids pins:List Nat} {outs:List (Nat×Nat)} {hs hc:Heap U El} {v:AV U El} {k:AV U El→St U El→Option (Fin U El)} (hX:CtxOk P X) (hi:Inv X B S0 w0 S ρ st a w) (hr:RelL X.E S ρ w args vs)
    (ha:args.map (AV.ren (upOf ids hidBase))=args') (haw:args.all (AV.within ids)=true) (hh:handed st.h ids ids hidBase=some hs) (hm:MCall P X.E f args' hs v hc) (hok:mOk hc ids outs pins v=true)
    (hk:k (v.ren (dnOf outs)) (mState st ids outs pins hc)=some r) :
    Calls P f vs w fun e w'=>∃ v res st' S' ρ',e = .returned v∧k res st'=some r∧Inv X B S0 w0 S' ρ' st' a w'∧Rel X.E S' ρ' w' res v:=by
  subst ha
  simp only [mOk,Bool.and_eq_true,decide_eq_true_eq] at hok
  obtain ⟨hnd,hn1,hn2,hvw,hbw,hpin⟩:=hok
  obtain ⟨ρc,hρc⟩:∃ ρc:Rho,ρc=fun m=>if hidBase≤m then (ids[m - hidBase]?).bind ρ else none:=⟨_,rfl⟩
  have hup:∀ j∈ids,ρc (upOf ids hidBase j)=ρ j:=fun j hj=>by
    obtain ⟨i,h1,h2⟩:=upOf_get ids hidBase j hj
    rw [hρc,h2]
    simp [h1]
  obtain ⟨Bc,hBc⟩:∃ Bc:Bd,Bc=⟨fun k=>w.heap.size≤k∨∃ id∈ids,∃ l,ρ id=some l∧l.n≠0∧l.b=k,ρc,[]⟩:=⟨_,rfl⟩
  have hown:∀ k,Bc.own k→B.own k:=fun k hkk=>by
    rw [hBc] at hkk
    rcases hkk with h | ⟨id,hid,l,hl,hn,rfl⟩
    · exact hi.hB k h
    · obtain ⟨b, hb⟩ := handed_mem _ _ _ hh id hid
      obtain ⟨l',hl',hbl⟩:=hi.heap.get id b hb
      rw [hl] at hl'; cases hl'
      exact (hbl.lt hn).2.1
  have hownS:∀ k,Bc.own k→¬ S k:=fun k hkk hS=>by
    rw [hBc] at hkk
    rcases hkk with h | ⟨id,hid,l,hl,hn,rfl⟩
    · have:=hi.heap.lt k hS; omega
    · obtain ⟨b, hb⟩ := handed_mem _ _ _ hh id hid
      obtain ⟨l',hl',hbl⟩:=hi.heap.get id b hb
      rw [hl] at hl'; cases hl'
      exact (hbl.lt hn).2.2 hS
  have hHc:HRel X.E S ρc w Bc hs:=by
    refine ⟨fun m b hg => ?_,fun m m' b b' l l' hg hg' hne hl hl' hn hn' => ?_,hi.heap.lt⟩
    · obtain ⟨i, id, b0, h1, rfl, h3, h4, rfl⟩ := handed_get _ _ _ hh m b hg
      obtain ⟨l,hl,hbl⟩:=hi.heap.get id b0 h3
      have hmem:id∈ids:=List.mem_of_getElem? h1
      have hρl:ρc (hidBase+i)=some l:=by rw [hρc]; simp [h1,hl]
      exact ⟨l,hρl,hbl.ren hX.u h4 (fun j hj l' e=>by rw [hup j hj]; exact e) (fun hn=>by rw [hBc]; exact .inr ⟨id,hmem,l,hl,hn,rfl⟩) (.inr (by rw [hBc]; exact hρl))⟩
    · obtain ⟨i, id, b0, h1, rfl, h3, _⟩ := handed_get _ _ _ hh m b hg
      obtain ⟨i',id',b0',h1',rfl,h3',_⟩:=handed_get _ _ _ hh m' b' hg'
      have e1:ρ id=some l:=by rw [hρc] at hl; simpa [h1] using hl
      have e2:ρ id'=some l':=by rw [hρc] at hl'; simpa [h1'] using hl'
      refine hi.heap.inj id id' b0 b0' l l' h3 h3' (fun e=>hne ?_) e1 e2 hn hn'
      subst e
      obtain ⟨q1,q2⟩:=List.getElem?_eq_some_iff.1 h1
      have:=(List.getElem?_inj q1 hnd).1 (h1.trans h1'.symm)
      rw [this]
  have hrc:RelL X.E S ρc w (args.map (AV.ren (upOf ids hidBase))) vs:=by
    refine ⟨by simpa using hr.1,fun i c v hc hv => ?_⟩
    simp only [List.getElem?_map,Option.map_eq_some_iff] at hc
    obtain ⟨c0,hc0,rfl⟩:=hc
    exact (hr.2 i c0 v hc0 hv).ren hX.u (List.all_eq_true.1 haw c0 (List.mem_of_getElem? hc0)) fun j hj l e=>by rw [hup j hj]; exact e
  refine (hm Bc S ρc w vs (fun k hkk=>by rw [hBc]; exact .inl hkk) (fun w' hf=>hi.g0 w' (hi.below.trans (hf.mono hown))) hHc hrc).mono ?_
  rintro e w' ⟨v',S',ρ',rfl,hfr,hs1,hs2,hH',hv'⟩
  have hF:=hi.forgets hX (mForget ids outs pins)
  obtain ⟨F,hFe⟩:∃ F,F=mForget ids outs pins:=⟨_,rfl⟩
  rw [← hFe] at hF
  have hFmem:∀ id,id∈F↔(id∈ids∨id∈outs.map (·.1))∧id ∉ pins:=fun id=>by
    rw [hFe]; unfold mForget
    simp only [List.mem_filter,List.mem_append,Bool.not_eq_true',List.elem_eq_mem,decide_eq_false_iff_not]
  obtain ⟨ρ2,hρ2⟩:∃ ρ2:Rho,ρ2=fun id=>match fstOf outs id with | some j=>ρ' j | none=>(ρ.dels F) id:=⟨_,rfl⟩
  have hpins:∀ id∈pins,id∈ids∧fstOf outs id=some (upOf ids hidBase id)∧∃ cs,hget hc (upOf ids hidBase id)=some (.box (upOf ids hidBase id) cs):=fun id hid=>by
    have:=List.all_eq_true.1 hpin id hid
    simp only [Bool.and_eq_true,List.elem_eq_mem,decide_eq_true_eq] at this
    obtain ⟨h1,h2⟩:=this
    split at h2
    · rename_i j hj
      simp only [Bool.and_eq_true] at h2
      obtain ⟨h3,h4⟩:=h2
      obtain rfl:=Nat.eq_of_beq_eq_true h3
      split at h4
      · rename_i t cs hb
        obtain rfl:=Nat.eq_of_beq_eq_true h4
        exact ⟨h1,hj,cs,hb⟩
      · cases h4
    · cases h2
  have hup0:∀ id∈ids,upOf ids hidBase id≠0:=fun id hid=>by
    obtain ⟨i,_,h2⟩:=upOf_get ids hidBase id hid
    rw [h2]; unfold hidBase; omega
  have hpinl:∀ id∈pins,∀ l,ρ' (upOf ids hidBase id)=some l→ρ id=some l:=fun id hid l hl=>by
    obtain ⟨h1,h2,cs,h3⟩:=hpins id hid
    obtain ⟨l',hl',hbl⟩:=hH'.get _ _ h3
    rw [hl] at hl'; cases hl'
    rcases hbl.1 with h | h
    · exact absurd h (hup0 id h1)
    · rw [hBc] at h
      rw [← hup id h1]; exact h
  have hpine:∀ id∈pins,∀ l,ρ id=some l→ρ' (upOf ids hidBase id)=some l:=fun id hid l hl=>by
    obtain ⟨h1,h2,cs,h3⟩:=hpins id hid
    obtain ⟨l',hl',_⟩:=hH'.get _ _ h3
    have:=hpinl id hid l' hl'
    rw [hl] at this; cases this
    exact hl'
  have hext:∀ id l,(ρ.dels F) id=some l→ρ2 id=some l:=fun id l h=>by
    have hnF:id ∉ F:=fun hc=>by rw [dels_none F ρ id (.inr hc)] at h; cases h
    rw [hρ2]
    simp only
    split
    · rename_i j hj
      have hin:id∈outs.map (·.1):=List.mem_map.2 ⟨_,fstOf_some _ _ _ hj,rfl⟩
      have hp:id∈pins:=Classical.byContradiction fun hp=>hnF ((hFmem id).2 ⟨.inr hin,hp⟩)
      obtain ⟨h1,h2,_⟩:=hpins id hp
      rw [hj] at h2; cases h2
      rw [dels_get F ρ id hnF] at h
      exact hpine id hp l h
    · exact h
  have hdn:∀ j∈outs.map (·.2),∀ l,ρ' j=some l→ρ2 (dnOf outs j)=some l:=fun j hj l hl=>by
    rw [hρ2]
    simp only [fstOf_mem outs _ _ hn1 (dnOf_mem outs j hj)]
    exact hl
  have hsame:∀ b,S b→w'.heap[b]? = w.heap[b]? := fun b hb=>hfr.block b (hi.heap.lt b hb) fun h=>hownS b h hb
  have old:∀ id b,hget (hdels (st.forgets F).h pins) id=some b→id ∉ ids∧id ∉ outs.map (·.1)∧∃ b0,hget st.h id=some b0:=fun id b h=>by
    rw [hget_dels] at h
    split at h
    · cases h
    · rename_i hp
      obtain ⟨h1,h2⟩:=forgets_get F st id b h
      refine ⟨fun hc=>h1 ((hFmem id).2 ⟨.inl hc,hp⟩),fun hc=>h1 ((hFmem id).2 ⟨.inr hc,hp⟩),h2⟩
  have oldget:∀ id b,hget (hdels (st.forgets F).h pins) id=some b→hget (st.forgets F).h id=some b:=fun id b h=>by
    rw [hget_dels] at h
    split at h
    · cases h
    · exact h
  have oldfree:∀ id b l,hget (hdels (st.forgets F).h pins) id=some b→(ρ.dels F) id=some l→l.n≠0→l.b < w.heap.size∧¬ Bc.own l.b∧¬ S' l.b:=fun id b l h hl hn=>by
    obtain ⟨h1,h2,b0,hb0⟩:=old id b h
    obtain ⟨l',hl',hbl⟩:=hF.heap.get id b (oldget id b h)
    rw [hl] at hl'; cases hl'
    have hlt:=hbl.lt hn
    have hnF:id ∉ F:=fun hc=>by rw [dels_none F ρ id (.inr hc)] at hl; cases hl
    have hl0:ρ id=some l:=by rw [← dels_get F ρ id hnF]; exact hl
    have hno:¬ Bc.own l.b:=fun ho=>by
      rw [hBc] at ho
      rcases ho with h | ⟨id',hid',l2,hl2,hn2,e⟩
      · have : w.heap.size ≤ l.b := h
        omega
      · obtain ⟨b2, hb2⟩ := handed_mem _ _ _ hh id' hid'
        exact hi.heap.inj id id' b0 b2 l l2 hb0 hb2 (fun e=>h1 (e ▸ hid')) hl0 hl2 hn hn2 e.symm
    exact ⟨hlt.1,hno,fun hs=>by rcases hs2 _ hs with h | h; exact hlt.2.2 h; exact hno h⟩
  have new:∀ id b,hget (mBlks st.h hc pins outs outs) id=some b→∃ j b0 l,(id,j)∈outs∧hget hc j=some b0∧ρ' j=some l∧ρ2 id=some l∧BlkRel X.E S' ρ' w' Bc l b0∧BlkRel X.E S' ρ2 w' B l b:=fun id b h=>by
    obtain ⟨j,b0,h1,h2,rfl⟩:=mBlks_get outs id b h
    obtain ⟨l,hl,hbl⟩:=hH'.get j b0 h2
    have hf:=fstOf_mem outs id j hn1 h1
    have hl2:ρ2 id=some l:=by rw [hρ2]; simp only [hf]; exact hl
    have hw:b0.within (outs.map (·.2))=true:=by
      have:=List.all_eq_true.1 hbw _ h1
      simp only [h2] at this
      exact this
    refine ⟨j,b0,l,h1,h2,hl,hl2,hbl,hbl.ren hX.u hw hdn (fun hn=>hown _ (hbl.lt hn).2.1) ?_⟩
    cases hp:pins.elem id with
    | false=>exact .inl rfl
    | true =>
      simp only [cond]
      have hp':id∈pins:=by simpa using hp
      obtain ⟨g1,g2,_⟩:=hpins id hp'
      rw [hf] at g2; cases g2
      obtain ⟨b1,hb1⟩:=handed_mem _ _ _ hh id g1
      obtain ⟨l1,hl1,hbl1⟩:=hi.heap.get id b1 hb1
      have:=hpinl id hp' l hl
      rw [hl1] at this; cases this
      rw [hb1]
      cases b1 with
      | box t cs=>exact hbl1.1
      | _=>exact .inl rfl
  refine ⟨v',_,_,S',ρ2,rfl,hk,⟨hi.defers,hi.size,hi.below.trans (hfr.mono hown),fun k hkk=>hi.hB k (Nat.le_trans hfr.size hkk),fun b hb=>hs1 b (hi.s0 b hb),fun b hb => ?_,hi.g0,fun i => ?_,?_⟩,hv'.ren hX.u hvw hdn⟩
  · rcases hs2 b hb with h | h
    · exact hi.s1 b h
    · exact .inr (hown b h)
  · show Rel X.E S' ρ2 w' (tget (st.forgets (mForget ids outs pins)).t i) _
    rw [← hFe]
    exact (hF.tmps i).mono hs1 hsame hext
  · show HRel X.E S' ρ2 w' B (mBlks st.h hc pins outs outs ++ hdels (st.forgets (mForget ids outs pins)).h pins)
    rw [← hFe]
    refine ⟨fun id b hg => ?_,fun i j b b' l l' hgi hgj hne hli hlj hn hn' => ?_,hH'.lt⟩
    · rw [hget_append] at hg
      split at hg
      · rename_i b' hb'
        cases hg
        obtain ⟨_,_,l,_,_,_,h1,_,h2⟩:=new id b hb'
        exact ⟨l,h1,h2⟩
      · obtain ⟨l, hl, hbl⟩ := hF.heap.get id b (oldget id b hg)
        refine ⟨l,hext id l hl,hbl.mono hs1 hsame hext fun hn => ?_⟩
        obtain ⟨c1,c2,c3⟩:=oldfree id b l hg hl hn
        exact ⟨hfr.block _ c1 c2,c3⟩
    · have kind : ∀ id b l, hget (mBlks st.h hc pins outs outs ++ hdels (st.forgets F).h pins) id = some b → ρ2 id = some l → l.n ≠ 0 → (∃ j b0, (id, j) ∈ outs ∧ hget hc j = some b0 ∧ ρ' j = some l ∧ Bc.own l.b) ∨ (∃ b0, hget (st.forgets F).h id = some b0 ∧ (ρ.dels F) id = some l ∧ ¬ Bc.own l.b) := fun id b l hg hl hn => by
        rw [hget_append] at hg
        split at hg
        · rename_i b' hb'
          obtain ⟨j,b0,l2,h1,h2,h3,h4,h5,_⟩:=new id b' hb'
          rw [hl] at h4; cases h4
          exact .inl ⟨j,b0,h1,h2,h3,(h5.lt hn).2.1⟩
        · obtain ⟨l2, hl2, _⟩ := hF.heap.get id b (oldget id b hg)
          have:=hext id l2 hl2
          rw [hl] at this; cases this
          exact .inr ⟨b,oldget id b hg,hl2,(oldfree id b l hg hl2 hn).2.1⟩
      rcases kind i b l hgi hli hn with ⟨j1,b1,p1,p2,p3,p4⟩ | ⟨b1,p1,p2,p3⟩<;>rcases kind j b' l' hgj hlj hn' with ⟨j2,b2,q1,q2,q3,q4⟩ | ⟨b2,q1,q2,q3⟩
      · refine hH'.inj j1 j2 b1 b2 l l' p2 q2 (fun e => hne ?_) p3 q3 hn hn'
        subst e
        have hsnd:∀ (l:List (Nat×Nat)) (x y z:Nat),(l.map (·.2)).Nodup→(x,z)∈l→(y,z)∈l→x=y:=by
          intro l
          induction l with
          | nil=>intro x y z _ h; cases h
          | cons p l ih =>
            intro x y z hnn h1 h2
            simp only [List.map_cons,List.nodup_cons] at hnn
            rcases List.mem_cons.1 h1 with e1 | h1<;>rcases List.mem_cons.1 h2 with e2 | h2
            · rw [← e1] at e2; exact (Prod.mk.inj e2).1.symm
            · exact absurd (List.mem_map.2 ⟨_,h2,by rw [← e1]⟩) hnn.1
            · exact absurd (List.mem_map.2 ⟨_,h1,by rw [← e2]⟩) hnn.1
            · exact ih x y z hnn.2 h1 h2
        exact hsnd outs i j j1 hn2 p1 q1
      · intro e; exact q3 (e ▸ p4)
      · intro e; exact p3 (e ▸ q4)
      · exact hF.heap.inj i j b1 b2 l l' p1 q1 hne p2 q2 hn hn'
end
end Go.Proofs.Ytkeplmpcijigaaa
