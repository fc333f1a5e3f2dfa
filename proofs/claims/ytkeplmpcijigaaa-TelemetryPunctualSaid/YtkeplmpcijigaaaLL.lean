/- A region that draws its order: whatever order is drawn, the outcome is the one that the abstract run has in the order of the text. -/
import Derived.Test.YtkeplmpcijigaaaLL0
namespace Go.Proofs.Ytkeplmpcijigaaa
set_option linter.unusedVariables false
set_option linter.unusedSectionVars false
set_option linter.unusedSimpArgs false
open Go.RowKit
section
variable {U:Type} {El:U→Type} {P:Program} {X:Ctx U El} {S S0:Nat→Prop} {ρ ρ':Rho} {w w0:World} [DecidableEq U] [Drw]
variable {o:Oper} {a:Act} {st:St U El} {B:Bd} {d:Nat} {r:Fin U El}
def dstOf (ops:Array Oper) (i:Nat):Option Nat:=(ops[i]?).bind (·.dst)
def idsOf (ops:Array Oper) (i:Nat):List Nat:=match ops[i]? with | some o=>newIds o (o.dst.getD 999) | none=>[]
def looksOf (ops:Array Oper) (i:Nat):List Nat:=match ops[i]? with | some o=>Oper.looks (ops.toList.map (·.dst)) o | none=>[]
abbrev sfOf (ops:Array Oper) (ws:List (Nat×Nat)) (i:Nat):Nat→Bool:=safeB (ancs ops.toList []) (evsOf ops.toList ws) i
theorem hget_hfil (p:Nat→Bool) (h:Heap U El) (id:Nat):hget (hfil p h) id=if p id=true then hget h id else none:=by
  induction h with
  | nil=>simp [hfil,hget]
  | cons q h ih =>
    obtain ⟨j,b⟩:=q
    simp only [hfil]
    cases hp:p j with
    | true =>
      simp only [cond,hget,ih]
      by_cases e:j=id
      · subst e; rw [Nat.beq_refl]; simp [hp]
      · rw [nbeq_ne e]
    | false =>
      simp only [cond,hget,ih]
      by_cases e:j=id
      · subst e; simp [hp]
      · rw [nbeq_ne e]
theorem hget_hdels (ids:List Nat):∀ (h:Heap U El) (id:Nat),hget (hdels h ids) id=if id∈ids then none else hget h id:=by
  induction ids with
  | nil=>intro h id; simp [hdels]
  | cons i ids ih =>
    intro h id
    simp only [hdels,ih,hget_del,List.mem_cons]
    by_cases e:id=i
    · subst e; simp
    · simp [e]
theorem HRel.congr {E:Univ U El} {H H':Heap U El} (h:HRel E S ρ w B H) (he:∀ id,hget H' id=hget H id):HRel E S ρ w B H' :=
  ⟨fun id b hg=>h.get id b (by rw [← he]; exact hg),fun i j b b' l l' hi hj=>h.inj i j b b' l l' (by rw [← he]; exact hi) (by rw [← he]; exact hj),h.lt⟩
structure OpRes (X:Ctx U El) (B:Bd) (S:Nat→Prop) (ρ:Rho) (w:World) (S':Nat→Prop) (ρ':Rho) (w':World) (ids wi:List Nat) (H nw:Heap U El) (v:AV U El) (v':Value):Prop where
  below:Fr B w w'
  s1:∀ b,S b→S' b
  s2:∀ b,S' b→S b∨B.own b
  rho:∀ id,id ∉ ids→ρ' id=ρ id
  rel:∀ c x,Rel X.E S ρ w c x→Rel X.E S' ρ' w' c x
  heap:HRel X.E S' ρ' w' B (nw++hdels H wi)
  val:Rel X.E S' ρ' w' v v'
def OpFact (P : Program) (X : Ctx U El) (ops : Array Oper) (Q : Exit → Act → World → Prop) (ws : List (Nat × Nat)) (i : Nat) (T : Nat → AV U El) (h : Heap U El) (v : AV U El) (nw : Heap U El) : Prop :=
  ∀ (S : Nat → Prop) (ρ : Rho) (w : World) (a : Act) (B : Bd) (H : Heap U El) (K : Act → World → Prop), a.defers = B.df → a.tmps.size = X.nt → (∀ k, w.heap.size ≤ k → B.own k) → (∀ w', Fr B w w' → X.E.G w') →
    (∀ x∈looksOf ops i,Rel X.E S ρ w (T x) (a.tmps.getD x undef))→HRel X.E S ρ w B H→(∀ id b,sfOf ops ws i id=true→hget h id=some b→hget H id=some b)→(∀ id∈idsOf ops i,ρ id=none) →
    (∀ v' w' S' ρ',OpRes X B S ρ w S' ρ' w' (idsOf ops i) (wsOf ws i) H nw v v'→K (a.put (dstOf ops i) v') w') →
    wpOp P ops Q i K a w
theorem looks_op {ops:Array Oper} {o:Oper} {x:Nat} (h:Operand.tmp x∈o.op.operands):x∈Oper.looks (ops.toList.map (·.dst)) o:=by
  unfold Oper.looks
  refine List.mem_append_left _ (List.mem_filterMap.2 ⟨.tmp x,by simpa using h,rfl⟩)
theorem looks_guard {ops:Array Oper} {o:Oper} {j g:Nat} {want:Bool} (hg:o.guard=some (j,want)) (hd:(match (ops.toList.map (·.dst))[j]? with | some d=>d | none=>none)=some g):g∈Oper.looks (ops.toList.map (·.dst)) o:=by
  unfold Oper.looks
  refine List.mem_append_right _ ?_
  rw [hg]
  simp only
  split at hd
  · rename_i e; rw [e,hd]; simp
  · cases hd
structure Trace (P:Program) (X:Ctx U El) (ops:Array Oper) (Q:Exit→Act→World→Prop) (ws:List (Nat×Nat)) (j:Nat) (t:Tmps U El) (h:Heap U El) (k:St U El→Option (Fin U El)) (r:Fin U El)
    (v:Nat→AV U El) (nw:Nat→Heap U El) (T:Nat→Nat→AV U El) (Hs:Nat→Heap U El) (st':St U El):Prop where
  T0:∀ x,T j x=tget t x
  H0:Hs j=h
  stepT:∀ i,j≤i→i < ops.size→∀ x,T (i+1) x=if dstOf ops i=some x then v i else T i x
  stepH1:∀ i,j≤i→i < ops.size→∀ id,(id∈wsOf ws i∨hget (nw i) id≠none)→hget (Hs (i+1)) id=hget (nw i) id
  stepH2:∀ i,j≤i→i < ops.size→∀ id,¬ (id∈wsOf ws i∨hget (nw i) id≠none)→hget (Hs (i+1)) id=hget (Hs i) id
  keys:∀ i,j≤i→i < ops.size→∀ id,hget (nw i) id≠none→id∈idsOf ops i∨id∈wsOf ws i
  fact:∀ i,j≤i→i < ops.size→OpFact P X ops Q ws i (T i) (Hs i) (v i) (nw i)
  endT:∀ x,tget st'.t x=T ops.size x
  endH:st'.h=Hs ops.size
  endK:k st'=some r
theorem refineT {t:Tmps U El} {g:Nat} {b:Bool} (hg:tget t g = .bool b) (x:Nat):tget ((g,.bool b) :: t) x=tget t x:=by
  simp only [tget]
  by_cases e:g=x
  · subst e; rw [Nat.beq_refl,hg]; rfl
  · rw [nbeq_ne e]; rfl
theorem rowsOf_mono {h H:Heap U El} {u:U} {x:AV U El} {ys:List (El u)} (hs:∀ id b,hget h id=some b→hget H id=some b) (hy:rowsOf h u x=some ys):rowsOf H u x=some ys:=by
  cases x<;>simp only [rowsOf] at hy ⊢ <;> try exact hy
  · split at hy
    · rename_i hg; rw [hs _ _ hg]; exact hy
    · cases hy
  · split at hy
    · rename_i hg; rw [hs _ _ hg]; exact hy
    · cases hy
theorem rowsTo_mono {h H:Heap U El} {u:U} {x:AV U El} {q:List (El u)×Option Nat} (hs:∀ id b,hget h id=some b→hget H id=some b) (hy:rowsTo h u x=some q):rowsTo H u x=some q:=by
  cases x<;>simp only [rowsTo] at hy ⊢ <;> try exact hy
  · split at hy
    · rename_i hg; rw [hs _ _ hg]; exact hy
    · cases hy
  · split at hy
    · rename_i hg; rw [hs _ _ hg]; exact hy
    · cases hy
theorem tget_map (l:List Nat) (T:Nat→AV U El) (x:Nat):tget (l.map fun y=>(y,T y)) x=if x∈l then T x else .any:=by
  induction l with
  | nil=>simp [tget]
  | cons y l ih =>
    simp only [List.map_cons,tget,ih]
    by_cases e:y=x
    · subst e; rw [Nat.beq_refl]; simp
    · rw [nbeq_ne e]
      simp [Ne.symm e]
theorem fact_store {ops:Array Oper} {Q:Exit→Act→World→Prop} {ws:List (Nat×Nat)} {i:Nat} {T:Nat→AV U El} {h:Heap U El} {ty:TypeId} {p v:Operand} {id:Nat} {b old:Blk U El} (hX:CtxOk P X) (hoi:ops[i]? = some o) (ho:o.op = .store ty p v) (hdst:o.dst=none) (hw:wsOf ws i=[id])
    (hwant:∀ (S:Nat→Prop) (ρ:Rho) (w:World) (a:Act),(∀ x∈looksOf ops i,Rel X.E S ρ w (T x) (a.tmps.getD x undef))→Region.wanted o (yielded ops a.tmps)=true) {t:Tmps U El} (ht:∀ x,tget t x=T x)
    (hsf:sfOf ops ws i id=true) (hold:hget h id=some old)
    (hall:∀ (aA:St U El) (k2:St U El→Option (Fin U El)),hget aA.h id=some old→storeOp X ty (oget t p) (oget t v) aA k2=k2 ⟨aA.t,hset aA.h id b⟩) :
    OpFact P X ops Q ws i T h .any [(id,b)]:=by
  intro S ρ w a B H K hdef hsz hB hG hT hH hs hfr hn
  have hlo:looksOf ops i=Oper.looks (ops.toList.map (·.dst)) o:=by simp [looksOf,hoi]
  have hd:dstOf ops i=none:=by simp [dstOf,hoi,hdst]
  have htl:∀ x:Operand,x∈o.op.operands→oget ((looksOf ops i).map fun y=>(y,T y)) x=oget t x:=fun x hx=>by
    cases x with
    | tmp y =>
      show tget _ y=tget t y
      rw [tget_map,if_pos (by rw [hlo]; exact looks_op hx),ht]
    | _=>rfl
  have hHid:=hs id old hsf hold
  have hi:Inv X B S w S ρ ⟨(looksOf ops i).map fun y=>(y,T y),H⟩ a w:=by
    refine ⟨hdef,hsz,Fr.refl B w,hB,fun _ h=>h,fun _ h => .inl h,hG,fun x => ?_,hH⟩
    show Rel X.E S ρ w (tget _ x) _
    rw [tget_map]
    split
    · rename_i hx; exact hT x hx
    · exact .any _
  classical
  have hv:storeOp X ty (oget ((looksOf ops i).map fun y=>(y,T y)) p) (oget ((looksOf ops i).map fun y=>(y,T y)) v) ⟨(looksOf ops i).map fun y=>(y,T y),H⟩ (fun st'=>if st'=⟨(looksOf ops i).map fun y=>(y,T y),hset H id b⟩ then some ((.any,[]):Fin U El) else none)=some (.any,[]):=by
    rw [htl p (by simp [ho,Op.operands]),htl v (by simp [ho,Op.operands]),hall _ _ hHid]
    simp
  unfold wpOp
  rw [hoi]
  simp only [hwant S ρ w a hT,if_true]
  refine .inl (storeOp_core hX ho hi hv (fun e he=>by rw [hdst] at he; cases he) fun st' w' hS hinv hk => ?_)
  have:st'=⟨(looksOf ops i).map fun y=>(y,T y),hset H id b⟩:=by
    by_cases e:st'=⟨(looksOf ops i).map fun y=>(y,T y),hset H id b⟩
    · exact e
    · simp [e] at hk
  subst this
  have hput:a=a.put (dstOf ops i) undef:=by rw [hd]; rfl
  rw [hput]
  refine hn undef w' S ρ ⟨hinv.below,fun _ h=>h,fun _ h => .inl h,fun _ _=>rfl,fun c x hr=>hr.mono (fun _ h=>h) hS (fun _ _ h=>h),?_,.any _⟩
  refine hinv.heap.congr fun j => ?_
  show hget ([(id,b)]++hdels H (wsOf ws i)) j=hget (hset H id b) j
  rw [hw,hget_set]
  simp only [List.cons_append,List.nil_append,hget,hget_hdels,List.mem_singleton]
  by_cases e:id=j
  · subst e; rw [Nat.beq_refl,hHid,if_pos rfl]; simp
  · rw [nbeq_ne e,if_neg (Ne.symm e)]; simp [Ne.symm e]
theorem fact_mupd {ops:Array Oper} {Q:Exit→Act→World→Prop} {ws:List (Nat×Nat)} {i:Nat} {T:Nat→AV U El} {h:Heap U El} {ty:TypeId} {m ix x:Operand} {id:Nat} {b old:Blk U El} (hX:CtxOk P X) (hoi:ops[i]? = some o) (ho:o.op = .mapUpdate ty m ix x) (hdst:o.dst=none) (hw:wsOf ws i=[id])
    (hwant:∀ (S:Nat→Prop) (ρ:Rho) (w:World) (a:Act),(∀ x∈looksOf ops i,Rel X.E S ρ w (T x) (a.tmps.getD x undef))→Region.wanted o (yielded ops a.tmps)=true) {t:Tmps U El} (ht:∀ x,tget t x=T x)
    (hsf:sfOf ops ws i id=true) (hold:hget h id=some old)
    (hall:∀ (aA:St U El) (k2:St U El→Option (Fin U El)),hget aA.h id=some old→mupdOp X ty (oget t m) (oget t ix) (oget t x) aA k2=k2 ⟨aA.t,hset aA.h id b⟩) :
    OpFact P X ops Q ws i T h .any [(id,b)]:=by
  intro S ρ w a B H K hdef hsz hB hG hT hH hs hfr hn
  have hlo:looksOf ops i=Oper.looks (ops.toList.map (·.dst)) o:=by simp [looksOf,hoi]
  have hd:dstOf ops i=none:=by simp [dstOf,hoi,hdst]
  have htl:∀ x:Operand,x∈o.op.operands→oget ((looksOf ops i).map fun y=>(y,T y)) x=oget t x:=fun x hx=>by
    cases x with
    | tmp y =>
      show tget _ y=tget t y
      rw [tget_map,if_pos (by rw [hlo]; exact looks_op hx),ht]
    | _=>rfl
  have hHid:=hs id old hsf hold
  have hi:Inv X B S w S ρ ⟨(looksOf ops i).map fun y=>(y,T y),H⟩ a w:=by
    refine ⟨hdef,hsz,Fr.refl B w,hB,fun _ h=>h,fun _ h => .inl h,hG,fun x => ?_,hH⟩
    show Rel X.E S ρ w (tget _ x) _
    rw [tget_map]
    split
    · rename_i hx; exact hT x hx
    · exact .any _
  classical
  have hv:mupdOp X ty (oget ((looksOf ops i).map fun y=>(y,T y)) m) (oget ((looksOf ops i).map fun y=>(y,T y)) ix) (oget ((looksOf ops i).map fun y=>(y,T y)) x) ⟨(looksOf ops i).map fun y=>(y,T y),H⟩ (fun st'=>if st'=⟨(looksOf ops i).map fun y=>(y,T y),hset H id b⟩ then some ((.any,[]):Fin U El) else none)=some (.any,[]):=by
    rw [htl m (by simp [ho,Op.operands]),htl ix (by simp [ho,Op.operands]),htl x (by simp [ho,Op.operands]),hall _ _ hHid]
    simp
  unfold wpOp
  rw [hoi]
  simp only [hwant S ρ w a hT,if_true]
  refine .inl (mupdOp_core hX (.inl ho) hi hv hdst fun st' w' hS hinv hk => ?_)
  have:st'=⟨(looksOf ops i).map fun y=>(y,T y),hset H id b⟩:=by
    by_cases e:st'=⟨(looksOf ops i).map fun y=>(y,T y),hset H id b⟩
    · exact e
    · simp [e] at hk
  subst this
  have hput:a=a.put (dstOf ops i) undef:=by rw [hd]; rfl
  rw [hput]
  refine hn undef w' S ρ ⟨hinv.below,fun _ h=>h,fun _ h => .inl h,fun _ _=>rfl,fun c x hr=>hr.mono (fun _ h=>h) hS (fun _ _ h=>h),?_,.any _⟩
  refine hinv.heap.congr fun j => ?_
  show hget ([(id,b)]++hdels H (wsOf ws i)) j=hget (hset H id b) j
  rw [hw,hget_set]
  simp only [List.cons_append,List.nil_append,hget,hget_hdels,List.mem_singleton]
  by_cases e:id=j
  · subst e; rw [Nat.beq_refl,hHid,if_pos rfl]; simp
  · rw [nbeq_ne e,if_neg (Ne.symm e)]; simp [Ne.symm e]
theorem fact_append {ops:Array Oper} {Q:Exit→Act→World→Prop} {ws:List (Nat×Nat)} {i:Nat} {T:Nat→AV U El} {h:Heap U El} {ty:TypeId} {u:U} {s x:Operand} {xs ys:List (El u)} {sid:Option Nat} (hX:CtxOk P X) (hoi:ops[i]? = some o) (ho:o.op = .call ⟨.builtin .append,#[s,x],#[ty,ty]⟩) (hdst:o.dst=some d) (hw:wsOf ws i=sid.toList)
    (hwant:∀ (S:Nat→Prop) (ρ:Rho) (w:World) (a:Act),(∀ x∈looksOf ops i,Rel X.E S ρ w (T x) (a.tmps.getD x undef))→Region.wanted o (yielded ops a.tmps)=true) {t:Tmps U El} (ht:∀ x,tget t x=T x) (htd:tdGet X.tds ty=some (.slice u))
    (hfb:frontB (oget t s)=true) (hxs:rowsTo (hfil (sfOf ops ws i) h) u (oget t s)=some (xs,sid)) (hys:rowsOf (hfil (sfOf ops ws i) h) u (oget t x)=some ys) (hb:(xs.length+ys.length) * X.E.by_ u≤140737488355328) (hm:xs.length+ys.length≤9223372036854775807) :
    OpFact P X ops Q ws i T h (.ful d) [(d,.rows u (xs++ys))]:=by
  intro S ρ w a B H K hdef hsz hB hG hT hH hs hfr hn
  have hs':∀ id b,hget (hfil (sfOf ops ws i) h) id=some b→hget H id=some b:=fun id b hg=>by
    rw [hget_hfil] at hg
    split at hg
    · rename_i hsf; exact hs id b hsf hg
    · cases hg
  have hlo:looksOf ops i=Oper.looks (ops.toList.map (·.dst)) o:=by simp [looksOf,hoi]
  have hids:idsOf ops i=[d]:=by simp [idsOf,hoi,newIds,ho,hdst]
  have hρd:ρ d=none:=hfr d (by rw [hids]; simp)
  have hopr:∀ y∈o.op.operands,Rel X.E S ρ w (oget t y) (a.eval y):=fun y hy=>Rel.oget fun z e=>by
    subst e
    rw [ht]
    exact hT z (by rw [hlo]; exact looks_op hy)
  have hsr:=hopr s (by simp [ho,Op.operands,Call.operands])
  have hxr:=hopr x (by simp [ho,Op.operands,Call.operands])
  obtain ⟨old,hsv,hold⟩:=rowsTo_rel hX hH hsr hfb (rowsTo_mono hs' hxs)
  obtain ⟨ao,cp,hxv,hsh⟩:=rowsOf_rel hX hH hxr (rowsOf_mono hs' hys)
  obtain ⟨v',w',l',hrun,hres⟩:=append_run (ot:=o.type) hX hB hH.lt (hX.td _ _ htd) hsv hxv hsh hb hm
  have hrun':(execOp a.eval o).run P w = .ok (.value v') w':=by
    simp only [execOp,ho,resolve,invoke,builtin,List.map_toArray,List.map_cons,List.map_nil,Sem.run_bind,Sem.run_pure,Result.andThen_ok,hrun]
  unfold wpOp
  rw [hoi]
  simp only [hwant S ρ w a hT,if_true]
  refine .inl ?_
  unfold Oper.wp
  rw [hrun']
  show K (a.put o.dst v') w'
  have hd':dstOf ops i=o.dst:=by simp [dstOf,hoi]
  rw [← hd']
  have hSame:∀ b,S b→w'.heap[b]? = w.heap[b]? := fun b hb=>hres.block b (hH.lt b hb) (fun e=>by
    obtain ⟨j,l,_,_,_,_,hn0,hlb,hbl⟩:=hold b e.symm
    exact (hbl.lt hn0).2.2 (by rw [hlb]; exact hb))
  have hext:∀ j l,ρ j=some l→(ρ.set d l') j=some l:=fun j l h=>by
    by_cases e:j=d
    · subst e; rw [hρd] at h; cases h
    · simp [Rho.set,e,h]
  have hH':∀ j b,hget (hdels H (wsOf ws i)) j=some b→hget H j=some b∧sid≠some j∧j≠d:=fun j b hg=>by
    rw [hget_hdels] at hg
    split at hg
    · cases hg
    · rename_i hnm
      obtain ⟨l,hl,_⟩:=hH.get j b hg
      refine ⟨hg,fun e=>hnm (by rw [hw,e]; simp),fun e => ?_⟩
      subst e; rw [hρd] at hl; cases hl
  have hother:∀ j b l,hget (hdels H (wsOf ws i)) j=some b→ρ j=some l→l.n≠0→some l.b≠old:=fun j b l hg hl hn0 e=>by
    obtain ⟨hg1,hne,_⟩:=hH' j b hg
    obtain ⟨j',l2,_,hid,hg2,hl2,hn2,hlb,hbl⟩:=hold l.b e.symm
    exact hH.inj j j' b _ l l2 hg1 hg2 (by rintro rfl; exact hne hid) hl hl2 hn0 hn2 hlb.symm
  have e1:(ρ.set d l') d=some l':=by simp [Rho.set]
  refine hn v' w' S (ρ.set d l') ⟨⟨hres.os,hres.tape,hres.output,hres.size,hres.drawn,fun k hk hbk=>hres.block k hk (fun e=>hbk ?_)⟩,fun _ h=>h,fun _ h => .inl h,fun id hid => ?_,fun c x hr=>hr.mono (fun _ h=>h) hSame hext,⟨fun j b hg => ?_,fun j j' b b' l l2 hgi hgj hne hli hlj hn1 hn2 => ?_,fun b hb=>Nat.lt_of_lt_of_le (hH.lt b hb) hres.size⟩,?_⟩
  · obtain ⟨j, l, _, _, _, _, hn0, hlb, hbl⟩ := hold k e.symm
    rw [← hlb]
    exact (hbl.lt hn0).2.1
  · rw [hids] at hid
    simp only [List.mem_singleton] at hid
    simp [Rho.set,hid]
  · simp only [List.cons_append, List.nil_append, hget] at hg
    by_cases e:d=j
    · subst e
      rw [Nat.beq_refl] at hg
      cases hg
      exact ⟨l',e1,hres.blk _⟩
    · rw [nbeq_ne e] at hg
      simp only [cond] at hg
      obtain ⟨hg1,_,_⟩:=hH' j b hg
      obtain ⟨l,hl,hbl⟩:=hH.get j b hg1
      exact ⟨l,hext j l hl,hbl.mono (fun _ h=>h) hSame hext fun hn0=>⟨hres.block _ (hbl.lt hn0).1 (hother j b l hg hl hn0),(hbl.lt hn0).2.2⟩⟩
  · have sep : ∀ j b l, hget (hdels H (wsOf ws i)) j = some b → ρ j = some l → l.n ≠ 0 → l'.n ≠ 0 → l.b ≠ l'.b := fun j b l hg hl hn0 hn' e => by
      rcases hres.at_ hn' with h | h
      · exact hother j b l hg hl hn0 (by rw [e]; exact h)
      · obtain ⟨hg1, _, _⟩ := hH' j b hg
        obtain ⟨l3,hl3,hbl⟩:=hH.get j b hg1
        rw [hl] at hl3; cases hl3
        have:=(hbl.lt hn0).1
        omega
    simp only [List.cons_append,List.nil_append,hget] at hgi hgj
    by_cases ei:d=j
    · subst ei
      rw [e1] at hli; cases hli
      rw [nbeq_ne hne] at hgj
      have hlj':ρ j'=some l2:=by simpa [Rho.set,Ne.symm hne] using hlj
      exact (sep j' b' l2 hgj hlj' hn2 hn1).symm
    · rw [nbeq_ne ei] at hgi
      have hli':ρ j=some l:=by simpa [Rho.set,Ne.symm ei] using hli
      by_cases ej:d=j'
      · subst ej
        rw [e1] at hlj; cases hlj
        exact sep j b l hgi hli' hn1 hn2
      · rw [nbeq_ne ej] at hgj
        have hlj':ρ j'=some l2:=by simpa [Rho.set,Ne.symm ej] using hlj
        exact hH.inj j j' b b' l l2 (hH' _ _ hgi).1 (hH' _ _ hgj).1 hne hli' hlj' hn1 hn2
  · rcases hres.val with ⟨cap, rfl, h1, h2⟩ | ⟨rfl, h1, h2⟩
    · exact .ful d cap l' e1 h1 h2
    · exact .fulN d l' e1 h1 h2
theorem fact_eval {ops:Array Oper} {Q:Exit→Act→World→Prop} {ws:List (Nat×Nat)} {i:Nat} {T:Nat→AV U El} {h:Heap U El} {v:AV U El} {nw:Heap U El} (hX:CtxOk P X) (hoi:ops[i]? = some o) (hdst:o.dst=some d) (hw:wsOf ws i=[])
    (hwant:∀ (S:Nat→Prop) (ρ:Rho) (w:World) (a:Act),(∀ x∈looksOf ops i,Rel X.E S ρ w (T x) (a.tmps.getD x undef))→Region.wanted o (yielded ops a.tmps)=true) {t:Tmps U El} (ht:∀ x,tget t x=T x)
    (hall:∀ k:Out U El→Option (Fin U El),evalOp X o t (hfil (sfOf ops ws i) h) d k=k ⟨v,nw⟩):OpFact P X ops Q ws i T h v nw:=by
  intro S ρ w a B H K hdef hsz hB hG hT hH hs hfr hn
  have hids:idsOf ops i=newIds o d:=by simp [idsOf,hoi,hdst]
  have hlo:looksOf ops i=Oper.looks (ops.toList.map (·.dst)) o:=by simp [looksOf,hoi]
  have hT':TRel X.E S ρ w o t a:=fun x hx=>by
    rw [ht x]
    exact hT x (by rw [hlo]; exact looks_op hx)
  have hs':∀ id b,hget (hfil (sfOf ops ws i) h) id=some b→hget H id=some b:=fun id b hg=>by
    rw [hget_hfil] at hg
    split at hg
    · rename_i hsf; exact hs id b hsf hg
    · cases hg
  rw [hids] at hfr hn
  classical
  obtain ⟨out',ho1,ho2⟩:=evalOp_sound (P:=P) (r:=((.any,[]):Fin U El)) (k:=fun x=>if x=⟨v,nw⟩ then some ((.any,[]):Fin U El) else none) hX (by rw [hall]; simp) hT' hH hs' hfr (hG w (Fr.refl B w))
  have:out'=⟨v,nw⟩:=by
    by_cases e:out'=⟨v,nw⟩
    · exact e
    · simp [e] at ho1
  subst this
  unfold wpOp
  rw [hoi]
  simp only [hwant S ρ w a hT,if_true]
  refine .inl (ho2 K Q fun v' w' S' ρ' h1 h2 h3 h4 h5 => ?_)
  have hd':dstOf ops i=o.dst:=by simp [dstOf,hoi]
  rw [← hd']
  refine hn v' w' S' ρ' ⟨h1.fr.mono hB,h1.s1,fun b hb => ?_,h5,fun c x hr=>h1.rel hr,?_,h2⟩
  · rcases h1.s2 b hb with h | h
    · exact .inl h
    · exact .inr (hB _ h)
  · rw [hw]
    exact h1.heap hH h3 hB (fun id b hg=>hfr id (h4 id b hg))
theorem tget_shr (h:Heap U El) (wj:List Nat) (t:Tmps U El) (i:Nat):tget (tshr h wj t) i=(tget t i).shr2 h wj:=by
  induction t with
  | nil=>rfl
  | cons p t ih =>
    obtain ⟨j,v⟩:=p
    simp only [tshr,tget]
    cases Nat.beq j i<;>simp [ih]
theorem rowsAll_get {h:Heap U El} {wj:List Nat} (hr:rowsAll h wj=true):∀ id∈wj,∃ u xs,hget h id=some (.rows u xs):=fun id hid=>by
  have:=List.all_eq_true.1 hr id hid
  split at this
  · rename_i u xs e; exact ⟨u,xs,e⟩
  · cases this
theorem fact_share {ops : Array Oper} {Q : Exit → Act → World → Prop} {ws : List (Nat × Nat)} {i : Nat} {T : Nat → AV U El} {h : Heap U El} {v : AV U El} {nw : Heap U El} (hX : CtxOk P X) (hoi : ops[i]? = some o) (hdst : o.dst = some d)
    (hwant:∀ (S:Nat→Prop) (ρ:Rho) (w:World) (a:Act),(∀ x∈looksOf ops i,Rel X.E S ρ w (T x) (a.tmps.getD x undef))→Region.wanted o (yielded ops a.tmps)=true) {t:Tmps U El} (ht:∀ x,tget t x=T x)
    (hrows:rowsAll (hfil (sfOf ops ws i) h) (wsOf ws i)=true)
    (hall:∀ k:Out U El→Option (Fin U El),evalOp X o (tshr (hfil (sfOf ops ws i) h) (wsOf ws i) t) (hdels (hfil (sfOf ops ws i) h) (wsOf ws i)) d k=k ⟨v,nw⟩):OpFact P X ops Q ws i T h v nw:=by
  intro S ρ w a B H K hdef hsz hB hG hT hH hs hfr hn
  have hids:idsOf ops i=newIds o d:=by simp [idsOf,hoi,hdst]
  have hlo:looksOf ops i=Oper.looks (ops.toList.map (·.dst)) o:=by simp [looksOf,hoi]
  have hs':∀ id b,hget (hfil (sfOf ops ws i) h) id=some b→hget H id=some b:=fun id b hg=>by
    rw [hget_hfil] at hg
    split at hg
    · rename_i hsf; exact hs id b hsf hg
    · cases hg
  generalize hwj:wsOf ws i=wj at *
  generalize hh:hfil (sfOf ops ws i) h=hf at *
  have hr:=rowsAll_get hrows
  obtain ⟨S1,hS1⟩:∃ S1:Nat→Prop,S1=fun b=>S b∨∃ id,id∈wj∧∃ l,ρ id=some l∧l.n≠0∧b=l.b:=⟨_,rfl⟩
  have hsub:∀ b,S b→S1 b:=fun b hb=>by rw [hS1]; exact .inl hb
  have hH1:HRel X.E S1 ρ w B (hdels H wj):=by
    refine ⟨fun id b hg => ?_,fun m m' b b' l l' hg hg' => ?_,fun b hb => ?_⟩
    · rw [hget_hdels] at hg
      split at hg
      · cases hg
      · rename_i hnot
        obtain ⟨l,hl,hb⟩:=hH.get id b hg
        refine ⟨l,hl,hb.mono hsub (fun _ _=>rfl) (fun _ _ h=>h) fun hn=>⟨rfl,fun hin => ?_⟩⟩
        rw [hS1] at hin
        rcases hin with hin | ⟨id',hid',l',hl',hn',e⟩
        · exact (hb.lt hn).2.2 hin
        · obtain ⟨u, xs, hg'⟩ := hr id' hid'
          exact hH.inj id id' _ _ l l' hg (hs' _ _ hg') (fun e=>hnot (e ▸ hid')) hl hl' hn hn' e
    · rw [hget_hdels] at hg hg'
      split at hg
      · cases hg
      · split at hg'
        · cases hg'
        · exact hH.inj m m' b b' l l' hg hg'
    · rw [hS1] at hb
      rcases hb with hb | ⟨id',hid',l',hl',hn',rfl⟩
      · exact hH.lt b hb
      · obtain ⟨u, xs, hg'⟩ := hr id' hid'
        obtain ⟨l2,hl2,hb2⟩:=hH.get _ _ (hs' _ _ hg')
        rw [hl'] at hl2; cases hl2
        exact (hb2.lt hn').1
  have hown:∀ b,S1 b→S b∨B.own b:=fun b hb=>by
    rw [hS1] at hb
    rcases hb with hb | ⟨id',hid',l',hl',hn',rfl⟩
    · exact .inl hb
    · obtain ⟨u, xs, hg'⟩ := hr id' hid'
      obtain ⟨l2,hl2,hb2⟩:=hH.get _ _ (hs' _ _ hg')
      rw [hl'] at hl2; cases hl2
      exact .inr (hb2.lt hn').2.1
  have hrel:∀ c x,Rel X.E S ρ w c x→Rel X.E S1 ρ w c x:=fun c x hc=>hc.mono hsub (fun _ _=>rfl) (fun _ _ h=>h)
  have hshr:∀ c x,Rel X.E S ρ w c x→Rel X.E S1 ρ w (c.shr hf wj) x:=fun c x hc=>by
    unfold AV.shr
    split
    · rename_i id
      cases he:wj.elem id with
      | false=>exact hrel _ _ hc
      | true =>
        simp only [cond_true]
        have hid:id∈wj:=by simpa using he
        split
        · rename_i u xs hg
          obtain ⟨l,hl,hb⟩:=hH.get _ _ (hs' _ _ hg)
          refine (ful_lst (ρ':=ρ) hX hb hl hc).mono (fun b hb' => ?_) (fun _ _=>rfl) (fun _ _ h=>h)
          rw [hS1]
          rcases hb' with hb' | ⟨hn,rfl⟩
          · exact .inl hb'
          · exact .inr ⟨id,hid,l,hl,hn,rfl⟩
        · exact hrel _ _ hc
    · exact hrel _ _ hc
  have hshr2:∀ c x,Rel X.E S ρ w c x→Rel X.E S1 ρ w (c.shr2 hf wj) x:=fun c x hc=>by
    unfold AV.shr2
    split
    · cases hc with
      | agg cs vs hl h =>
        refine .agg _ vs (by simp [hl]) fun m c' v' hm hv => ?_
        simp only [List.getElem?_map,Option.map_eq_some_iff] at hm
        obtain ⟨c0,h1,rfl⟩:=hm
        exact hshr _ _ (h m c0 v' h1 hv)
    · exact hshr _ _ hc
  have hT':TRel X.E S1 ρ w o (tshr hf wj t) a:=fun x hx=>by
    rw [tget_shr,ht x]
    exact hshr2 _ _ (hT x (by rw [hlo]; exact looks_op hx))
  rw [hids] at hfr hn
  classical
  obtain ⟨out',ho1,ho2⟩:=evalOp_sound (P:=P) (B:=B) (H:=hdels H wj) (r:=((.any,[]):Fin U El)) (k:=fun x=>if x=⟨v,nw⟩ then some ((.any,[]):Fin U El) else none) hX (by rw [hall]; simp) hT' hH1 (fun id b hg=>by
    rw [hget_hdels] at hg ⊢
    split at hg
    · cases hg
    · rename_i hnot; rw [if_neg hnot]; exact hs' _ _ hg) hfr (hG w (Fr.refl B w))
  have:out'=⟨v,nw⟩:=by
    by_cases e:out'=⟨v,nw⟩
    · exact e
    · simp [e] at ho1
  subst this
  unfold wpOp
  rw [hoi]
  simp only [hwant S ρ w a hT,if_true]
  refine .inl (ho2 K Q fun v' w' S' ρ' h1 h2 h3 h4 h5 => ?_)
  have hd':dstOf ops i=o.dst:=by simp [dstOf,hoi]
  rw [← hd']
  refine hn v' w' S' ρ' ⟨h1.fr.mono hB,fun b hb=>h1.s1 b (hsub b hb),fun b hb => ?_,h5,fun c x hr=>h1.rel (hrel c x hr),?_,h2⟩
  · rcases h1.s2 b hb with h | h
    · exact hown b h
    · exact .inr (hB _ h)
  · exact h1.heap hH1 h3 hB (fun id b hg=>hfr id (h4 id b hg))
theorem renL_map (σ:Nat→Nat) (cs:List (AV U El)):AV.ren.renL σ cs=cs.map (AV.ren σ):=by
  induction cs with
  | nil=>rfl
  | cons c cs ih=>simp [AV.ren.renL,ih]
theorem withinL_get {ids:List Nat} {cs:List (AV U El)} (h:AV.within.withinL ids cs=true):∀ c∈cs,c.within ids=true:=by
  induction cs with
  | nil=>intro c hc; cases hc
  | cons d cs ih =>
    simp only [AV.within.withinL,Bool.and_eq_true] at h
    intro c hc
    cases hc with
    | head=>exact h.1
    | tail _ hc=>exact ih h.2 c hc
theorem Rel.ren {E:Univ U El} {c:AV U El} {v:Value} (hg:UGood P E) {σ:Nat→Nat} {ids:List Nat} (hr:Rel E S ρ w c v) (hw:c.within ids=true) (hσ:∀ j∈ids,∀ l,ρ j=some l→ρ' (σ j)=some l):Rel E S ρ' w (c.ren σ) v:=by
  have hm:∀ {j:Nat} {l:Loc},ids.elem j=true→ρ j=some l→ρ' (σ j)=some l:=fun h e=>hσ _ (by simpa using h) _ e
  have ix:∀ {cs:List (AV U El)} {i:Nat} {c':AV U El},(cs.map (AV.ren σ))[i]? = some c'→∃ c,cs[i]? = some c∧c.ren σ=c':=fun h=>by simpa [List.getElem?_map,Option.map_eq_some_iff] using h
  induction hr with
  | any v=>exact .any v
  | bool b=>exact .bool b
  | int k n=>exact .int k n
  | str s=>exact .str s
  | nilp=>exact .nilp
  | nils=>exact .nils
  | nili=>exact .nili
  | nilf=>exact .nilf
  | nilm=>exact .nilm
  | agg cs vs hl h ih =>
    show Rel E S ρ' w (.agg (AV.ren.renL σ cs)) _
    rw [renL_map]
    refine .agg _ vs (by simp [hl]) fun i c' v hc hv => ?_
    obtain ⟨c,h1,rfl⟩:=ix hc
    exact ih i c v h1 hv (withinL_get (by simpa [AV.within] using hw) c (List.mem_of_getElem? h1))
  | tup cs vs hl h ih =>
    show Rel E S ρ' w (.tup (AV.ren.renL σ cs)) _
    rw [renL_map]
    refine .tup _ vs (by simp [hl]) fun i c' v hc hv => ?_
    obtain ⟨c,h1,rfl⟩:=ix hc
    exact ih i c v h1 hv (withinL_get (by simpa [AV.within] using hw) c (List.mem_of_getElem? h1))
  | lstE u ao cap=>exact .lstE u ao cap
  | lst u xs b off cap val hb hc hcell h ih=>exact .lst u xs b off cap val hb hc hcell fun i x j c hi hj=>(h i x j c hi hj).cellρ hg (hg.cell u x c (List.mem_of_getElem? hj))
  | ful j cap l hl h1 h2=>exact .ful _ cap l (hm (by simpa [AV.within] using hw) hl) h1 h2
  | fulN j l hl h1 h2=>exact .fulN _ l (hm (by simpa [AV.within] using hw) hl) h1 h2
  | own j lo len cap l hl h1 h2 h3=>exact .own _ lo len cap l (hm (by simpa [AV.within] using hw) hl) h1 h2 h3
  | ownE j lo ao cap=>exact .ownE _ lo ao cap
  | ptr j off l hl=>exact .ptr _ off l (hm (by simpa [AV.within] using hw) hl)
  | row j i off l hl=>exact .row _ i off l (hm (by simpa [AV.within] using hw) hl)
  | mp j l hl=>exact .mp _ l (hm (by simpa [AV.within] using hw) hl)
  | fmp u v es b ents clock hb hh hn hf hk hv ihk ihv=>exact .fmp u v es b ents clock hb hh hn hf (fun i e p j c x h1 h2 h3 h4=>(hk i e p j c x h1 h2 h3 h4).cellρ hg (hg.cell u p.1 c (List.mem_of_getElem? h3))) (fun i e p j c x h1 h2 h3 h4=>(hv i e p j c x h1 h2 h3 h4).cellρ hg (hg.cell v p.2 c (List.mem_of_getElem? h3)))
  | pel u xs i off b o cap h hi ih =>
    refine .pel u xs i off b o cap ?_ hi
    exact ih rfl
  | pcs cs off b o val hb hcell h ih =>
    show Rel E S ρ' w (.pcs (AV.ren.renL σ cs) off) _
    rw [renL_map]
    refine .pcs _ off b o val (fun hn=>hb (by rintro rfl; exact hn rfl)) (fun j c' hj => ?_) fun j c' hj => ?_
    · obtain ⟨c, h1, _⟩ := ix hj
      exact hcell j c h1
    · obtain ⟨c, h1, rfl⟩ := ix hj
      exact ih j c h1 (withinL_get (by simpa [AV.within] using hw) c (List.mem_of_getElem? h1))
  | fn f fs cs vf vc hlf hlc hf hc ihf ihc =>
    show Rel E S ρ' w (.fn f (AV.ren.renL σ fs) (AV.ren.renL σ cs)) _
    rw [renL_map,renL_map]
    simp only [AV.within,Bool.and_eq_true] at hw
    refine .fn f _ _ vf vc (by simp [hlf]) (by simp [hlc]) (fun i c' v hc hv => ?_) (fun i c' v hc hv => ?_)
    · obtain ⟨c, h1, rfl⟩ := ix hc
      exact ihf i c v h1 hv (withinL_get hw.1 c (List.mem_of_getElem? h1))
    · obtain ⟨c, h1, rfl⟩ := ix hc
      exact ihc i c v h1 hv (withinL_get hw.2 c (List.mem_of_getElem? h1))
  | err t v=>exact .err t v
theorem BlkRel.ren {E:Univ U El} {B B':Bd} {l:Loc} {b:Blk U El} {σ:Nat→Nat} {ids:List Nat} {tg:Nat} (hg:UGood P E) (h:BlkRel E S ρ w B l b) (hw:b.within ids=true) (hσ:∀ j∈ids,∀ l,ρ j=some l→ρ' (σ j)=some l)
    (hown:l.n≠0→B'.own l.b) (htg:tg=0∨B'.pin tg=some l):BlkRel E S ρ' w B' l (b.ren σ tg):=by
  cases b with
  | rows u xs =>
    obtain ⟨h1,h2,h3,h4⟩:=h
    refine ⟨h1,h2,h3,fun hn => ?_⟩
    obtain ⟨h5,h6,c,hh,h7,h8⟩:=h4 hn
    exact ⟨hown hn,h6,c,hh,h7,fun i x j a hi hj=>by obtain ⟨v,hv,hr⟩:=h8 i x j a hi hj; exact ⟨v,hv,hr.cellρ hg (hg.cell u x a (List.mem_of_getElem? hj))⟩⟩
  | map u v es =>
    obtain ⟨h1,h4,h5,c0,c1,hh,h6,h7⟩:=h
    exact ⟨h1,hown (by omega),h5,c0,c1,hh,h6,fun i e p hi hj=>⟨(h7 i e p hi hj).1.cellρ hg,(h7 i e p hi hj).2.cellρ hg⟩⟩
  | amap u ks cs =>
    obtain ⟨h1,h4,h5,c0,c1,hh,h6,h7,h8⟩:=h
    refine ⟨h1,hown (by omega),h5,c0,c1,hh,h6,by simpa using h7,fun i e y c hi hj hk => ?_⟩
    simp only [List.getElem?_map,Option.map_eq_some_iff] at hk
    obtain ⟨a0,ha0,rfl⟩:=hk
    exact ⟨(h8 i e y a0 hi hj ha0).1.cellρ hg,(h8 i e y a0 hi hj ha0).2.ren hg (List.all_eq_true.1 hw a0 (List.mem_of_getElem? ha0)) hσ⟩
  | box t cs =>
    obtain ⟨h0,h1,h2⟩:=h
    refine ⟨htg,by simpa using h1,fun hn => ?_⟩
    obtain ⟨h5,h6,c,e,hh,h7,h8⟩:=h2 hn
    refine ⟨hown hn,h6,c,e,hh,h7,fun j a hj => ?_⟩
    simp only [List.getElem?_map,Option.map_eq_some_iff] at hj
    obtain ⟨a0,ha0,rfl⟩:=hj
    obtain ⟨v,hv,hr⟩:=h8 j a0 ha0
    exact ⟨v,hv,hr.ren hg (List.all_eq_true.1 hw a0 (List.mem_of_getElem? ha0)) hσ⟩
  | bld T j =>
    obtain ⟨h1,h4,h5,c0,c1,hh,h6,h7,h8⟩:=h
    exact ⟨h1,hown (by omega),h5,c0,c1,hh,h6,h7,h8.ren hg (ids:=ids) (by simpa [AV.within,Blk.within] using hw) hσ⟩
theorem upOf_get:∀ (ids:List Nat) (n j:Nat),j∈ids→∃ i,ids[i]? = some j∧upOf ids n j=n+i:=by
  intro ids
  induction ids with
  | nil=>intro n j h; cases h
  | cons i ids ih =>
    intro n j h
    simp only [upOf]
    by_cases e:i=j
    · subst e; rw [Nat.beq_refl]; exact ⟨0,rfl,rfl⟩
    · rw [nbeq_ne e]
      obtain ⟨m,h1,h2⟩:=ih (n+1) j ((List.mem_cons.1 h).resolve_left (Ne.symm e))
      exact ⟨m+1,by simpa using h1,by simp only [cond]; omega⟩
theorem fstOf_some:∀ (l:List (Nat×Nat)) (x j:Nat),fstOf l x=some j→(x,j)∈l:=by
  intro l
  induction l with
  | nil=>intro x j h; cases h
  | cons p l ih =>
    obtain ⟨id,m⟩:=p
    intro x j h
    simp only [fstOf] at h
    by_cases e:id=x
    · subst e; rw [Nat.beq_refl] at h; cases h; simp
    · rw [nbeq_ne e] at h; exact List.mem_cons_of_mem _ (ih x j h)
theorem fstOf_mem:∀ (l:List (Nat×Nat)) (x j:Nat),(l.map (·.1)).Nodup→(x,j)∈l→fstOf l x=some j:=by
  intro l
  induction l with
  | nil=>intro x j _ h; cases h
  | cons p l ih =>
    obtain ⟨id,m⟩:=p
    intro x j hn h
    simp only [List.map_cons,List.nodup_cons] at hn
    simp only [fstOf]
    by_cases e:id=x
    · subst e
      rw [Nat.beq_refl]
      rcases List.mem_cons.1 h with h | h
      · cases h; rfl
      · exact absurd (List.mem_map.2 ⟨_,h,rfl⟩) hn.1
    · rw [nbeq_ne e]
      rcases List.mem_cons.1 h with h | h
      · cases h; exact absurd rfl e
      · exact ih x j hn.2 h
theorem dnOf_mem:∀ (l:List (Nat×Nat)) (j:Nat),j∈l.map (·.2)→(dnOf l j,j)∈l:=by
  intro l
  induction l with
  | nil=>intro j h; cases h
  | cons p l ih =>
    obtain ⟨id,m⟩:=p
    intro j h
    simp only [dnOf]
    by_cases e:m=j
    · subst e; rw [Nat.beq_refl]; simp
    · rw [nbeq_ne e]
      exact List.mem_cons_of_mem _ (ih j ((List.mem_cons.1 h).resolve_left (Ne.symm e)))
theorem handed_get {h : Heap U El} {all : List Nat} : ∀ (ids : List Nat) (n : Nat) (hs : Heap U El), handed h all ids n = some hs → ∀ m b, hget hs m = some b → ∃ i id b0, ids[i]? = some id ∧ m = n + i ∧ hget h id = some b0 ∧ b0.within all = true ∧ b = b0.ren (upOf all hidBase) m := by
  intro ids
  induction ids with
  | nil=>intro n hs he m b hg; cases he; cases hg
  | cons id ids ih =>
    intro n hs he m b hg
    simp only [handed] at he
    split at he
    · rename_i b0 hb0
      split at he
      · rename_i hs' hhs'
        obtain ⟨hw,he⟩:=chk_some he
        cases he
        simp only [hget] at hg
        by_cases e:n=m
        · subst e; rw [Nat.beq_refl] at hg; cases hg; exact ⟨0,id,b0,rfl,rfl,hb0,hw,rfl⟩
        · rw [nbeq_ne e] at hg
          obtain ⟨i,id',b0',h1,h2,h3,h4,h5⟩:=ih (n+1) hs' hhs' m b hg
          exact ⟨i+1,id',b0',by simpa using h1,by omega,h3,h4,h5⟩
      · cases he
    · cases he
theorem handed_mem {h : Heap U El} {all : List Nat} : ∀ (ids : List Nat) (n : Nat) (hs : Heap U El), handed h all ids n = some hs → ∀ id ∈ ids, ∃ b, hget h id = some b := by
  intro ids
  induction ids with
  | nil=>intro n hs he id hi; cases hi
  | cons id ids ih =>
    intro n hs he id' hi
    simp only [handed] at he
    split at he
    · rename_i b0 hb0
      split at he
      · rename_i hs' hhs'
        rcases List.mem_cons.1 hi with rfl | hi
        · exact ⟨b0,hb0⟩
        · exact ih _ hs' hhs' id' hi
      · cases he
    · cases he
theorem mBlks_get {h hc : Heap U El} {pins : List Nat} {all : List (Nat × Nat)} : ∀ (l : List (Nat × Nat)) (id : Nat) (b : Blk U El), hget (mBlks h hc pins all l) id = some b → ∃ j b0, (id, j) ∈ l ∧ hget hc j = some b0 ∧ b = b0.ren (dnOf all) (bif pins.elem id then (match hget h id with | some b0 => b0.tag | none => 0) else 0) := by
  intro l
  induction l with
  | nil=>intro id b hg; cases hg
  | cons p l ih =>
    obtain ⟨i,j⟩:=p
    intro id b hg
    simp only [mBlks] at hg
    split at hg
    · rename_i b0 hb0
      simp only [hget] at hg
      by_cases e:i=id
      · subst e; rw [Nat.beq_refl] at hg; cases hg; exact ⟨j,b0,by simp,hb0,rfl⟩
      · rw [nbeq_ne e] at hg
        obtain ⟨j',b',h1,h2,h3⟩:=ih id b hg
        exact ⟨j',b',List.mem_cons_of_mem _ h1,h2,h3⟩
    · obtain ⟨j', b', h1, h2, h3⟩ := ih id b hg
      exact ⟨j',b',List.mem_cons_of_mem _ h1,h2,h3⟩
theorem fact_mcall {ops : Array Oper} {Q : Exit → Act → World → Prop} {ws : List (Nat × Nat)} {i : Nat} {T : Nat → AV U El} {h : Heap U El} {f : Operand} {as : Array Operand} {ts : Array TypeId} {ids pins : List Nat} {outs : List (Nat × Nat)} {hs hc : Heap U El} {v : AV U El} {g : FuncId} {first caps : List (AV U El)}
    (hX:CtxOk P X) (hoi:ops[i]? = some o) (ho:o.op = .call ⟨.value f,as,ts⟩) (hdst:o.dst=some d) (hw:wsOf ws i=ids)
    (hwant:∀ (S:Nat→Prop) (ρ:Rho) (w:World) (a:Act),(∀ x∈looksOf ops i,Rel X.E S ρ w (T x) (a.tmps.getD x undef))→Region.wanted o (yielded ops a.tmps)=true) {t:Tmps U El} (ht:∀ x,tget t x=T x)
    (hf:oget t f = .fn g first caps) (hcall:∀ as w,(callFunc g as).run P w = .ok (.enter g as) w) (haw:(first++as.toList.map (oget t)++caps).all (AV.within ids)=true) (hh:handed (hfil (sfOf ops ws i) h) ids ids hidBase=some hs)
    (hm:MCall P X.E g ((first++as.toList.map (oget t)++caps).map (AV.ren (upOf ids hidBase))) hs v hc) (hok:mOk hc ids outs pins v=true) (hnew:(outs.all fun p=>pins.elem p.1||(callIds d).elem p.1)=true) :
    OpFact P X ops Q ws i T h (v.ren (dnOf outs)) (mBlks (hfil (sfOf ops ws i) h) hc pins outs outs):=by
  intro S ρ w a B H K hdef hsz hB hG hT hH hs0 hfr hn
  have hlo:looksOf ops i=Oper.looks (ops.toList.map (·.dst)) o:=by simp [looksOf,hoi]
  have hids:idsOf ops i=callIds d:=by simp [idsOf,hoi,newIds,ho,hdst]
  have hd':dstOf ops i=some d:=by simp [dstOf,hoi,hdst]
  have hs':∀ id b,hget (hfil (sfOf ops ws i) h) id=some b→hget H id=some b:=fun id b hg=>by
    rw [hget_hfil] at hg
    split at hg
    · rename_i hsf; exact hs0 id b hsf hg
    · cases hg
  have hopr:∀ y∈o.op.operands,Rel X.E S ρ w (oget t y) (a.eval y):=fun y hy=>Rel.oget fun z e=>by
    subst e
    rw [ht]
    exact hT z (by rw [hlo]; exact looks_op hy)
  have hfr':=hopr f (by simp [ho,Op.operands,Call.operands])
  rw [hf] at hfr'
  generalize hqf:a.eval f=qf at hfr'
  cases hfr' with
  | fn _ _ _ vf vc hlf hlc hrf hrc =>
  have hraw:RelL X.E S ρ w (first++as.toList.map (oget t)++caps) (vf++as.map a.eval++vc):=by
    refine ⟨by simp [hlf,hlc],fun i c v hc hv => ?_⟩
    have hv':(vf.toList++as.toList.map a.eval++vc.toList)[i]? = some v:=by
      rw [← Array.getElem?_toList] at hv; simpa using hv
    rw [List.getElem?_append] at hc hv'
    split at hc
    · rename_i h1
      rw [if_pos (by simpa [hlf] using h1)] at hv'
      rw [List.getElem?_append] at hc hv'
      split at hc
      · rename_i h2
        rw [if_pos (by simpa [hlf] using h2)] at hv'
        exact hrf i c v hc (by simpa using hv')
      · rename_i h2
        rw [if_neg (by simpa [hlf] using h2)] at hv'
        simp only [List.getElem?_map,Option.map_eq_some_iff,Array.length_toList,hlf] at hc hv'
        obtain ⟨x,hx,rfl⟩:=hc
        obtain ⟨y,hy,rfl⟩:=hv'
        rw [hx] at hy; cases hy
        exact hopr x (by simp only [ho,Op.operands,Call.operands]; have:=List.mem_of_getElem? hx; simp; exact .inr (by simpa using this))
    · rename_i h1
      rw [if_neg (by simpa [hlf] using h1)] at hv'
      simp only [List.length_append,List.length_map,Array.length_toList,hlf] at hc hv'
      exact hrc _ c v hc (by simpa using hv')
  have hrun:(execOp a.eval o).run P w = .ok (.enter g (vf++as.map a.eval++vc)) w:=by
    simp [execOp,ho,resolve,Deferred.ofValue,hqf,invoke,hcall]
  simp only [mOk,Bool.and_eq_true,decide_eq_true_eq] at hok
  obtain ⟨hnd,hn1,hn2,hvw,hbw,hpin⟩:=hok
  obtain ⟨ρc,hρc⟩:∃ ρc:Rho,ρc=fun m=>if hidBase≤m then (ids[m - hidBase]?).bind ρ else none:=⟨_,rfl⟩
  have hup:∀ j∈ids,ρc (upOf ids hidBase j)=ρ j:=fun j hj=>by
    obtain ⟨i,h1,h2⟩:=upOf_get ids hidBase j hj
    rw [hρc,h2]
    simp [h1]
  have hmem:∀ id∈ids,∃ b l,hget H id=some b∧ρ id=some l∧BlkRel X.E S ρ w B l b:=fun id hid=>by
    obtain ⟨b,hb⟩:=handed_mem _ _ _ hh id hid
    obtain ⟨l,hl,hbl⟩:=hH.get id b (hs' _ _ hb)
    exact ⟨b,l,hs' _ _ hb,hl,hbl⟩
  obtain ⟨Bc,hBc⟩:∃ Bc:Bd,Bc=⟨fun k=>w.heap.size≤k∨∃ id∈ids,∃ l,ρ id=some l∧l.n≠0∧l.b=k,ρc,[]⟩:=⟨_,rfl⟩
  have hown:∀ k,Bc.own k→B.own k:=fun k hkk=>by
    rw [hBc] at hkk
    rcases hkk with h | ⟨id,hid,l,hl,hn,rfl⟩
    · exact hB k h
    · obtain ⟨b, l', _, hl', hbl⟩ := hmem id hid
      rw [hl] at hl'; cases hl'
      exact (hbl.lt hn).2.1
  have hownS:∀ k,Bc.own k→¬ S k:=fun k hkk hS=>by
    rw [hBc] at hkk
    rcases hkk with h | ⟨id,hid,l,hl,hn,rfl⟩
    · have:=hH.lt k hS; omega
    · obtain ⟨b, l', _, hl', hbl⟩ := hmem id hid
      rw [hl] at hl'; cases hl'
      exact (hbl.lt hn).2.2 hS
  have hHc:HRel X.E S ρc w Bc hs:=by
    refine ⟨fun m b hg => ?_,fun m m' b b' l l' hg hg' hne hl hl' hn hn' => ?_,hH.lt⟩
    · obtain ⟨i, id, b0, h1, rfl, h3, h4, rfl⟩ := handed_get _ _ _ hh m b hg
      obtain ⟨l,hl,hbl⟩:=hH.get id b0 (hs' _ _ h3)
      have hmem:id∈ids:=List.mem_of_getElem? h1
      have hρl:ρc (hidBase+i)=some l:=by rw [hρc]; simp [h1,hl]
      exact ⟨l,hρl,hbl.ren hX.u h4 (fun j hj l' e=>by rw [hup j hj]; exact e) (fun hn=>by rw [hBc]; exact .inr ⟨id,hmem,l,hl,hn,rfl⟩) (.inr (by rw [hBc]; exact hρl))⟩
    · obtain ⟨i, id, b0, h1, rfl, h3, _⟩ := handed_get _ _ _ hh m b hg
      obtain ⟨i',id',b0',h1',rfl,h3',_⟩:=handed_get _ _ _ hh m' b' hg'
      have e1:ρ id=some l:=by rw [hρc] at hl; simpa [h1] using hl
      have e2:ρ id'=some l':=by rw [hρc] at hl'; simpa [h1'] using hl'
      refine hH.inj id id' b0 b0' l l' (hs' _ _ h3) (hs' _ _ h3') (fun e=>hne ?_) e1 e2 hn hn'
      subst e
      obtain ⟨q1,q2⟩:=List.getElem?_eq_some_iff.1 h1
      have:=(List.getElem?_inj q1 hnd).1 (h1.trans h1'.symm)
      rw [this]
  have hrc':RelL X.E S ρc w ((first++as.toList.map (oget t)++caps).map (AV.ren (upOf ids hidBase))) (vf++as.map a.eval++vc):=by
    refine ⟨by simpa using hraw.1,fun i c v hc hv => ?_⟩
    simp only [List.getElem?_map,Option.map_eq_some_iff] at hc
    obtain ⟨c0,hc0,rfl⟩:=hc
    exact (hraw.2 i c0 v hc0 hv).ren hX.u (List.all_eq_true.1 haw c0 (List.mem_of_getElem? hc0)) fun j hj l e=>by rw [hup j hj]; exact e
  unfold wpOp
  rw [hoi]
  simp only [hwant S ρ w a hT,if_true]
  refine .inl ?_
  unfold Oper.wp
  rw [hrun]
  show Calls P g _ w _
  refine (hm Bc S ρc w _ (fun k hkk=>by rw [hBc]; exact .inl hkk) (fun w' hf=>hG w' (hf.mono hown)) hHc hrc').mono ?_
  rintro e w' ⟨v',S',ρ',rfl,hfrw,hs1,hs2,hH',hv'⟩
  show K (a.put o.dst v') w'
  obtain ⟨ρ2,hρ2⟩:∃ ρ2:Rho,ρ2=fun id=>match fstOf outs id with | some j=>ρ' j | none=>ρ id:=⟨_,rfl⟩
  have hpins:∀ id∈pins,id∈ids∧fstOf outs id=some (upOf ids hidBase id)∧∃ cs,hget hc (upOf ids hidBase id)=some (.box (upOf ids hidBase id) cs):=fun id hid=>by
    have:=List.all_eq_true.1 hpin id hid
    simp only [Bool.and_eq_true,List.elem_eq_mem,decide_eq_true_eq] at this
    obtain ⟨h1,h2⟩:=this
    split at h2
    · rename_i j hj
      simp only [Bool.and_eq_true] at h2
      obtain ⟨h3,h4⟩:=h2
      obtain rfl:=Nat.eq_of_beq_eq_true h3
      split at h4
      · rename_i t cs hb
        obtain rfl:=Nat.eq_of_beq_eq_true h4
        exact ⟨h1,hj,cs,hb⟩
      · cases h4
    · cases h2
  have hup0:∀ id∈ids,upOf ids hidBase id≠0:=fun id hid=>by
    obtain ⟨i,_,h2⟩:=upOf_get ids hidBase id hid
    rw [h2]; unfold hidBase; omega
  have hpine:∀ id∈pins,ρ' (upOf ids hidBase id)=ρ id:=fun id hid=>by
    obtain ⟨h1,h2,cs,h3⟩:=hpins id hid
    obtain ⟨l',hl',hbl⟩:=hH'.get _ _ h3
    rcases hbl.1 with h | h
    · exact absurd h (hup0 id h1)
    · rw [hBc] at h
      rw [hl',← hup id h1]
      exact h.symm
  have houts:∀ id j,fstOf outs id=some j→id∈pins∨id∈callIds d:=fun id j hj=>by
    have:=List.all_eq_true.1 hnew _ (fstOf_some _ _ _ hj)
    simpa using this
  have hρo:∀ id,id ∉ callIds d→ρ2 id=ρ id:=fun id hid=>by
    rw [hρ2]
    simp only
    split
    · rename_i j hj
      have hp:=(houts id j hj).resolve_right hid
      obtain ⟨_,h2,_⟩:=hpins id hp
      rw [hj] at h2; cases h2
      exact hpine id hp
    · rfl
  have hext:∀ id l,ρ id=some l→ρ2 id=some l:=fun id l h=>by
    by_cases hc:id∈callIds d
    · rw [hfr id (by rw [hids]; exact hc)] at h; cases h
    · rw [hρo id hc]; exact h
  have hdn:∀ j∈outs.map (·.2),∀ l,ρ' j=some l→ρ2 (dnOf outs j)=some l:=fun j hj l hl=>by
    rw [hρ2]
    simp only [fstOf_mem outs _ _ hn1 (dnOf_mem outs j hj)]
    exact hl
  have hsame:∀ b,S b→w'.heap[b]? = w.heap[b]? := fun b hb=>hfrw.block b (hH.lt b hb) fun h=>hownS b h hb
  have new:∀ id b,hget (mBlks (hfil (sfOf ops ws i) h) hc pins outs outs) id=some b→∃ j b0 l,(id,j)∈outs∧hget hc j=some b0∧ρ' j=some l∧ρ2 id=some l∧BlkRel X.E S' ρ' w' Bc l b0∧BlkRel X.E S' ρ2 w' B l b:=fun id b hg=>by
    obtain ⟨j,b0,h1,h2,rfl⟩:=mBlks_get outs id b hg
    obtain ⟨l,hl,hbl⟩:=hH'.get j b0 h2
    have hf:=fstOf_mem outs id j hn1 h1
    have hl2:ρ2 id=some l:=by rw [hρ2]; simp only [hf]; exact hl
    have hw:b0.within (outs.map (·.2))=true:=by
      have:=List.all_eq_true.1 hbw _ h1
      simp only [h2] at this
      exact this
    refine ⟨j,b0,l,h1,h2,hl,hl2,hbl,hbl.ren hX.u hw hdn (fun hn=>hown _ (hbl.lt hn).2.1) ?_⟩
    cases hp:pins.elem id with
    | false=>exact .inl rfl
    | true =>
      simp only [cond]
      have hp':id∈pins:=by simpa using hp
      obtain ⟨g1,g2,_⟩:=hpins id hp'
      rw [hf] at g2; cases g2
      obtain ⟨b1,hb1⟩:=handed_mem _ _ _ hh id g1
      obtain ⟨l1,hl1,hbl1⟩:=hH.get id b1 (hs' _ _ hb1)
      have:=hpine id hp'
      rw [hl,hl1] at this
      cases this
      rw [hb1]
      cases b1 with
      | box t cs=>exact hbl1.1
      | _=>exact .inl rfl
  have oldfree:∀ id b l,hget (hdels H ids) id=some b→ρ id=some l→l.n≠0→l.b < w.heap.size∧¬ Bc.own l.b∧¬ S' l.b:=fun id b l hg hl hn=>by
    rw [hget_hdels] at hg
    split at hg
    · cases hg
    · rename_i hni
      obtain ⟨l',hl',hbl⟩:=hH.get id b hg
      rw [hl] at hl'; cases hl'
      have hlt:=hbl.lt hn
      have hno:¬ Bc.own l.b:=fun ho=>by
        rw [hBc] at ho
        rcases ho with h | ⟨id',hid',l2,hl2,hn2,e⟩
        · have : w.heap.size ≤ l.b := h
          omega
        · obtain ⟨b2, _, hb2, _, _⟩ := hmem id' hid'
          exact hH.inj id id' b b2 l l2 hg hb2 (by rintro rfl; exact hni hid') hl hl2 hn hn2 e.symm
      exact ⟨hlt.1,hno,fun hs=>by rcases hs2 _ hs with h | h; exact hlt.2.2 h; exact hno h⟩
  rw [show o.dst=dstOf ops i from hdst.trans hd'.symm]
  refine hn v' w' S' ρ2 ⟨hfrw.mono hown,hs1,fun b hb => ?_,fun id hid=>hρo id (by rw [← hids]; exact hid),fun c x hr=>hr.mono hs1 hsame hext,?_,hv'.ren hX.u hvw hdn⟩
  · rcases hs2 b hb with h | h
    · exact .inl h
    · exact .inr (hown b h)
  · rw [hw]
    refine ⟨fun id b hg => ?_,fun m1 m2 b b' l l' hgi hgj hne hli hlj hn hn' => ?_,hH'.lt⟩
    · rw [hget_append] at hg
      split at hg
      · rename_i b' hb'
        cases hg
        obtain ⟨_,_,l,_,_,_,h1,_,h2⟩:=new id b hb'
        exact ⟨l,h1,h2⟩
      · have hg0 := hg
        rw [hget_hdels] at hg0
        split at hg0
        · cases hg0
        · obtain ⟨l, hl, hbl⟩ := hH.get id b hg0
          refine ⟨l,hext id l hl,hbl.mono hs1 hsame hext fun hn => ?_⟩
          obtain ⟨c1,c2,c3⟩:=oldfree id b l hg hl hn
          exact ⟨hfrw.block _ c1 c2,c3⟩
    · have kind : ∀ id b l, hget (mBlks (hfil (sfOf ops ws i) h) hc pins outs outs ++ hdels H ids) id = some b → ρ2 id = some l → l.n ≠ 0 → (∃ j b0, (id, j) ∈ outs ∧ hget hc j = some b0 ∧ ρ' j = some l ∧ Bc.own l.b) ∨ (∃ b0, hget H id = some b0 ∧ ρ id = some l ∧ ¬ Bc.own l.b) := fun id b l hg hl hn => by
        rw [hget_append] at hg
        split at hg
        · rename_i b' hb'
          obtain ⟨j,b0,l2,h1,h2,h3,h4,h5,_⟩:=new id b' hb'
          rw [hl] at h4; cases h4
          exact .inl ⟨j,b0,h1,h2,h3,(h5.lt hn).2.1⟩
        · have hg0 := hg
          rw [hget_hdels] at hg0
          split at hg0
          · cases hg0
          · obtain ⟨l2, hl2, _⟩ := hH.get id b hg0
            have:=hext id l2 hl2
            rw [hl] at this; cases this
            exact .inr ⟨b,hg0,hl2,(oldfree id b l hg hl2 hn).2.1⟩
      rcases kind m1 b l hgi hli hn with ⟨j1,b1,p1,p2,p3,p4⟩ | ⟨b1,p1,p2,p3⟩<;>rcases kind m2 b' l' hgj hlj hn' with ⟨j2,b2,q1,q2,q3,q4⟩ | ⟨b2,q1,q2,q3⟩
      · refine hH'.inj j1 j2 b1 b2 l l' p2 q2 (fun e => hne ?_) p3 q3 hn hn'
        subst e
        have hsnd:∀ (l:List (Nat×Nat)) (x y z:Nat),(l.map (·.2)).Nodup→(x,z)∈l→(y,z)∈l→x=y:=by
          intro l
          induction l with
          | nil=>intro x y z _ h; cases h
          | cons p l ih =>
            intro x y z hnn h1 h2
            simp only [List.map_cons,List.nodup_cons] at hnn
            rcases List.mem_cons.1 h1 with e1 | h1<;>rcases List.mem_cons.1 h2 with e2 | h2
            · rw [← e1] at e2; exact (Prod.mk.inj e2).1.symm
            · exact absurd (List.mem_map.2 ⟨_,h2,by rw [← e1]⟩) hnn.1
            · exact absurd (List.mem_map.2 ⟨_,h1,by rw [← e2]⟩) hnn.1
            · exact ih x y z hnn.2 h1 h2
        exact hsnd outs m1 m2 j1 hn2 p1 q1
      · intro e; exact q3 (e ▸ p4)
      · intro e; exact p3 (e ▸ q4)
      · exact hH.inj m1 m2 b1 b2 l l' p1 q1 hne p2 q2 hn hn'
theorem drawOps_trace {k : St U El → Option (Fin U El)} {ops : Array Oper} {Q : Exit → Act → World → Prop} {ws : List (Nat × Nat)} (hX : CtxOk P X) :
    ∀ (os:List Oper) (j:Nat) (t:Tmps U El) (h:Heap U El),ops.toList.drop j=os→j+os.length=ops.size→drawOps X (ops.toList.map (·.dst)) (fun i=>sfOf ops ws i) ws os j t h k=some r →
    ∃ v nw T Hs st',Trace P X ops Q ws j t h k r v nw T Hs st':=by
  intro os
  induction os with
  | nil =>
    intro j t h hd hj hv
    simp only [drawOps] at hv
    simp only [List.length_nil,Nat.add_zero] at hj
    subst hj
    exact ⟨fun _ => .any,fun _=>[],fun _=>tget t,fun _=>h,_,fun _=>rfl,rfl,fun i h1 h2=>by omega,fun i h1 h2=>by omega,fun i h1 h2=>by omega,fun i h1 h2=>by omega,fun i h1 h2=>by omega,fun _=>rfl,rfl,hv⟩
  | cons o os ih =>
    intro j t h hd hj hv
    have ho:ops[j]? = some o:=by
      have:(ops.toList.drop j)[0]? = some o:=by rw [hd]; rfl
      rw [List.getElem?_drop] at this
      simpa using this
    have hd':ops.toList.drop (j+1)=os:=by rw [← List.drop_drop,hd]; rfl
    have hj':j+1+os.length=ops.size:=by simp only [List.length_cons] at hj; omega
    have hdst:dstOf ops j=o.dst:=by simp [dstOf,ho]
    have hids:idsOf ops j=newIds o (o.dst.getD 999):=by simp [idsOf,ho]
    have hlooks:looksOf ops j=Oper.looks (ops.toList.map (·.dst)) o:=by simp [looksOf,ho]
    have join:∀ (t1:Tmps U El) (h1:Heap U El) (av:AV U El) (nwj:Heap U El),(∀ x,tget t1 x=if dstOf ops j=some x then av else tget t x)→(∀ id,(id∈wsOf ws j∨hget nwj id≠none)→hget h1 id=hget nwj id)→(∀ id,¬ (id∈wsOf ws j∨hget nwj id≠none)→hget h1 id=hget h id) →
        (∀ id,hget nwj id≠none→id∈idsOf ops j∨id∈wsOf ws j)→OpFact P X ops Q ws j (tget t) h av nwj →
        drawOps X (ops.toList.map (·.dst)) (fun i=>sfOf ops ws i) ws os (j+1) t1 h1 k=some r→∃ v nw T Hs st',Trace P X ops Q ws j t h k r v nw T Hs st':=by
      intro t1 h1 av nwj ht1 hh1 hh2 hkeys hfact hv'
      obtain ⟨v,nw,T,Hs,st',htr⟩:=ih (j+1) _ _ hd' hj' hv'
      refine ⟨fun i=>if i=j then av else v i,fun i=>if i=j then nwj else nw i,fun i=>if i=j then tget t else T i,fun i=>if i=j then h else Hs i,st',?_⟩
      refine ⟨fun x=>by simp,by simp,fun i g1 g2 x => ?_,fun i g1 g2 id => ?_,fun i g1 g2 id => ?_,fun i g1 g2 id => ?_,fun i g1 g2 => ?_,fun x => ?_,?_,htr.endK⟩
      · by_cases e1 : i = j
        · subst e1
          rw [if_neg (by omega)]
          simp only [if_true]
          rw [htr.T0]
          exact ht1 x
        · rw [if_neg (by omega), if_neg e1, if_neg e1]
          exact htr.stepT i (by omega) g2 x
      · by_cases e1 : i = j
        · subst e1
          have e2:¬ (i+1=i):=by omega
          simp only [if_neg e2,if_true]
          rw [htr.H0]
          exact hh1 id
        · have e2 : ¬ (i + 1 = j) := by omega
          simp only [if_neg e1,if_neg e2]
          exact htr.stepH1 i (by omega) g2 id
      · by_cases e1 : i = j
        · subst e1
          have e2:¬ (i+1=i):=by omega
          simp only [if_neg e2,if_true]
          rw [htr.H0]
          exact hh2 id
        · have e2 : ¬ (i + 1 = j) := by omega
          simp only [if_neg e1,if_neg e2]
          exact htr.stepH2 i (by omega) g2 id
      · by_cases e1 : i = j
        · subst e1; simp only [if_true]; exact hkeys id
        · simp only [if_neg e1]; exact htr.keys i (by omega) g2 id
      · by_cases e1 : i = j
        · subst e1; simp only [if_true]; exact hfact
        · simp only [if_neg e1]; exact htr.fact i (by omega) g2
      · rw [if_neg (by simp only [List.length_cons] at hj; omega)]; exact htr.endT x
      · rw [if_neg (by simp only [List.length_cons] at hj; omega)]; exact htr.endH
    simp only [drawOps] at hv
    have hput:∀ (t1:Tmps U El) (e:Nat) (av:AV U El),o.dst=some e→(∀ x,tget t1 x=tget t x)→∀ x,tget ((e,av) :: t1) x=if dstOf ops j=some x then av else tget t x:=fun t1 e av he ht1 x=>by
      rw [hdst,he]
      simp only [tget,Option.some.injEq]
      by_cases e2:e=x
      · rw [if_pos e2,e2,Nat.beq_refl]; rfl
      · rw [if_neg e2,nbeq_ne e2]; exact ht1 x
    have doit : ∀ (t1 : Tmps U El), (∀ x, tget t1 x = tget t x) → (∀ (S : Nat → Prop) (ρ : Rho) (w : World) (a : Act), (∀ x ∈ looksOf ops j, Rel X.E S ρ w (tget t x) (a.tmps.getD x undef)) → Region.wanted o (yielded ops a.tmps) = true) →
        withTest o t1 (fun t'=>drawOp X o (sfOf ops ws j) (wsOf ws j) t' h fun t2 h2=>drawOps X (ops.toList.map (·.dst)) (fun i=>sfOf ops ws i) ws os (j+1) t2 h2 k)=some r→∃ v nw T Hs st',Trace P X ops Q ws j t h k r v nw T Hs st':=by
      intro t1 ht1 hwant hw
      obtain ⟨t',hk,hor⟩:=withTest_some hw
      have ht':∀ x,tget t' x=tget t x:=by
        rcases hor with rfl | ⟨g,b,hg,rfl⟩
        · exact ht1
        · exact fun x=>(refineT hg x).trans (ht1 x)
      unfold drawOp at hk
      split at hk
      · rename_i ty p v hop
        split at hk
        · rename_i id hwj hod
          obtain ⟨hnm,hk1⟩:=chk_some hk
          obtain ⟨b,old,g1,g2,g3⟩:=storeOp_one hnm hk1
          have g1':=g1
          rw [hget_hfil] at g1
          split at g1
          · rename_i hsf
            rw [hget_set,if_pos rfl,g1'] at g2
            simp only [Option.map_some] at g2
            refine join t' _ .any [(id,b)] (fun x => ?_) (fun id' hor => ?_) (fun id' hor => ?_) (fun id' hne => ?_) (fact_store hX ho hop hod hwj hwant ht' hsf g1 g3) g2
            · rw [hdst,hod]; simpa using ht' x
            · rw [hwj] at hor
              simp only [hget,List.mem_singleton] at hor ⊢
              by_cases e:id=id'
              · subst e; rw [Nat.beq_refl]; rfl
              · rw [nbeq_ne e] at hor ⊢
                simp only [cond] at hor
                rcases hor with h | h
                · exact absurd h.symm e
                · exact absurd rfl h
            · rw [hwj] at hor
              simp only [hget,List.mem_singleton,not_or] at hor ⊢
              rw [nbeq_ne (Ne.symm hor.1)]
              simp only [cond,hget_del,if_neg hor.1]
            · right
              rw [hwj]
              simp only [hget] at hne
              by_cases e:id=id'
              · simp [e]
              · rw [nbeq_ne e] at hne; exact absurd rfl hne
          · cases g1
        · cases hk
      · rename_i ty m ix x hop
        split at hk
        · rename_i id hwj hod
          obtain ⟨hnm,hk1⟩:=chk_some hk
          obtain ⟨b,old,g1,g2,g3⟩:=mupdOp_one hnm hk1
          have g1':=g1
          rw [hget_hfil] at g1
          split at g1
          · rename_i hsf
            rw [hget_set,if_pos rfl,g1'] at g2
            simp only [Option.map_some] at g2
            refine join t' _ .any [(id,b)] (fun x => ?_) (fun id' hor => ?_) (fun id' hor => ?_) (fun id' hne => ?_) (fact_mupd hX ho hop hod hwj hwant ht' hsf g1 g3) g2
            · rw [hdst,hod]; simpa using ht' x
            · rw [hwj] at hor
              simp only [hget,List.mem_singleton] at hor ⊢
              by_cases e:id=id'
              · subst e; rw [Nat.beq_refl]; rfl
              · rw [nbeq_ne e] at hor ⊢
                simp only [cond] at hor
                rcases hor with h | h
                · exact absurd h.symm e
                · exact absurd rfl h
            · rw [hwj] at hor
              simp only [hget,List.mem_singleton,not_or] at hor ⊢
              rw [nbeq_ne (Ne.symm hor.1)]
              simp only [cond,hget_del,if_neg hor.1]
            · right
              rw [hwj]
              simp only [hget] at hne
              by_cases e:id=id'
              · simp [e]
              · rw [nbeq_ne e] at hne; exact absurd rfl hne
          · cases g1
        · cases hk
      · rename_i as ts hop
        split at hk
        · rename_i s x ty ty' d has hts hod
          split at hk
          · rename_i u htd
            split at hk
            · rename_i xs sid ys hxs hys
              obtain ⟨hck,hk1⟩:=chk_some hk
              simp only [Bool.and_eq_true,decide_eq_true_eq,nle] at hck
              obtain ⟨hfr,⟨⟨hty,hwj⟩,hb⟩,hm⟩:=hck
              obtain rfl:=Nat.eq_of_beq_eq_true hty
              have ha:as=#[s,x]:=by apply Array.ext'; simpa using has
              have hts':ts=#[ty,ty]:=by apply Array.ext'; simpa using hts
              subst ha hts'
              refine join _ _ (.ful d) [(d,.rows u (xs++ys))] (hput t' d _ hod ht') (fun id' hor => ?_) (fun id' hor => ?_) (fun id' hne => ?_) (fact_append hX ho hop hod hwj hwant ht' htd hfr hxs hys hb hm) hk1
              · simp only [hget]
                by_cases e:d=id'
                · subst e; rw [Nat.beq_refl]; rfl
                · rw [nbeq_ne e]
                  simp only [hget,nbeq_ne e,cond] at hor
                  simp only [cond]
                  rcases hor with h | h
                  · rw [hget_hdels,if_pos h]
                  · exact absurd rfl h
              · simp only [hget, not_or] at hor ⊢
                by_cases e:d=id'
                · subst e; rw [Nat.beq_refl] at hor; exact absurd (by simp) hor.2
                · rw [nbeq_ne e]
                  simp only [cond]
                  rw [hget_hdels,if_neg hor.1]
              · left
                rw [hids,hod]
                simp only [newIds,hop,Option.getD_some,List.mem_singleton]
                simp only [hget] at hne
                by_cases e:d=id'
                · exact e.symm
                · rw [nbeq_ne e] at hne; exact absurd rfl hne
            · cases hk
          · cases hk
        · cases hk
      · split at hk
        · rename_i d hwj hod
          obtain ⟨out,hk',hall⟩:=(evalOp_det (X:=X) (o:=o) (t:=t') (h:=hfil (sfOf ops ws j) h) (d:=d) (fun f vs=>by obtain ⟨oo,h⟩:=hX.det f vs; exact ⟨oo,fun k=>h (fun r e=>k (r,e))⟩)).k hk
          obtain ⟨hck,hk1⟩:=chk_some hk'
          refine join _ _ out.v out.new (hput t' d _ hod ht') (fun id' hor => ?_) (fun id' hor => ?_) (fun id' hne => ?_) (fact_eval hX ho hod hwj hwant ht' hall) hk1
          · rw [hwj] at hor
            have hne:=hor.resolve_left (by simp)
            rw [hget_append]
            cases he:hget out.new id' with
            | some b=>rfl
            | none=>exact absurd he hne
          · rw [hget_append]
            cases he:hget out.new id' with
            | some b=>exact absurd (.inr (by rw [he]; simp)) hor
            | none=>rfl
          · left
            rw [hids,hod]
            simp only [Option.getD_some]
            have key:∀ (l:Heap U El),(l.all fun p=>(newIds o d).contains p.1)=true→hget l id'≠none→id'∈newIds o d:=by
              intro l
              induction l with
              | nil=>intro _ h; exact absurd rfl h
              | cons p l ih =>
                intro h1 h2
                obtain ⟨q,b⟩:=p
                simp only [List.all_cons,Bool.and_eq_true] at h1
                simp only [hget] at h2
                by_cases e:q=id'
                · subst e; simpa [List.contains_eq_mem] using h1.1
                · rw [nbeq_ne e] at h2; exact ih h1.2 h2
            exact key _ hck hne
        · rename_i i0 wj' d hwj hod
          split at hk
          · rename_i f as ts hop
            unfold dcallOp at hk
            split at hk
            · rename_i g first caps hfe
              split at hk
              · rename_i sp hsp
                split at hk
                · rename_i hs hh
                  obtain ⟨⟨hcall,hspec⟩,_⟩:=hX.dsp g sp hsp
                  obtain ⟨v,hc,hm,hk1⟩:=hspec _ _ _ _ hk
                  obtain ⟨hck,hk2⟩:=chk_some hk1
                  simp only [Bool.and_eq_true,decide_eq_true_eq] at hck
                  obtain ⟨hids',haw,hok,hnew⟩:=hck
                  rw [← hids'] at hh hm
                  refine join _ _ (v.ren (dnOf (outsD (wsOf ws j) d (pinsOf (wsOf ws j) hc) hc 0))) _ (hput t' d _ hod ht') (fun id' hor => ?_) (fun id' hor => ?_) (fun id' hne => ?_) (fact_mcall hX ho hop hod rfl hwant ht' hfe hcall haw hh hm hok hnew) hk2
                  · rw [hget_append]
                    cases he:hget (mBlks (hfil (sfOf ops ws j) h) hc (pinsOf (wsOf ws j) hc) (outsD (wsOf ws j) d (pinsOf (wsOf ws j) hc) hc 0) (outsD (wsOf ws j) d (pinsOf (wsOf ws j) hc) hc 0)) id' with
                    | some b=>rfl
                    | none =>
                      rcases hor with h | h
                      · simp only; rw [hget_hdels,if_pos h]
                      · exact absurd he h
                  · simp only [not_or] at hor
                    rw [hget_append]
                    cases he:hget (mBlks (hfil (sfOf ops ws j) h) hc (pinsOf (wsOf ws j) hc) (outsD (wsOf ws j) d (pinsOf (wsOf ws j) hc) hc 0) (outsD (wsOf ws j) d (pinsOf (wsOf ws j) hc) hc 0)) id' with
                    | some b=>exact absurd (by rw [he]; simp) hor.2
                    | none=>simp only; rw [hget_hdels,if_neg hor.1]
                  · cases he : hget (mBlks (hfil (sfOf ops ws j) h) hc (pinsOf (wsOf ws j) hc) (outsD (wsOf ws j) d (pinsOf (wsOf ws j) hc) hc 0) (outsD (wsOf ws j) d (pinsOf (wsOf ws j) hc) hc 0)) id' with
                    | none=>exact absurd he hne
                    | some b =>
                      obtain ⟨jj,b0,g1,_⟩:=mBlks_get _ _ _ he
                      have:=List.all_eq_true.1 hnew _ g1
                      simp only [Bool.or_eq_true,List.elem_eq_mem,decide_eq_true_eq] at this
                      rcases this with h | h
                      · right
                        simp only [mOk,Bool.and_eq_true,decide_eq_true_eq] at hok
                        have:=List.all_eq_true.1 hok.2.2.2.2.2 _ h
                        simp only [Bool.and_eq_true,List.elem_eq_mem,decide_eq_true_eq] at this
                        exact this.1
                      · left
                        rw [hids,hod]
                        simpa [newIds,hop] using h
                · cases hk
              · cases hk
            · cases hk
          · rename_i ty n ps hop
            obtain ⟨hrw,hk0⟩:=chk_some hk
            obtain ⟨out,hk',hall⟩:=(evalOp_det (X:=X) (o:=o) (t:=tshr (hfil (sfOf ops ws j) h) (wsOf ws j) t') (h:=hdels (hfil (sfOf ops ws j) h) (wsOf ws j)) (d:=d) (fun f vs=>by obtain ⟨oo,h⟩:=hX.det f vs; exact ⟨oo,fun k=>h (fun r e=>k (r,e))⟩)).k hk0
            obtain ⟨hck,hk1⟩:=chk_some hk'
            refine join _ _ out.v out.new (hput t' d _ hod ht') (fun id' hor => ?_) (fun id' hor => ?_) (fun id' hne => ?_) (fact_share hX ho hod hwant ht' hrw hall) hk1
            · rw [hget_append]
              cases he:hget out.new id' with
              | some b=>rfl
              | none =>
                rcases hor with h | h
                · simp only; rw [hget_hdels,if_pos h]
                · exact absurd he h
            · simp only [not_or] at hor
              rw [hget_append]
              cases he:hget out.new id' with
              | some b=>exact absurd (by rw [he]; simp) hor.2
              | none=>simp only; rw [hget_hdels,if_neg hor.1]
            · left
              rw [hids,hod]
              simp only [Option.getD_some]
              have key:∀ (l:Heap U El),(l.all fun p=>(newIds o d).contains p.1)=true→hget l id'≠none→id'∈newIds o d:=by
                intro l
                induction l with
                | nil=>intro _ h; exact absurd rfl h
                | cons p l ih =>
                  intro h1 h2
                  obtain ⟨q,b⟩:=p
                  simp only [List.all_cons,Bool.and_eq_true] at h1
                  simp only [hget] at h2
                  by_cases e:q=id'
                  · subst e; simpa [List.contains_eq_mem] using h1.1
                  · rw [nbeq_ne e] at h2; exact ih h1.2 h2
              exact key _ hck hne
          · cases hk
        · cases hk
    unfold guardOf at hv
    cases hgd:o.guard with
    | none =>
      rw [hgd] at hv
      simp only at hv
      exact doit t (fun _=>rfl) (fun _ _ _ _ _=>by simp [Region.wanted,hgd]) hv
    | some jw =>
      obtain ⟨gj,want⟩:=jw
      rw [hgd] at hv
      simp only at hv
      split at hv
      · rename_i h; cases h
      · rename_i g want' heq
        simp only [Option.some.injEq,Prod.mk.injEq] at heq
        obtain ⟨hdg,rfl⟩:=heq
        have skip : ∀ (t1 : Tmps U El), (∀ x, tget t1 x = tget t x) → (∀ (S : Nat → Prop) (ρ : Rho) (w : World) (a : Act), (∀ x ∈ looksOf ops j, Rel X.E S ρ w (tget t x) (a.tmps.getD x undef)) → Region.wanted o (yielded ops a.tmps) = false) →
            (match o.dst,wsOf ws j with | some d,[]=>drawOps X (ops.toList.map (·.dst)) (fun i=>sfOf ops ws i) ws os (j+1) ((d,.tup []) :: t1) h k | some d,id :: wj=>drawOps X (ops.toList.map (·.dst)) (fun i=>sfOf ops ws i) ws os (j+1) ((d,.tup []) :: t1) (hfil (fun i=>sfOf ops ws j i&&(id :: wj).elem i) h++hdels h (id :: wj)) k | none,_=>none)=some r→∃ v nw T Hs st',Trace P X ops Q ws j t h k r v nw T Hs st':=by
          intro t1 ht1 hwant hv'
          split at hv'
          · rename_i e hod hwj
            refine join _ h (.tup []) [] (hput t1 e _ hod ht1) (fun id' hor => ?_) (fun _ _=>rfl) (fun id' hne=>absurd rfl hne) ?_ hv'
            · rw [hwj] at hor
              rcases hor with h | h
              · cases h
              · exact absurd rfl h
            · intro S ρ w a B H K hdef hsz hB hG hT hH hs hfr hn
              unfold wpOp
              rw [ho]
              simp only [hwant S ρ w a hT,Bool.false_eq_true,if_false]
              have:=hn undef w S ρ ⟨Fr.refl B w,fun _ h=>h,fun _ h => .inl h,fun _ _=>rfl,fun _ _ h=>h,by rw [hwj]; exact hH,undef_rel⟩
              rw [hdst] at this
              exact this
          · rename_i e id0 wj0 hod hwj
            have hfl:∀ i b,hget (hfil (fun i=>sfOf ops ws j i&&(id0 :: wj0).elem i) h) i=some b→sfOf ops ws j i=true∧i∈wsOf ws j∧hget h i=some b:=fun i b hg=>by
              rw [hget_hfil] at hg
              split at hg
              · rename_i hc
                simp only [Bool.and_eq_true,List.elem_eq_mem,decide_eq_true_eq] at hc
                exact ⟨hc.1,by rw [hwj]; exact hc.2,hg⟩
              · cases hg
            refine join _ (hfil (fun i=>sfOf ops ws j i&&(id0 :: wj0).elem i) h++hdels h (id0 :: wj0)) (.tup []) (hfil (fun i=>sfOf ops ws j i&&(id0 :: wj0).elem i) h) (hput t1 e _ hod ht1) (fun id' hor => ?_) (fun id' hor => ?_) (fun id' hne => ?_) ?_ hv'
            · rw [hget_append]
              cases he:hget (hfil (fun i=>sfOf ops ws j i&&(id0 :: wj0).elem i) h) id' with
              | some b=>rfl
              | none =>
                rcases hor with h | h
                · simp only; rw [hget_hdels,if_pos (by rw [hwj] at h; exact h)]
                · exact absurd he h
            · simp only [not_or] at hor
              rw [hget_append]
              cases he:hget (hfil (fun i=>sfOf ops ws j i&&(id0 :: wj0).elem i) h) id' with
              | some b=>exact absurd (by rw [he]; simp) hor.2
              | none=>simp only; rw [hget_hdels,if_neg (by rw [← hwj]; exact hor.1)]
            · right
              cases he:hget (hfil (fun i=>sfOf ops ws j i&&(id0 :: wj0).elem i) h) id' with
              | none=>exact absurd he hne
              | some b=>exact (hfl _ _ he).2.1
            · intro S ρ w a B H K hdef hsz hB hG hT hH hs hfr hn
              unfold wpOp
              rw [ho]
              simp only [hwant S ρ w a hT,Bool.false_eq_true,if_false]
              have sub:∀ i b,hget (hfil (fun i=>sfOf ops ws j i&&(id0 :: wj0).elem i) h++hdels H (wsOf ws j)) i=some b→hget H i=some b:=fun i b hg=>by
                rw [hget_append] at hg
                cases he:hget (hfil (fun i=>sfOf ops ws j i&&(id0 :: wj0).elem i) h) i with
                | some b' =>
                  rw [he] at hg
                  cases hg
                  exact hs i _ (hfl _ _ he).1 (hfl _ _ he).2.2
                | none =>
                  rw [he] at hg
                  simp only at hg
                  rw [hget_hdels] at hg
                  split at hg
                  · cases hg
                  · exact hg
              have:=hn undef w S ρ ⟨Fr.refl B w,fun _ h=>h,fun _ h => .inl h,fun _ _=>rfl,fun _ _ h=>h,⟨fun i b hg=>hH.get i b (sub i b hg),fun i i' b b' l l' hi hi'=>hH.inj i i' b b' l l' (sub i b hi) (sub i' b' hi'),hH.lt⟩,undef_rel⟩
              rw [hdst] at this
              exact this
          · cases hv'
        rcases gbranch_some hv with ⟨b,hb,hv'⟩ | ⟨hb,hv'⟩
        · have hwb : ∀ (S : Nat → Prop) (ρ : Rho) (w : World) (a : Act), (∀ x ∈ looksOf ops j, Rel X.E S ρ w (tget t x) (a.tmps.getD x undef)) → Region.wanted o (yielded ops a.tmps) = (!(Bool.xor b want)) := fun S ρ w a hT => by
            have:=hT g (by rw [hlooks]; exact looks_guard hgd hdg)
            rw [hb] at this
            generalize hq:a.tmps.getD g undef=q at this
            cases this
            exact guard_some hgd hdg hq
          cases hx:Bool.xor b want with
          | true =>
            rw [hx] at hv'
            simp only [cond] at hv'
            exact skip _ (refineT hb) (fun S ρ w a hT=>by rw [hwb S ρ w a hT,hx]; rfl) hv'
          | false =>
            rw [hx] at hv'
            simp only [cond] at hv'
            exact doit _ (refineT hb) (fun S ρ w a hT=>by rw [hwb S ρ w a hT,hx]; rfl) hv'
        · have hx : Bool.xor (!want) want = true := by cases want <;> rfl
          rw [hx] at hv'
          simp only [cond] at hv'
          refine skip t (fun _=>rfl) (fun S ρ w a hT => ?_) hv'
          have:=hT g (by rw [hlooks]; exact looks_guard hgd hdg)
          rw [hb] at this
          exact guard_undef hgd hdg (rel_undef this)
      · cases hv
end
end Go.Proofs.Ytkeplmpcijigaaa
