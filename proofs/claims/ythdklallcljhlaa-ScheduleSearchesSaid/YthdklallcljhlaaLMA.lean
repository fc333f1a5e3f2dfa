/- A region that draws its gJ: whatever gJ is drawn, the outcome is the one that the abstract run has in the gJ of the text. -/
import Derived.Test.YthdklallcljhlaaLL0
namespace Go.Proofs.Ythdklallcljhlaa
set_option linter.unusedVariables false
set_option linter.unusedSectionVars false
set_option linter.unusedSimpArgs false
open Go.RowKit
section
variable {U:Type} {El:U→Type} {P:Program} {X:Ctx U El} {S S0:Nat→Prop} {ρ ρ':Rho} {w w0:World} [DecidableEq U]
variable {o:Oper} {a:Act} {st:St U El} {B:Bd} {d:Nat} {r:Fin U El}
def bf (ops:Array Oper) (i:Nat):Option Nat:=(ops[i]?).bind (·.dst)
def bO (ops:Array Oper) (i:Nat):List Nat:=match ops[i]? with | some o=>aJ o (o.dst.getD 999) | none=>[]
def aI (ops:Array Oper) (i:Nat):List Nat:=match ops[i]? with | some o=>Oper.looks (ops.toList.map (·.dst)) o | none=>[]
abbrev bI (ops:Array Oper) (ws:List (Nat×Nat)) (i:Nat):Nat→Bool:=nz (eK ops.toList []) (eP ops.toList ws) i
theorem cP (p:Nat→Bool) (h:ar U El) (id:Nat):af (bt p h) id=if p id=true then af h id else none:=by
  induction h with
  | nil=>simp [bt,af]
  | cons q h ih =>
    obtain ⟨j,b⟩:=q
    simp only [bt]
    cases hp:p j with
    | true =>
      simp only [cond,af,ih]
      by_cases e:j=id
      · subst e; rw [Nat.beq_refl]; simp [hp]
      · rw [ai e]
    | false =>
      simp only [cond,af,ih]
      by_cases e:j=id
      · subst e; simp [hp]
      · rw [ai e]
theorem aY (ids:List Nat):∀ (h:ar U El) (id:Nat),af (bq h ids) id=if id∈ids then none else af h id:=by
  induction ids with
  | nil=>intro h id; simp [bq]
  | cons i ids ih =>
    intro h id
    simp only [bq,ih,cb,List.mem_cons]
    by_cases e:id=i
    · subst e; simp
    · simp [e]
theorem HRel.congr {E:Univ U El} {H H':ar U El} (h:HRel E S ρ w B H) (he:∀ id,af H' id=af H id):HRel E S ρ w B H' :=
  ⟨fun id b hg=>h.get id b (by rw [← he]; exact hg),fun i j b b' l l' hi hj=>h.inj i j b b' l l' (by rw [← he]; exact hi) (by rw [← he]; exact hj),h.lt⟩
structure OpRes (X:Ctx U El) (B:Bd) (S:Nat→Prop) (ρ:Rho) (w:World) (S':Nat→Prop) (ρ':Rho) (w':World) (ids wi:List Nat) (H nw:ar U El) (v:AV U El) (v':Value):Prop where
  below:Fr B w w'
  s1:∀ b,S b→S' b
  s2:∀ b,S' b→S b∨B.own b
  rho:∀ id,id ∉ ids→ρ' id=ρ id
  rel:∀ c x,Rel X.E S ρ w c x→Rel X.E S' ρ' w' c x
  heap:HRel X.E S' ρ' w' B (nw++bq H wi)
  val:Rel X.E S' ρ' w' v v'
def fb (P : Program) (X : Ctx U El) (ops : Array Oper) (Q : Exit → Act → World → Prop) (ws : List (Nat × Nat)) (i : Nat) (T : Nat → AV U El) (h : ar U El) (v : AV U El) (nw : ar U El) : Prop :=
  ∀ (S : Nat → Prop) (ρ : Rho) (w : World) (a : Act) (B : Bd) (H : ar U El) (K : Act → World → Prop), a.defers = B.df → a.tmps.size = X.nt → (∀ k, w.heap.size ≤ k → B.own k) → (∀ w', Fr B w w' → X.E.G w') →
    (∀ x∈aI ops i,Rel X.E S ρ w (T x) (a.tmps.getD x undef))→HRel X.E S ρ w B H→(∀ id b,bI ops ws i id=true→af h id=some b→af H id=some b)→(∀ id∈bO ops i,ρ id=none) →
    (∀ v' w' S' ρ',OpRes X B S ρ w S' ρ' w' (bO ops i) (bu ws i) H nw v v'→K (a.put (bf ops i) v') w') →
    wpOp P ops Q i K a w
theorem d8 {ops:Array Oper} {o:Oper} {x:Nat} (h:Operand.tmp x∈o.op.operands):x∈Oper.looks (ops.toList.map (·.dst)) o:=by
  unfold Oper.looks
  refine List.mem_append_left _ (List.mem_filterMap.2 ⟨.tmp x,by simpa using h,rfl⟩)
theorem ip {ops:Array Oper} {o:Oper} {j g:Nat} {want:Bool} (hg:o.guard=some (j,want)) (hd:(match (ops.toList.map (·.dst))[j]? with | some d=>d | none=>none)=some g):g∈Oper.looks (ops.toList.map (·.dst)) o:=by
  unfold Oper.looks
  refine List.mem_append_right _ ?_
  rw [hg]
  simp only
  split at hd
  · rename_i e; rw [e,hd]; simp
  · cases hd
structure Trace (P:Program) (X:Ctx U El) (ops:Array Oper) (Q:Exit→Act→World→Prop) (ws:List (Nat×Nat)) (j:Nat) (t:aV U El) (h:ar U El) (k:St U El→Option (Fin U El)) (r:Fin U El)
    (v:Nat→AV U El) (nw:Nat→ar U El) (T:Nat→Nat→AV U El) (Hs:Nat→ar U El) (st':St U El):Prop where
  T0:∀ x,T j x=aF t x
  H0:Hs j=h
  stepT:∀ i,j≤i→i < ops.size→∀ x,T (i+1) x=if bf ops i=some x then v i else T i x
  stepH1:∀ i,j≤i→i < ops.size→∀ id,(id∈bu ws i∨af (nw i) id≠none)→af (Hs (i+1)) id=af (nw i) id
  stepH2:∀ i,j≤i→i < ops.size→∀ id,¬ (id∈bu ws i∨af (nw i) id≠none)→af (Hs (i+1)) id=af (Hs i) id
  keys:∀ i,j≤i→i < ops.size→∀ id,af (nw i) id≠none→id∈bO ops i∨id∈bu ws i
  fact:∀ i,j≤i→i < ops.size→fb P X ops Q ws i (T i) (Hs i) (v i) (nw i)
  endT:∀ x,aF st'.t x=T ops.size x
  endH:st'.h=Hs ops.size
  endK:k st'=some r
theorem kR {t:aV U El} {g:Nat} {b:Bool} (hg:aF t g = .bool b) (x:Nat):aF ((g,.bool b) :: t) x=aF t x:=by
  simp only [aF]
  by_cases e:g=x
  · subst e; rw [Nat.beq_refl,hg]; rfl
  · rw [ai e]; rfl
theorem lQ {h H:ar U El} {u:U} {x:AV U El} {ys:List (El u)} (hs:∀ id b,af h id=some b→af H id=some b) (hy:ek h u x=some ys):ek H u x=some ys:=by
  cases x<;>simp only [ek] at hy ⊢ <;> try exact hy
  · split at hy
    · rename_i hg; rw [hs _ _ hg]; exact hy
    · cases hy
  · split at hy
    · rename_i hg; rw [hs _ _ hg]; exact hy
    · cases hy
theorem lR {h H:ar U El} {u:U} {x:AV U El} {q:List (El u)×Option Nat} (hs:∀ id b,af h id=some b→af H id=some b) (hy:eN h u x=some q):eN H u x=some q:=by
  cases x<;>simp only [eN] at hy ⊢ <;> try exact hy
  split at hy
  · rename_i hg; rw [hs _ _ hg]; exact hy
  · cases hy
theorem gw (l:List Nat) (T:Nat→AV U El) (x:Nat):aF (l.map fun y=>(y,T y)) x=if x∈l then T x else .any:=by
  induction l with
  | nil=>simp [aF]
  | cons y l ih =>
    simp only [List.map_cons,aF,ih]
    by_cases e:y=x
    · subst e; rw [Nat.beq_refl]; simp
    · rw [ai e]
      simp [Ne.symm e]
theorem mY {ops:Array Oper} {Q:Exit→Act→World→Prop} {ws:List (Nat×Nat)} {i:Nat} {T:Nat→AV U El} {h:ar U El} {ty:TypeId} {p v:Operand} {id:Nat} {b old:Blk U El} (hX:CtxOk P X) (hoi:ops[i]? = some o) (ho:o.op = .store ty p v) (hdst:o.dst=none) (hw:bu ws i=[id])
    (hwant:∀ (S:Nat→Prop) (ρ:Rho) (w:World) (a:Act),(∀ x∈aI ops i,Rel X.E S ρ w (T x) (a.tmps.getD x undef))→Region.wanted o (yielded ops a.tmps)=true) {t:aV U El} (ht:∀ x,aF t x=T x)
    (hsf:bI ops ws i id=true) (hold:af h id=some old)
    (hall:∀ (aA:St U El) (k2:St U El→Option (Fin U El)),af aA.h id=some old→co X ty (oget t p) (oget t v) aA k2=k2 ⟨aA.t,br aA.h id b⟩) :
    fb P X ops Q ws i T h .any [(id,b)]:=by
  intro S ρ w a B H K hdef hsz hB hG hT hH hs hfr hn
  have hlo:aI ops i=Oper.looks (ops.toList.map (·.dst)) o:=by simp [aI,hoi]
  have hd:bf ops i=none:=by simp [bf,hoi,hdst]
  have htl:∀ x:Operand,x∈o.op.operands→oget ((aI ops i).map fun y=>(y,T y)) x=oget t x:=fun x hx=>by
    cases x with
    | tmp y =>
      show aF _ y=aF t y
      rw [gw,if_pos (by rw [hlo]; exact d8 hx),ht]
    | _=>rfl
  have hHid:=hs id old hsf hold
  have hi:Inv X B S w S ρ ⟨(aI ops i).map fun y=>(y,T y),H⟩ a w:=by
    refine ⟨hdef,hsz,Fr.refl B w,hB,fun _ h=>h,fun _ h => .inl h,hG,fun x => ?_,hH⟩
    show Rel X.E S ρ w (aF _ x) _
    rw [gw]
    split
    · rename_i hx; exact hT x hx
    · exact .any _
  classical
  have hv:co X ty (oget ((aI ops i).map fun y=>(y,T y)) p) (oget ((aI ops i).map fun y=>(y,T y)) v) ⟨(aI ops i).map fun y=>(y,T y),H⟩ (fun st'=>if st'=⟨(aI ops i).map fun y=>(y,T y),br H id b⟩ then some ((.any,[]):Fin U El) else none)=some (.any,[]):=by
    rw [htl p (by simp [ho,Op.operands]),htl v (by simp [ho,Op.operands]),hall _ _ hHid]
    simp
  unfold wpOp
  rw [hoi]
  simp only [hwant S ρ w a hT,if_true]
  refine .inl (gv hX ho hi hv (fun e he=>by rw [hdst] at he; cases he) fun st' w' hS hinv hk => ?_)
  have:st'=⟨(aI ops i).map fun y=>(y,T y),br H id b⟩:=by
    by_cases e:st'=⟨(aI ops i).map fun y=>(y,T y),br H id b⟩
    · exact e
    · simp [e] at hk
  subst this
  have hput:a=a.put (bf ops i) undef:=by rw [hd]; rfl
  rw [hput]
  refine hn undef w' S ρ ⟨hinv.below,fun _ h=>h,fun _ h => .inl h,fun _ _=>rfl,fun c x hr=>hr.mono (fun _ h=>h) hS (fun _ _ h=>h),?_,.any _⟩
  refine hinv.heap.congr fun j => ?_
  show af ([(id,b)]++bq H (bu ws i)) j=af (br H id b) j
  rw [hw,bB]
  simp only [List.cons_append,List.nil_append,af,aY,List.mem_singleton]
  by_cases e:id=j
  · subst e; rw [Nat.beq_refl,hHid,if_pos rfl]; simp
  · rw [ai e,if_neg (Ne.symm e)]; simp [Ne.symm e]
theorem oq {ops:Array Oper} {Q:Exit→Act→World→Prop} {ws:List (Nat×Nat)} {i:Nat} {T:Nat→AV U El} {h:ar U El} {ty:TypeId} {m ix x:Operand} {id:Nat} {b old:Blk U El} (hX:CtxOk P X) (hoi:ops[i]? = some o) (ho:o.op = .mapUpdate ty m ix x) (hdst:o.dst=none) (hw:bu ws i=[id])
    (hwant:∀ (S:Nat→Prop) (ρ:Rho) (w:World) (a:Act),(∀ x∈aI ops i,Rel X.E S ρ w (T x) (a.tmps.getD x undef))→Region.wanted o (yielded ops a.tmps)=true) {t:aV U El} (ht:∀ x,aF t x=T x)
    (hsf:bI ops ws i id=true) (hold:af h id=some old)
    (hall:∀ (aA:St U El) (k2:St U El→Option (Fin U El)),af aA.h id=some old→dx X ty (oget t m) (oget t ix) (oget t x) aA k2=k2 ⟨aA.t,br aA.h id b⟩) :
    fb P X ops Q ws i T h .any [(id,b)]:=by
  intro S ρ w a B H K hdef hsz hB hG hT hH hs hfr hn
  have hlo:aI ops i=Oper.looks (ops.toList.map (·.dst)) o:=by simp [aI,hoi]
  have hd:bf ops i=none:=by simp [bf,hoi,hdst]
  have htl:∀ x:Operand,x∈o.op.operands→oget ((aI ops i).map fun y=>(y,T y)) x=oget t x:=fun x hx=>by
    cases x with
    | tmp y =>
      show aF _ y=aF t y
      rw [gw,if_pos (by rw [hlo]; exact d8 hx),ht]
    | _=>rfl
  have hHid:=hs id old hsf hold
  have hi:Inv X B S w S ρ ⟨(aI ops i).map fun y=>(y,T y),H⟩ a w:=by
    refine ⟨hdef,hsz,Fr.refl B w,hB,fun _ h=>h,fun _ h => .inl h,hG,fun x => ?_,hH⟩
    show Rel X.E S ρ w (aF _ x) _
    rw [gw]
    split
    · rename_i hx; exact hT x hx
    · exact .any _
  classical
  have hv:dx X ty (oget ((aI ops i).map fun y=>(y,T y)) m) (oget ((aI ops i).map fun y=>(y,T y)) ix) (oget ((aI ops i).map fun y=>(y,T y)) x) ⟨(aI ops i).map fun y=>(y,T y),H⟩ (fun st'=>if st'=⟨(aI ops i).map fun y=>(y,T y),br H id b⟩ then some ((.any,[]):Fin U El) else none)=some (.any,[]):=by
    rw [htl m (by simp [ho,Op.operands]),htl ix (by simp [ho,Op.operands]),htl x (by simp [ho,Op.operands]),hall _ _ hHid]
    simp
  unfold wpOp
  rw [hoi]
  simp only [hwant S ρ w a hT,if_true]
  refine .inl (eW hX (.inl ho) hi hv hdst fun st' w' hS hinv hk => ?_)
  have:st'=⟨(aI ops i).map fun y=>(y,T y),br H id b⟩:=by
    by_cases e:st'=⟨(aI ops i).map fun y=>(y,T y),br H id b⟩
    · exact e
    · simp [e] at hk
  subst this
  have hput:a=a.put (bf ops i) undef:=by rw [hd]; rfl
  rw [hput]
  refine hn undef w' S ρ ⟨hinv.below,fun _ h=>h,fun _ h => .inl h,fun _ _=>rfl,fun c x hr=>hr.mono (fun _ h=>h) hS (fun _ _ h=>h),?_,.any _⟩
  refine hinv.heap.congr fun j => ?_
  show af ([(id,b)]++bq H (bu ws i)) j=af (br H id b) j
  rw [hw,bB]
  simp only [List.cons_append,List.nil_append,af,aY,List.mem_singleton]
  by_cases e:id=j
  · subst e; rw [Nat.beq_refl,hHid,if_pos rfl]; simp
  · rw [ai e,if_neg (Ne.symm e)]; simp [Ne.symm e]
theorem lS {ops:Array Oper} {Q:Exit→Act→World→Prop} {ws:List (Nat×Nat)} {i:Nat} {T:Nat→AV U El} {h:ar U El} {ty:TypeId} {u:U} {s x:Operand} {xs ys:List (El u)} {sid:Option Nat} (hX:CtxOk P X) (hoi:ops[i]? = some o) (ho:o.op = .call ⟨.builtin .append,#[s,x],#[ty,ty]⟩) (hdst:o.dst=some d) (hw:bu ws i=sid.toList)
    (hwant:∀ (S:Nat→Prop) (ρ:Rho) (w:World) (a:Act),(∀ x∈aI ops i,Rel X.E S ρ w (T x) (a.tmps.getD x undef))→Region.wanted o (yielded ops a.tmps)=true) {t:aV U El} (ht:∀ x,aF t x=T x) (htd:aN X.tds ty=some (.slice u))
    (hxs:eN (bt (bI ops ws i) h) u (oget t s)=some (xs,sid)) (hys:ek (bt (bI ops ws i) h) u (oget t x)=some ys) (hb:(xs.length+ys.length) * X.E.by_ u≤140737488355328) (hm:xs.length+ys.length≤9223372036854775807) :
    fb P X ops Q ws i T h (.ful d) [(d,.rows u (xs++ys))]:=by
  intro S ρ w a B H K hdef hsz hB hG hT hH hs hfr hn
  have hs':∀ id b,af (bt (bI ops ws i) h) id=some b→af H id=some b:=fun id b hg=>by
    rw [cP] at hg
    split at hg
    · rename_i hsf; exact hs id b hsf hg
    · cases hg
  have hlo:aI ops i=Oper.looks (ops.toList.map (·.dst)) o:=by simp [aI,hoi]
  have hids:bO ops i=[d]:=by simp [bO,hoi,aJ,ho,hdst]
  have hρd:ρ d=none:=hfr d (by rw [hids]; simp)
  have hopr:∀ y∈o.op.operands,Rel X.E S ρ w (oget t y) (a.eval y):=fun y hy=>Rel.oget fun z e=>by
    subst e
    rw [ht]
    exact hT z (by rw [hlo]; exact d8 hy)
  have hsr:=hopr s (by simp [ho,Op.operands,Call.operands])
  have hxr:=hopr x (by simp [ho,Op.operands,Call.operands])
  obtain ⟨old,hsv,hold⟩:=jl hX hH hsr (lR hs' hxs)
  obtain ⟨ao,cp,hxv,hsh⟩:=fT hX hH hxr (lQ hs' hys)
  obtain ⟨v',w',l',hrun,hres⟩:=jk (ot:=o.type) hX hB hH.lt (hX.td _ _ htd) hsv hxv hsh hb hm
  have hrun':(execOp a.eval o).run P w = .ok (.value v') w':=by
    simp only [execOp,ho,resolve,invoke,builtin,List.map_toArray,List.map_cons,List.map_nil,Sem.run_bind,Sem.run_pure,Result.andThen_ok,hrun]
  unfold wpOp
  rw [hoi]
  simp only [hwant S ρ w a hT,if_true]
  refine .inl ?_
  unfold Oper.wp
  rw [hrun']
  show K (a.put o.dst v') w'
  have hd':bf ops i=o.dst:=by simp [bf,hoi]
  rw [← hd']
  have hSame:∀ b,S b→w'.heap[b]? = w.heap[b]? := fun b hb=>hres.block b (hH.lt b hb) (fun e=>by
    obtain ⟨j,l,_,_,_,hn0,hlb,hbl⟩:=hold b e.symm
    exact (hbl.lt hn0).2.2 (by rw [hlb]; exact hb))
  have hext:∀ j l,ρ j=some l→(ρ.set d l') j=some l:=fun j l h=>by
    by_cases e:j=d
    · subst e; rw [hρd] at h; cases h
    · simp [Rho.set,e,h]
  have hH':∀ j b,af (bq H (bu ws i)) j=some b→af H j=some b∧sid≠some j∧j≠d:=fun j b hg=>by
    rw [aY] at hg
    split at hg
    · cases hg
    · rename_i hnm
      obtain ⟨l,hl,_⟩:=hH.get j b hg
      refine ⟨hg,fun e=>hnm (by rw [hw,e]; simp),fun e => ?_⟩
      subst e; rw [hρd] at hl; cases hl
  have hother:∀ j b l,af (bq H (bu ws i)) j=some b→ρ j=some l→l.n≠0→some l.b≠old:=fun j b l hg hl hn0 e=>by
    obtain ⟨hg1,hne,_⟩:=hH' j b hg
    obtain ⟨j',l2,hid,hg2,hl2,hn2,hlb,hbl⟩:=hold l.b e.symm
    exact hH.inj j j' b _ l l2 hg1 hg2 (by rintro rfl; exact hne hid) hl hl2 hn0 hn2 hlb.symm
  have e1:(ρ.set d l') d=some l':=by simp [Rho.set]
  refine hn v' w' S (ρ.set d l') ⟨⟨hres.os,hres.tape,hres.output,hres.size,hres.drawn,fun k hk hbk=>hres.block k hk (fun e=>hbk ?_)⟩,fun _ h=>h,fun _ h => .inl h,fun id hid => ?_,fun c x hr=>hr.mono (fun _ h=>h) hSame hext,⟨fun j b hg => ?_,fun j j' b b' l l2 hgi hgj hne hli hlj hn1 hn2 => ?_,fun b hb=>Nat.lt_of_lt_of_le (hH.lt b hb) hres.size⟩,?_⟩
  · obtain ⟨j, l, _, _, _, hn0, hlb, hbl⟩ := hold k e.symm
    rw [← hlb]
    exact (hbl.lt hn0).2.1
  · rw [hids] at hid
    simp only [List.mem_singleton] at hid
    simp [Rho.set,hid]
  · simp only [List.cons_append, List.nil_append, af] at hg
    by_cases e:d=j
    · subst e
      rw [Nat.beq_refl] at hg
      cases hg
      exact ⟨l',e1,hres.blk _⟩
    · rw [ai e] at hg
      simp only [cond] at hg
      obtain ⟨hg1,_,_⟩:=hH' j b hg
      obtain ⟨l,hl,hbl⟩:=hH.get j b hg1
      exact ⟨l,hext j l hl,hbl.mono (fun _ h=>h) hSame hext fun hn0=>⟨hres.block _ (hbl.lt hn0).1 (hother j b l hg hl hn0),(hbl.lt hn0).2.2⟩⟩
  · have sep : ∀ j b l, af (bq H (bu ws i)) j = some b → ρ j = some l → l.n ≠ 0 → l'.n ≠ 0 → l.b ≠ l'.b := fun j b l hg hl hn0 hn' e => by
      rcases hres.at_ hn' with h | h
      · exact hother j b l hg hl hn0 (by rw [e]; exact h)
      · obtain ⟨hg1, _, _⟩ := hH' j b hg
        obtain ⟨l3,hl3,hbl⟩:=hH.get j b hg1
        rw [hl] at hl3; cases hl3
        have:=(hbl.lt hn0).1
        omega
    simp only [List.cons_append,List.nil_append,af] at hgi hgj
    by_cases ei:d=j
    · subst ei
      rw [e1] at hli; cases hli
      rw [ai hne] at hgj
      have hlj':ρ j'=some l2:=by simpa [Rho.set,Ne.symm hne] using hlj
      exact (sep j' b' l2 hgj hlj' hn2 hn1).symm
    · rw [ai ei] at hgi
      have hli':ρ j=some l:=by simpa [Rho.set,Ne.symm ei] using hli
      by_cases ej:d=j'
      · subst ej
        rw [e1] at hlj; cases hlj
        exact sep j b l hgi hli' hn1 hn2
      · rw [ai ej] at hgj
        have hlj':ρ j'=some l2:=by simpa [Rho.set,Ne.symm ej] using hlj
        exact hH.inj j j' b b' l l2 (hH' _ _ hgi).1 (hH' _ _ hgj).1 hne hli' hlj' hn1 hn2
  · rcases hres.val with ⟨cap, rfl, h1, h2⟩ | ⟨rfl, h1, h2⟩
    · exact .ful d cap l' e1 h1 h2
    · exact .fulN d l' e1 h1 h2
theorem ov {ops:Array Oper} {Q:Exit→Act→World→Prop} {ws:List (Nat×Nat)} {i:Nat} {T:Nat→AV U El} {h:ar U El} {v:AV U El} {nw:ar U El} (hX:CtxOk P X) (hoi:ops[i]? = some o) (hdst:o.dst=some d) (hw:bu ws i=[])
    (hwant:∀ (S:Nat→Prop) (ρ:Rho) (w:World) (a:Act),(∀ x∈aI ops i,Rel X.E S ρ w (T x) (a.tmps.getD x undef))→Region.wanted o (yielded ops a.tmps)=true) {t:aV U El} (ht:∀ x,aF t x=T x)
    (hall:∀ k:Out U El→Option (Fin U El),aP X o t (bt (bI ops ws i) h) d k=k ⟨v,nw⟩):fb P X ops Q ws i T h v nw:=by
  intro S ρ w a B H K hdef hsz hB hG hT hH hs hfr hn
  have hids:bO ops i=aJ o d:=by simp [bO,hoi,hdst]
  have hlo:aI ops i=Oper.looks (ops.toList.map (·.dst)) o:=by simp [aI,hoi]
  have hT':TRel X.E S ρ w o t a:=fun x hx=>by
    rw [ht x]
    exact hT x (by rw [hlo]; exact d8 hx)
  have hs':∀ id b,af (bt (bI ops ws i) h) id=some b→af H id=some b:=fun id b hg=>by
    rw [cP] at hg
    split at hg
    · rename_i hsf; exact hs id b hsf hg
    · cases hg
  rw [hids] at hfr hn
  classical
  obtain ⟨out',ho1,ho2⟩:=ez (P:=P) (r:=((.any,[]):Fin U El)) (k:=fun x=>if x=⟨v,nw⟩ then some ((.any,[]):Fin U El) else none) hX (by rw [hall]; simp) hT' hH hs' hfr (hG w (Fr.refl B w))
  have:out'=⟨v,nw⟩:=by
    by_cases e:out'=⟨v,nw⟩
    · exact e
    · simp [e] at ho1
  subst this
  unfold wpOp
  rw [hoi]
  simp only [hwant S ρ w a hT,if_true]
  refine .inl (ho2 K Q fun v' w' S' ρ' h1 h2 h3 h4 h5 => ?_)
  have hd':bf ops i=o.dst:=by simp [bf,hoi]
  rw [← hd']
  refine hn v' w' S' ρ' ⟨h1.fr.mono hB,h1.s1,fun b hb => ?_,h5,fun c x hr=>h1.rel hr,?_,h2⟩
  · rcases h1.s2 b hb with h | h
    · exact .inl h
    · exact .inr (hB _ h)
  · rw [hw]
    exact h1.heap hH h3 hB (fun id b hg=>hfr id (h4 id b hg))
theorem pE (h:ar U El) (wj:List Nat) (t:aV U El) (i:Nat):aF (mJ h wj t) i=(aF t i).shr2 h wj:=by
  induction t with
  | nil=>rfl
  | cons p t ih =>
    obtain ⟨j,v⟩:=p
    simp only [mJ,aF]
    cases Nat.beq j i<;>simp [ih]
theorem lU {h:ar U El} {wj:List Nat} (hr:kF h wj=true):∀ id∈wj,∃ u xs,af h id=some (.rows u xs):=fun id hid=>by
  have:=List.all_eq_true.1 hr id hid
  split at this
  · rename_i u xs e; exact ⟨u,xs,e⟩
  · cases this
theorem mZ {ops : Array Oper} {Q : Exit → Act → World → Prop} {ws : List (Nat × Nat)} {i : Nat} {T : Nat → AV U El} {h : ar U El} {v : AV U El} {nw : ar U El} (hX : CtxOk P X) (hoi : ops[i]? = some o) (hdst : o.dst = some d)
    (hwant:∀ (S:Nat→Prop) (ρ:Rho) (w:World) (a:Act),(∀ x∈aI ops i,Rel X.E S ρ w (T x) (a.tmps.getD x undef))→Region.wanted o (yielded ops a.tmps)=true) {t:aV U El} (ht:∀ x,aF t x=T x)
    (hrows:kF (bt (bI ops ws i) h) (bu ws i)=true)
    (hall:∀ k:Out U El→Option (Fin U El),aP X o (mJ (bt (bI ops ws i) h) (bu ws i) t) (bq (bt (bI ops ws i) h) (bu ws i)) d k=k ⟨v,nw⟩):fb P X ops Q ws i T h v nw:=by
  intro S ρ w a B H K hdef hsz hB hG hT hH hs hfr hn
  have hids:bO ops i=aJ o d:=by simp [bO,hoi,hdst]
  have hlo:aI ops i=Oper.looks (ops.toList.map (·.dst)) o:=by simp [aI,hoi]
  have hs':∀ id b,af (bt (bI ops ws i) h) id=some b→af H id=some b:=fun id b hg=>by
    rw [cP] at hg
    split at hg
    · rename_i hsf; exact hs id b hsf hg
    · cases hg
  generalize hwj:bu ws i=wj at *
  generalize hh:bt (bI ops ws i) h=hf at *
  have hr:=lU hrows
  obtain ⟨S1,hS1⟩:∃ S1:Nat→Prop,S1=fun b=>S b∨∃ id,id∈wj∧∃ l,ρ id=some l∧l.n≠0∧b=l.b:=⟨_,rfl⟩
  have hsub:∀ b,S b→S1 b:=fun b hb=>by rw [hS1]; exact .inl hb
  have hH1:HRel X.E S1 ρ w B (bq H wj):=by
    refine ⟨fun id b hg => ?_,fun m m' b b' l l' hg hg' => ?_,fun b hb => ?_⟩
    · rw [aY] at hg
      split at hg
      · cases hg
      · rename_i hnot
        obtain ⟨l,hl,hb⟩:=hH.get id b hg
        refine ⟨l,hl,hb.mono hsub (fun _ _=>rfl) (fun _ _ h=>h) fun hn=>⟨rfl,fun hin => ?_⟩⟩
        rw [hS1] at hin
        rcases hin with hin | ⟨id',hid',l',hl',hn',e⟩
        · exact (hb.lt hn).2.2 hin
        · obtain ⟨u, xs, hg'⟩ := hr id' hid'
          exact hH.inj id id' _ _ l l' hg (hs' _ _ hg') (fun e=>hnot (e ▸ hid')) hl hl' hn hn' e
    · rw [aY] at hg hg'
      split at hg
      · cases hg
      · split at hg'
        · cases hg'
        · exact hH.inj m m' b b' l l' hg hg'
    · rw [hS1] at hb
      rcases hb with hb | ⟨id',hid',l',hl',hn',rfl⟩
      · exact hH.lt b hb
      · obtain ⟨u, xs, hg'⟩ := hr id' hid'
        obtain ⟨l2,hl2,hb2⟩:=hH.get _ _ (hs' _ _ hg')
        rw [hl'] at hl2; cases hl2
        exact (hb2.lt hn').1
  have hown:∀ b,S1 b→S b∨B.own b:=fun b hb=>by
    rw [hS1] at hb
    rcases hb with hb | ⟨id',hid',l',hl',hn',rfl⟩
    · exact .inl hb
    · obtain ⟨u, xs, hg'⟩ := hr id' hid'
      obtain ⟨l2,hl2,hb2⟩:=hH.get _ _ (hs' _ _ hg')
      rw [hl'] at hl2; cases hl2
      exact .inr (hb2.lt hn').2.1
  have hrel:∀ c x,Rel X.E S ρ w c x→Rel X.E S1 ρ w c x:=fun c x hc=>hc.mono hsub (fun _ _=>rfl) (fun _ _ h=>h)
  have hshr:∀ c x,Rel X.E S ρ w c x→Rel X.E S1 ρ w (c.shr hf wj) x:=fun c x hc=>by
    unfold AV.shr
    split
    · rename_i id
      cases he:wj.elem id with
      | false=>exact hrel _ _ hc
      | true =>
        simp only [cond_true]
        have hid:id∈wj:=by simpa using he
        split
        · rename_i u xs hg
          obtain ⟨l,hl,hb⟩:=hH.get _ _ (hs' _ _ hg)
          refine (iM (ρ':=ρ) hX hb hl hc).mono (fun b hb' => ?_) (fun _ _=>rfl) (fun _ _ h=>h)
          rw [hS1]
          rcases hb' with hb' | ⟨hn,rfl⟩
          · exact .inl hb'
          · exact .inr ⟨id,hid,l,hl,hn,rfl⟩
        · exact hrel _ _ hc
    · exact hrel _ _ hc
  have hshr2:∀ c x,Rel X.E S ρ w c x→Rel X.E S1 ρ w (c.shr2 hf wj) x:=fun c x hc=>by
    unfold AV.shr2
    split
    · cases hc with
      | agg cs vs hl h =>
        refine .agg _ vs (by simp [hl]) fun m c' v' hm hv => ?_
        simp only [List.getElem?_map,Option.map_eq_some_iff] at hm
        obtain ⟨c0,h1,rfl⟩:=hm
        exact hshr _ _ (h m c0 v' h1 hv)
    · exact hshr _ _ hc
  have hT':TRel X.E S1 ρ w o (mJ hf wj t) a:=fun x hx=>by
    rw [pE,ht x]
    exact hshr2 _ _ (hT x (by rw [hlo]; exact d8 hx))
  rw [hids] at hfr hn
  classical
  obtain ⟨out',ho1,ho2⟩:=ez (P:=P) (B:=B) (H:=bq H wj) (r:=((.any,[]):Fin U El)) (k:=fun x=>if x=⟨v,nw⟩ then some ((.any,[]):Fin U El) else none) hX (by rw [hall]; simp) hT' hH1 (fun id b hg=>by
    rw [aY] at hg ⊢
    split at hg
    · cases hg
    · rename_i hnot; rw [if_neg hnot]; exact hs' _ _ hg) hfr (hG w (Fr.refl B w))
  have:out'=⟨v,nw⟩:=by
    by_cases e:out'=⟨v,nw⟩
    · exact e
    · simp [e] at ho1
  subst this
  unfold wpOp
  rw [hoi]
  simp only [hwant S ρ w a hT,if_true]
  refine .inl (ho2 K Q fun v' w' S' ρ' h1 h2 h3 h4 h5 => ?_)
  have hd':bf ops i=o.dst:=by simp [bf,hoi]
  rw [← hd']
  refine hn v' w' S' ρ' ⟨h1.fr.mono hB,fun b hb=>h1.s1 b (hsub b hb),fun b hb => ?_,h5,fun c x hr=>h1.rel (hrel c x hr),?_,h2⟩
  · rcases h1.s2 b hb with h | h
    · exact hown b h
    · exact .inr (hB _ h)
  · exact h1.heap hH1 h3 hB (fun id b hg=>hfr id (h4 id b hg))
theorem cm (σ:Nat→Nat) (cs:List (AV U El)):AV.ren.renL σ cs=cs.map (AV.ren σ):=by
  induction cs with
  | nil=>rfl
  | cons c cs ih=>simp [AV.ren.renL,ih]
theorem c9 {ids:List Nat} {cs:List (AV U El)} (h:AV.within.withinL ids cs=true):∀ c∈cs,c.within ids=true:=by
  induction cs with
  | nil=>intro c hc; cases hc
  | cons d cs ih =>
    simp only [AV.within.withinL,Bool.and_eq_true] at h
    intro c hc
    cases hc with
    | head=>exact h.1
    | tail _ hc=>exact ih h.2 c hc
theorem Rel.ren {E:Univ U El} {c:AV U El} {v:Value} (hg:UGood P E) {σ:Nat→Nat} {ids:List Nat} (hr:Rel E S ρ w c v) (hw:c.within ids=true) (hσ:∀ j∈ids,∀ l,ρ j=some l→ρ' (σ j)=some l):Rel E S ρ' w (c.ren σ) v:=by
  have hm:∀ {j:Nat} {l:Loc},ids.elem j=true→ρ j=some l→ρ' (σ j)=some l:=fun h e=>hσ _ (by simpa using h) _ e
  have ix:∀ {cs:List (AV U El)} {i:Nat} {c':AV U El},(cs.map (AV.ren σ))[i]? = some c'→∃ c,cs[i]? = some c∧c.ren σ=c':=fun h=>by simpa [List.getElem?_map,Option.map_eq_some_iff] using h
  induction hr with
  | any v=>exact .any v
  | bool b=>exact .bool b
  | int k n=>exact .int k n
  | str s=>exact .str s
  | nilp=>exact .nilp
  | nils=>exact .nils
  | nili=>exact .nili
  | nilf=>exact .nilf
  | nilm=>exact .nilm
  | agg cs vs hl h ih =>
    show Rel E S ρ' w (.agg (AV.ren.renL σ cs)) _
    rw [cm]
    refine .agg _ vs (by simp [hl]) fun i c' v hc hv => ?_
    obtain ⟨c,h1,rfl⟩:=ix hc
    exact ih i c v h1 hv (c9 (by simpa [AV.within] using hw) c (List.mem_of_getElem? h1))
  | tup cs vs hl h ih =>
    show Rel E S ρ' w (.tup (AV.ren.renL σ cs)) _
    rw [cm]
    refine .tup _ vs (by simp [hl]) fun i c' v hc hv => ?_
    obtain ⟨c,h1,rfl⟩:=ix hc
    exact ih i c v h1 hv (c9 (by simpa [AV.within] using hw) c (List.mem_of_getElem? h1))
  | lstE u ao cap=>exact .lstE u ao cap
  | lst u xs b off cap val hb hc hcell h ih=>exact .lst u xs b off cap val hb hc hcell fun i x j c hi hj=>(h i x j c hi hj).cellρ hg (hg.cell u x c (List.mem_of_getElem? hj))
  | ful j cap l hl h1 h2=>exact .ful _ cap l (hm (by simpa [AV.within] using hw) hl) h1 h2
  | fulN j l hl h1 h2=>exact .fulN _ l (hm (by simpa [AV.within] using hw) hl) h1 h2
  | own j lo len cap l hl h1 h2 h3=>exact .own _ lo len cap l (hm (by simpa [AV.within] using hw) hl) h1 h2 h3
  | ownE j lo ao cap=>exact .ownE _ lo ao cap
  | ptr j off l hl=>exact .ptr _ off l (hm (by simpa [AV.within] using hw) hl)
  | row j i off l hl=>exact .row _ i off l (hm (by simpa [AV.within] using hw) hl)
  | mp j l hl=>exact .mp _ l (hm (by simpa [AV.within] using hw) hl)
  | fmp u v es b ents clock hb hh hn hf hk hv ihk ihv=>exact .fmp u v es b ents clock hb hh hn hf (fun i e p j c x h1 h2 h3 h4=>(hk i e p j c x h1 h2 h3 h4).cellρ hg (hg.cell u p.1 c (List.mem_of_getElem? h3))) (fun i e p j c x h1 h2 h3 h4=>(hv i e p j c x h1 h2 h3 h4).cellρ hg (hg.cell v p.2 c (List.mem_of_getElem? h3)))
  | pel u xs i off b o cap h hi ih =>
    refine .pel u xs i off b o cap ?_ hi
    exact ih rfl
  | pcs cs off b o val hb hcell h ih =>
    show Rel E S ρ' w (.pcs (AV.ren.renL σ cs) off) _
    rw [cm]
    refine .pcs _ off b o val (fun hn=>hb (by rintro rfl; exact hn rfl)) (fun j c' hj => ?_) fun j c' hj => ?_
    · obtain ⟨c, h1, _⟩ := ix hj
      exact hcell j c h1
    · obtain ⟨c, h1, rfl⟩ := ix hj
      exact ih j c h1 (c9 (by simpa [AV.within] using hw) c (List.mem_of_getElem? h1))
  | fn f fs cs vf vc hlf hlc hf hc ihf ihc =>
    show Rel E S ρ' w (.fn f (AV.ren.renL σ fs) (AV.ren.renL σ cs)) _
    rw [cm,cm]
    simp only [AV.within,Bool.and_eq_true] at hw
    refine .fn f _ _ vf vc (by simp [hlf]) (by simp [hlc]) (fun i c' v hc hv => ?_) (fun i c' v hc hv => ?_)
    · obtain ⟨c, h1, rfl⟩ := ix hc
      exact ihf i c v h1 hv (c9 hw.1 c (List.mem_of_getElem? h1))
    · obtain ⟨c, h1, rfl⟩ := ix hc
      exact ihc i c v h1 hv (c9 hw.2 c (List.mem_of_getElem? h1))
  | err t v=>exact .err t v
theorem BlkRel.ren {E:Univ U El} {B B':Bd} {l:Loc} {b:Blk U El} {σ:Nat→Nat} {ids:List Nat} {tg:Nat} (hg:UGood P E) (h:BlkRel E S ρ w B l b) (hw:b.within ids=true) (hσ:∀ j∈ids,∀ l,ρ j=some l→ρ' (σ j)=some l)
    (hown:l.n≠0→B'.own l.b) (htg:tg=0∨B'.pin tg=some l):BlkRel E S ρ' w B' l (b.ren σ tg):=by
  cases b with
  | rows u xs =>
    obtain ⟨h1,h2,h3,h4⟩:=h
    refine ⟨h1,h2,h3,fun hn => ?_⟩
    obtain ⟨h5,h6,c,hh,h7,h8⟩:=h4 hn
    exact ⟨hown hn,h6,c,hh,h7,fun i x j a hi hj=>by obtain ⟨v,hv,hr⟩:=h8 i x j a hi hj; exact ⟨v,hv,hr.cellρ hg (hg.cell u x a (List.mem_of_getElem? hj))⟩⟩
  | map u v es =>
    obtain ⟨h1,h4,h5,c0,c1,hh,h6,h7⟩:=h
    exact ⟨h1,hown (by omega),h5,c0,c1,hh,h6,fun i e p hi hj=>⟨(h7 i e p hi hj).1.cellρ hg,(h7 i e p hi hj).2.cellρ hg⟩⟩
  | amap u ks cs =>
    obtain ⟨h1,h4,h5,c0,c1,hh,h6,h7,h8⟩:=h
    refine ⟨h1,hown (by omega),h5,c0,c1,hh,h6,by simpa using h7,fun i e y c hi hj hk => ?_⟩
    simp only [List.getElem?_map,Option.map_eq_some_iff] at hk
    obtain ⟨a0,ha0,rfl⟩:=hk
    exact ⟨(h8 i e y a0 hi hj ha0).1.cellρ hg,(h8 i e y a0 hi hj ha0).2.ren hg (List.all_eq_true.1 hw a0 (List.mem_of_getElem? ha0)) hσ⟩
  | box t cs =>
    obtain ⟨h0,h1,h2⟩:=h
    refine ⟨htg,by simpa using h1,fun hn => ?_⟩
    obtain ⟨h5,h6,c,e,hh,h7,h8⟩:=h2 hn
    refine ⟨hown hn,h6,c,e,hh,h7,fun j a hj => ?_⟩
    simp only [List.getElem?_map,Option.map_eq_some_iff] at hj
    obtain ⟨a0,ha0,rfl⟩:=hj
    obtain ⟨v,hv,hr⟩:=h8 j a0 ha0
    exact ⟨v,hv,hr.ren hg (List.all_eq_true.1 hw a0 (List.mem_of_getElem? ha0)) hσ⟩
  | bld T j =>
    obtain ⟨h1,h4,h5,c0,c1,hh,h6,h7,h8⟩:=h
    exact ⟨h1,hown (by omega),h5,c0,c1,hh,h6,h7,h8.ren hg (ids:=ids) (by simpa [AV.within,Blk.within] using hw) hσ⟩
theorem gx:∀ (ids:List Nat) (n j:Nat),j∈ids→∃ i,ids[i]? = some j∧dp ids n j=n+i:=by
  intro ids
  induction ids with
  | nil=>intro n j h; cases h
  | cons i ids ih =>
    intro n j h
    simp only [dp]
    by_cases e:i=j
    · subst e; rw [Nat.beq_refl]; exact ⟨0,rfl,rfl⟩
    · rw [ai e]
      obtain ⟨m,h1,h2⟩:=ih (n+1) j ((List.mem_cons.1 h).resolve_left (Ne.symm e))
      exact ⟨m+1,by simpa using h1,by simp only [cond]; omega⟩
theorem jp:∀ (l:List (Nat×Nat)) (x j:Nat),eT l x=some j→(x,j)∈l:=by
  intro l
  induction l with
  | nil=>intro x j h; cases h
  | cons p l ih =>
    obtain ⟨id,m⟩:=p
    intro x j h
    simp only [eT] at h
    by_cases e:id=x
    · subst e; rw [Nat.beq_refl] at h; cases h; simp
    · rw [ai e] at h; exact List.mem_cons_of_mem _ (ih x j h)
theorem fy:∀ (l:List (Nat×Nat)) (x j:Nat),(l.map (·.1)).Nodup→(x,j)∈l→eT l x=some j:=by
  intro l
  induction l with
  | nil=>intro x j _ h; cases h
  | cons p l ih =>
    obtain ⟨id,m⟩:=p
    intro x j hn h
    simp only [List.map_cons,List.nodup_cons] at hn
    simp only [eT]
    by_cases e:id=x
    · subst e
      rw [Nat.beq_refl]
      rcases List.mem_cons.1 h with h | h
      · cases h; rfl
      · exact absurd (List.mem_map.2 ⟨_,h,rfl⟩) hn.1
    · rw [ai e]
      rcases List.mem_cons.1 h with h | h
      · cases h; exact absurd rfl e
      · exact ih x j hn.2 h
theorem lV:∀ (l:List (Nat×Nat)) (j:Nat),j∈l.map (·.2)→(iE l j,j)∈l:=by
  intro l
  induction l with
  | nil=>intro j h; cases h
  | cons p l ih =>
    obtain ⟨id,m⟩:=p
    intro j h
    simp only [iE]
    by_cases e:m=j
    · subst e; rw [Nat.beq_refl]; simp
    · rw [ai e]
      exact List.mem_cons_of_mem _ (ih j ((List.mem_cons.1 h).resolve_left (Ne.symm e)))
theorem cQ {h : ar U El} {all : List Nat} : ∀ (ids : List Nat) (n : Nat) (hs : ar U El), dt h all ids n = some hs → ∀ m b, af hs m = some b → ∃ i id b0, ids[i]? = some id ∧ m = n + i ∧ af h id = some b0 ∧ b0.within all = true ∧ b = b0.ren (dp all aH) m := by
  intro ids
  induction ids with
  | nil=>intro n hs he m b hg; cases he; cases hg
  | cons id ids ih =>
    intro n hs he m b hg
    simp only [dt] at he
    split at he
    · rename_i b0 hb0
      split at he
      · rename_i hs' hhs'
        obtain ⟨hw,he⟩:=ab he
        cases he
        simp only [af] at hg
        by_cases e:n=m
        · subst e; rw [Nat.beq_refl] at hg; cases hg; exact ⟨0,id,b0,rfl,rfl,hb0,hw,rfl⟩
        · rw [ai e] at hg
          obtain ⟨i,id',b0',h1,h2,h3,h4,h5⟩:=ih (n+1) hs' hhs' m b hg
          exact ⟨i+1,id',b0',by simpa using h1,by omega,h3,h4,h5⟩
      · cases he
    · cases he
theorem cR {h : ar U El} {all : List Nat} : ∀ (ids : List Nat) (n : Nat) (hs : ar U El), dt h all ids n = some hs → ∀ id ∈ ids, ∃ b, af h id = some b := by
  intro ids
  induction ids with
  | nil=>intro n hs he id hi; cases hi
  | cons id ids ih =>
    intro n hs he id' hi
    simp only [dt] at he
    split at he
    · rename_i b0 hb0
      split at he
      · rename_i hs' hhs'
        rcases List.mem_cons.1 hi with rfl | hi
        · exact ⟨b0,hb0⟩
        · exact ih _ hs' hhs' id' hi
      · cases he
    · cases he
theorem gY {h hc : ar U El} {pins : List Nat} {all : List (Nat × Nat)} : ∀ (l : List (Nat × Nat)) (id : Nat) (b : Blk U El), af (dy h hc pins all l) id = some b → ∃ j b0, (id, j) ∈ l ∧ af hc j = some b0 ∧ b = b0.ren (iE all) (bif pins.elem id then (match af h id with | some b0 => b0.tag | none => 0) else 0) := by
  intro l
  induction l with
  | nil=>intro id b hg; cases hg
  | cons p l ih =>
    obtain ⟨i,j⟩:=p
    intro id b hg
    simp only [dy] at hg
    split at hg
    · rename_i b0 hb0
      simp only [af] at hg
      by_cases e:i=id
      · subst e; rw [Nat.beq_refl] at hg; cases hg; exact ⟨j,b0,by simp,hb0,rfl⟩
      · rw [ai e] at hg
        obtain ⟨j',b',h1,h2,h3⟩:=ih id b hg
        exact ⟨j',b',List.mem_cons_of_mem _ h1,h2,h3⟩
    · obtain ⟨j', b', h1, h2, h3⟩ := ih id b hg
      exact ⟨j',b',List.mem_cons_of_mem _ h1,h2,h3⟩
theorem m0 {ops : Array Oper} {Q : Exit → Act → World → Prop} {ws : List (Nat × Nat)} {i : Nat} {T : Nat → AV U El} {h : ar U El} {f : Operand} {as : Array Operand} {ts : Array TypeId} {ids pins : List Nat} {outs : List (Nat × Nat)} {hs hc : ar U El} {v : AV U El} {g : FuncId} {first caps : List (AV U El)}
    (hX:CtxOk P X) (hoi:ops[i]? = some o) (ho:o.op = .call ⟨.value f,as,ts⟩) (hdst:o.dst=some d) (hw:bu ws i=ids)
    (hwant:∀ (S:Nat→Prop) (ρ:Rho) (w:World) (a:Act),(∀ x∈aI ops i,Rel X.E S ρ w (T x) (a.tmps.getD x undef))→Region.wanted o (yielded ops a.tmps)=true) {t:aV U El} (ht:∀ x,aF t x=T x)
    (hf:oget t f = .fn g first caps) (hcall:∀ as w,(callFunc g as).run P w = .ok (.enter g as) w) (haw:(first++as.toList.map (oget t)++caps).all (AV.within ids)=true) (hh:dt (bt (bI ops ws i) h) ids ids aH=some hs)
    (hm:MCall P X.E g ((first++as.toList.map (oget t)++caps).map (AV.ren (dp ids aH))) hs v hc) (hok:mOk hc ids outs pins v=true) (hnew:(outs.all fun p=>pins.elem p.1||(bJ d).elem p.1)=true) :
    fb P X ops Q ws i T h (v.ren (iE outs)) (dy (bt (bI ops ws i) h) hc pins outs outs):=by
  intro S ρ w a B H K hdef hsz hB hG hT hH hs0 hfr hn
  have hlo:aI ops i=Oper.looks (ops.toList.map (·.dst)) o:=by simp [aI,hoi]
  have hids:bO ops i=bJ d:=by simp [bO,hoi,aJ,ho,hdst]
  have hd':bf ops i=some d:=by simp [bf,hoi,hdst]
  have hs':∀ id b,af (bt (bI ops ws i) h) id=some b→af H id=some b:=fun id b hg=>by
    rw [cP] at hg
    split at hg
    · rename_i hsf; exact hs0 id b hsf hg
    · cases hg
  have hopr:∀ y∈o.op.operands,Rel X.E S ρ w (oget t y) (a.eval y):=fun y hy=>Rel.oget fun z e=>by
    subst e
    rw [ht]
    exact hT z (by rw [hlo]; exact d8 hy)
  have hfr':=hopr f (by simp [ho,Op.operands,Call.operands])
  rw [hf] at hfr'
  generalize hqf:a.eval f=qf at hfr'
  cases hfr' with
  | fn _ _ _ vf vc hlf hlc hrf hrc =>
  have hraw:jb X.E S ρ w (first++as.toList.map (oget t)++caps) (vf++as.map a.eval++vc):=by
    refine ⟨by simp [hlf,hlc],fun i c v hc hv => ?_⟩
    have hv':(vf.toList++as.toList.map a.eval++vc.toList)[i]? = some v:=by
      rw [← Array.getElem?_toList] at hv; simpa using hv
    rw [List.getElem?_append] at hc hv'
    split at hc
    · rename_i h1
      rw [if_pos (by simpa [hlf] using h1)] at hv'
      rw [List.getElem?_append] at hc hv'
      split at hc
      · rename_i h2
        rw [if_pos (by simpa [hlf] using h2)] at hv'
        exact hrf i c v hc (by simpa using hv')
      · rename_i h2
        rw [if_neg (by simpa [hlf] using h2)] at hv'
        simp only [List.getElem?_map,Option.map_eq_some_iff,Array.length_toList,hlf] at hc hv'
        obtain ⟨x,hx,rfl⟩:=hc
        obtain ⟨y,hy,rfl⟩:=hv'
        rw [hx] at hy; cases hy
        exact hopr x (by simp only [ho,Op.operands,Call.operands]; have:=List.mem_of_getElem? hx; simp; exact .inr (by simpa using this))
    · rename_i h1
      rw [if_neg (by simpa [hlf] using h1)] at hv'
      simp only [List.length_append,List.length_map,Array.length_toList,hlf] at hc hv'
      exact hrc _ c v hc (by simpa using hv')
  have hrun:(execOp a.eval o).run P w = .ok (.enter g (vf++as.map a.eval++vc)) w:=by
    simp [execOp,ho,resolve,Deferred.ofValue,hqf,invoke,hcall]
  simp only [mOk,Bool.and_eq_true,decide_eq_true_eq] at hok
  obtain ⟨hnd,hn1,hn2,hvw,hbw,hpin⟩:=hok
  obtain ⟨ρc,hρc⟩:∃ ρc:Rho,ρc=fun m=>if aH≤m then (ids[m - aH]?).bind ρ else none:=⟨_,rfl⟩
  have hup:∀ j∈ids,ρc (dp ids aH j)=ρ j:=fun j hj=>by
    obtain ⟨i,h1,h2⟩:=gx ids aH j hj
    rw [hρc,h2]
    simp [h1]
  have hmem:∀ id∈ids,∃ b l,af H id=some b∧ρ id=some l∧BlkRel X.E S ρ w B l b:=fun id hid=>by
    obtain ⟨b,hb⟩:=cR _ _ _ hh id hid
    obtain ⟨l,hl,hbl⟩:=hH.get id b (hs' _ _ hb)
    exact ⟨b,l,hs' _ _ hb,hl,hbl⟩
  obtain ⟨Bc,hBc⟩:∃ Bc:Bd,Bc=⟨fun k=>w.heap.size≤k∨∃ id∈ids,∃ l,ρ id=some l∧l.n≠0∧l.b=k,ρc,[]⟩:=⟨_,rfl⟩
  have hown:∀ k,Bc.own k→B.own k:=fun k hkk=>by
    rw [hBc] at hkk
    rcases hkk with h | ⟨id,hid,l,hl,hn,rfl⟩
    · exact hB k h
    · obtain ⟨b, l', _, hl', hbl⟩ := hmem id hid
      rw [hl] at hl'; cases hl'
      exact (hbl.lt hn).2.1
  have hownS:∀ k,Bc.own k→¬ S k:=fun k hkk hS=>by
    rw [hBc] at hkk
    rcases hkk with h | ⟨id,hid,l,hl,hn,rfl⟩
    · have:=hH.lt k hS; omega
    · obtain ⟨b, l', _, hl', hbl⟩ := hmem id hid
      rw [hl] at hl'; cases hl'
      exact (hbl.lt hn).2.2 hS
  have hHc:HRel X.E S ρc w Bc hs:=by
    refine ⟨fun m b hg => ?_,fun m m' b b' l l' hg hg' hne hl hl' hn hn' => ?_,hH.lt⟩
    · obtain ⟨i, id, b0, h1, rfl, h3, h4, rfl⟩ := cQ _ _ _ hh m b hg
      obtain ⟨l,hl,hbl⟩:=hH.get id b0 (hs' _ _ h3)
      have hmem:id∈ids:=List.mem_of_getElem? h1
      have hρl:ρc (aH+i)=some l:=by rw [hρc]; simp [h1,hl]
      exact ⟨l,hρl,hbl.ren hX.u h4 (fun j hj l' e=>by rw [hup j hj]; exact e) (fun hn=>by rw [hBc]; exact .inr ⟨id,hmem,l,hl,hn,rfl⟩) (.inr (by rw [hBc]; exact hρl))⟩
    · obtain ⟨i, id, b0, h1, rfl, h3, _⟩ := cQ _ _ _ hh m b hg
      obtain ⟨i',id',b0',h1',rfl,h3',_⟩:=cQ _ _ _ hh m' b' hg'
      have e1:ρ id=some l:=by rw [hρc] at hl; simpa [h1] using hl
      have e2:ρ id'=some l':=by rw [hρc] at hl'; simpa [h1'] using hl'
      refine hH.inj id id' b0 b0' l l' (hs' _ _ h3) (hs' _ _ h3') (fun e=>hne ?_) e1 e2 hn hn'
      subst e
      obtain ⟨q1,q2⟩:=List.getElem?_eq_some_iff.1 h1
      have:=(List.getElem?_inj q1 hnd).1 (h1.trans h1'.symm)
      rw [this]
  have hrc':jb X.E S ρc w ((first++as.toList.map (oget t)++caps).map (AV.ren (dp ids aH))) (vf++as.map a.eval++vc):=by
    refine ⟨by simpa using hraw.1,fun i c v hc hv => ?_⟩
    simp only [List.getElem?_map,Option.map_eq_some_iff] at hc
    obtain ⟨c0,hc0,rfl⟩:=hc
    exact (hraw.2 i c0 v hc0 hv).ren hX.u (List.all_eq_true.1 haw c0 (List.mem_of_getElem? hc0)) fun j hj l e=>by rw [hup j hj]; exact e
  unfold wpOp
  rw [hoi]
  simp only [hwant S ρ w a hT,if_true]
  refine .inl ?_
  unfold Oper.wp
  rw [hrun]
  show Calls P g _ w _
  refine (hm Bc S ρc w _ (fun k hkk=>by rw [hBc]; exact .inl hkk) (fun w' hf=>hG w' (hf.mono hown)) hHc hrc').mono ?_
  rintro e w' ⟨v',S',ρ',rfl,hfrw,hs1,hs2,hH',hv'⟩
  show K (a.put o.dst v') w'
  obtain ⟨ρ2,hρ2⟩:∃ ρ2:Rho,ρ2=fun id=>match eT outs id with | some j=>ρ' j | none=>ρ id:=⟨_,rfl⟩
  have hpins:∀ id∈pins,id∈ids∧eT outs id=some (dp ids aH id)∧∃ cs,af hc (dp ids aH id)=some (.box (dp ids aH id) cs):=fun id hid=>by
    have:=List.all_eq_true.1 hpin id hid
    simp only [Bool.and_eq_true,List.elem_eq_mem,decide_eq_true_eq] at this
    obtain ⟨h1,h2⟩:=this
    split at h2
    · rename_i j hj
      simp only [Bool.and_eq_true] at h2
      obtain ⟨h3,h4⟩:=h2
      obtain rfl:=Nat.eq_of_beq_eq_true h3
      split at h4
      · rename_i t cs hb
        obtain rfl:=Nat.eq_of_beq_eq_true h4
        exact ⟨h1,hj,cs,hb⟩
      · cases h4
    · cases h2
  have hup0:∀ id∈ids,dp ids aH id≠0:=fun id hid=>by
    obtain ⟨i,_,h2⟩:=gx ids aH id hid
    rw [h2]; unfold aH; omega
  have hpine:∀ id∈pins,ρ' (dp ids aH id)=ρ id:=fun id hid=>by
    obtain ⟨h1,h2,cs,h3⟩:=hpins id hid
    obtain ⟨l',hl',hbl⟩:=hH'.get _ _ h3
    rcases hbl.1 with h | h
    · exact absurd h (hup0 id h1)
    · rw [hBc] at h
      rw [hl',← hup id h1]
      exact h.symm
  have houts:∀ id j,eT outs id=some j→id∈pins∨id∈bJ d:=fun id j hj=>by
    have:=List.all_eq_true.1 hnew _ (jp _ _ _ hj)
    simpa using this
  have hρo:∀ id,id ∉ bJ d→ρ2 id=ρ id:=fun id hid=>by
    rw [hρ2]
    simp only
    split
    · rename_i j hj
      have hp:=(houts id j hj).resolve_right hid
      obtain ⟨_,h2,_⟩:=hpins id hp
      rw [hj] at h2; cases h2
      exact hpine id hp
    · rfl
  have hext:∀ id l,ρ id=some l→ρ2 id=some l:=fun id l h=>by
    by_cases hc:id∈bJ d
    · rw [hfr id (by rw [hids]; exact hc)] at h; cases h
    · rw [hρo id hc]; exact h
  have hdn:∀ j∈outs.map (·.2),∀ l,ρ' j=some l→ρ2 (iE outs j)=some l:=fun j hj l hl=>by
    rw [hρ2]
    simp only [fy outs _ _ hn1 (lV outs j hj)]
    exact hl
  have hsame:∀ b,S b→w'.heap[b]? = w.heap[b]? := fun b hb=>hfrw.block b (hH.lt b hb) fun h=>hownS b h hb
  have new:∀ id b,af (dy (bt (bI ops ws i) h) hc pins outs outs) id=some b→∃ j b0 l,(id,j)∈outs∧af hc j=some b0∧ρ' j=some l∧ρ2 id=some l∧BlkRel X.E S' ρ' w' Bc l b0∧BlkRel X.E S' ρ2 w' B l b:=fun id b hg=>by
    obtain ⟨j,b0,h1,h2,rfl⟩:=gY outs id b hg
    obtain ⟨l,hl,hbl⟩:=hH'.get j b0 h2
    have hf:=fy outs id j hn1 h1
    have hl2:ρ2 id=some l:=by rw [hρ2]; simp only [hf]; exact hl
    have hw:b0.within (outs.map (·.2))=true:=by
      have:=List.all_eq_true.1 hbw _ h1
      simp only [h2] at this
      exact this
    refine ⟨j,b0,l,h1,h2,hl,hl2,hbl,hbl.ren hX.u hw hdn (fun hn=>hown _ (hbl.lt hn).2.1) ?_⟩
    cases hp:pins.elem id with
    | false=>exact .inl rfl
    | true =>
      simp only [cond]
      have hp':id∈pins:=by simpa using hp
      obtain ⟨g1,g2,_⟩:=hpins id hp'
      rw [hf] at g2; cases g2
      obtain ⟨b1,hb1⟩:=cR _ _ _ hh id g1
      obtain ⟨l1,hl1,hbl1⟩:=hH.get id b1 (hs' _ _ hb1)
      have:=hpine id hp'
      rw [hl,hl1] at this
      cases this
      rw [hb1]
      cases b1 with
      | box t cs=>exact hbl1.1
      | _=>exact .inl rfl
  have oldfree:∀ id b l,af (bq H ids) id=some b→ρ id=some l→l.n≠0→l.b < w.heap.size∧¬ Bc.own l.b∧¬ S' l.b:=fun id b l hg hl hn=>by
    rw [aY] at hg
    split at hg
    · cases hg
    · rename_i hni
      obtain ⟨l',hl',hbl⟩:=hH.get id b hg
      rw [hl] at hl'; cases hl'
      have hlt:=hbl.lt hn
      have hno:¬ Bc.own l.b:=fun ho=>by
        rw [hBc] at ho
        rcases ho with h | ⟨id',hid',l2,hl2,hn2,e⟩
        · have : w.heap.size ≤ l.b := h
          omega
        · obtain ⟨b2, _, hb2, _, _⟩ := hmem id' hid'
          exact hH.inj id id' b b2 l l2 hg hb2 (by rintro rfl; exact hni hid') hl hl2 hn hn2 e.symm
      exact ⟨hlt.1,hno,fun hs=>by rcases hs2 _ hs with h | h; exact hlt.2.2 h; exact hno h⟩
  rw [show o.dst=bf ops i from hdst.trans hd'.symm]
  refine hn v' w' S' ρ2 ⟨hfrw.mono hown,hs1,fun b hb => ?_,fun id hid=>hρo id (by rw [← hids]; exact hid),fun c x hr=>hr.mono hs1 hsame hext,?_,hv'.ren hX.u hvw hdn⟩
  · rcases hs2 b hb with h | h
    · exact .inl h
    · exact .inr (hown b h)
  · rw [hw]
    refine ⟨fun id b hg => ?_,fun m1 m2 b b' l l' hgi hgj hne hli hlj hn hn' => ?_,hH'.lt⟩
    · rw [a7] at hg
      split at hg
      · rename_i b' hb'
        cases hg
        obtain ⟨_,_,l,_,_,_,h1,_,h2⟩:=new id b hb'
        exact ⟨l,h1,h2⟩
      · have hg0 := hg
        rw [aY] at hg0
        split at hg0
        · cases hg0
        · obtain ⟨l, hl, hbl⟩ := hH.get id b hg0
          refine ⟨l,hext id l hl,hbl.mono hs1 hsame hext fun hn => ?_⟩
          obtain ⟨c1,c2,c3⟩:=oldfree id b l hg hl hn
          exact ⟨hfrw.block _ c1 c2,c3⟩
    · have kind : ∀ id b l, af (dy (bt (bI ops ws i) h) hc pins outs outs ++ bq H ids) id = some b → ρ2 id = some l → l.n ≠ 0 → (∃ j b0, (id, j) ∈ outs ∧ af hc j = some b0 ∧ ρ' j = some l ∧ Bc.own l.b) ∨ (∃ b0, af H id = some b0 ∧ ρ id = some l ∧ ¬ Bc.own l.b) := fun id b l hg hl hn => by
        rw [a7] at hg
        split at hg
        · rename_i b' hb'
          obtain ⟨j,b0,l2,h1,h2,h3,h4,h5,_⟩:=new id b' hb'
          rw [hl] at h4; cases h4
          exact .inl ⟨j,b0,h1,h2,h3,(h5.lt hn).2.1⟩
        · have hg0 := hg
          rw [aY] at hg0
          split at hg0
          · cases hg0
          · obtain ⟨l2, hl2, _⟩ := hH.get id b hg0
            have:=hext id l2 hl2
            rw [hl] at this; cases this
            exact .inr ⟨b,hg0,hl2,(oldfree id b l hg hl2 hn).2.1⟩
      rcases kind m1 b l hgi hli hn with ⟨j1,b1,p1,p2,p3,p4⟩ | ⟨b1,p1,p2,p3⟩<;>rcases kind m2 b' l' hgj hlj hn' with ⟨j2,b2,q1,q2,q3,q4⟩ | ⟨b2,q1,q2,q3⟩
      · refine hH'.inj j1 j2 b1 b2 l l' p2 q2 (fun e => hne ?_) p3 q3 hn hn'
        subst e
        have hsnd:∀ (l:List (Nat×Nat)) (x y z:Nat),(l.map (·.2)).Nodup→(x,z)∈l→(y,z)∈l→x=y:=by
          intro l
          induction l with
          | nil=>intro x y z _ h; cases h
          | cons p l ih =>
            intro x y z hnn h1 h2
            simp only [List.map_cons,List.nodup_cons] at hnn
            rcases List.mem_cons.1 h1 with e1 | h1<;>rcases List.mem_cons.1 h2 with e2 | h2
            · rw [← e1] at e2; exact (Prod.mk.inj e2).1.symm
            · exact absurd (List.mem_map.2 ⟨_,h2,by rw [← e1]⟩) hnn.1
            · exact absurd (List.mem_map.2 ⟨_,h1,by rw [← e2]⟩) hnn.1
            · exact ih x y z hnn.2 h1 h2
        exact hsnd outs m1 m2 j1 hn2 p1 q1
      · intro e; exact q3 (e ▸ p4)
      · intro e; exact p3 (e ▸ q4)
      · exact hH.inj m1 m2 b1 b2 l l' p1 q1 hne p2 q2 hn hn'
theorem j4 {k : St U El → Option (Fin U El)} {ops : Array Oper} {Q : Exit → Act → World → Prop} {ws : List (Nat × Nat)} (hX : CtxOk P X) :
    ∀ (os:List Oper) (j:Nat) (t:aV U El) (h:ar U El),ops.toList.drop j=os→j+os.length=ops.size→ce X (ops.toList.map (·.dst)) (fun i=>bI ops ws i) ws os j t h k=some r →
    ∃ v nw T Hs st',Trace P X ops Q ws j t h k r v nw T Hs st':=by
  intro os
  induction os with
  | nil =>
    intro j t h hd hj hv
    simp only [ce] at hv
    simp only [List.length_nil,Nat.add_zero] at hj
    subst hj
    exact ⟨fun _ => .any,fun _=>[],fun _=>aF t,fun _=>h,_,fun _=>rfl,rfl,fun i h1 h2=>by omega,fun i h1 h2=>by omega,fun i h1 h2=>by omega,fun i h1 h2=>by omega,fun i h1 h2=>by omega,fun _=>rfl,rfl,hv⟩
  | cons o os ih =>
    intro j t h hd hj hv
    have ho:ops[j]? = some o:=by
      have:(ops.toList.drop j)[0]? = some o:=by rw [hd]; rfl
      rw [List.getElem?_drop] at this
      simpa using this
    have hd':ops.toList.drop (j+1)=os:=by rw [← List.drop_drop,hd]; rfl
    have hj':j+1+os.length=ops.size:=by simp only [List.length_cons] at hj; omega
    have hdst:bf ops j=o.dst:=by simp [bf,ho]
    have hids:bO ops j=aJ o (o.dst.getD 999):=by simp [bO,ho]
    have hlooks:aI ops j=Oper.looks (ops.toList.map (·.dst)) o:=by simp [aI,ho]
    have join:∀ (t1:aV U El) (h1:ar U El) (av:AV U El) (nwj:ar U El),(∀ x,aF t1 x=if bf ops j=some x then av else aF t x)→(∀ id,(id∈bu ws j∨af nwj id≠none)→af h1 id=af nwj id)→(∀ id,¬ (id∈bu ws j∨af nwj id≠none)→af h1 id=af h id) →
        (∀ id,af nwj id≠none→id∈bO ops j∨id∈bu ws j)→fb P X ops Q ws j (aF t) h av nwj →
        ce X (ops.toList.map (·.dst)) (fun i=>bI ops ws i) ws os (j+1) t1 h1 k=some r→∃ v nw T Hs st',Trace P X ops Q ws j t h k r v nw T Hs st':=by
      intro t1 h1 av nwj ht1 hh1 hh2 hkeys hfact hv'
      obtain ⟨v,nw,T,Hs,st',htr⟩:=ih (j+1) _ _ hd' hj' hv'
      refine ⟨fun i=>if i=j then av else v i,fun i=>if i=j then nwj else nw i,fun i=>if i=j then aF t else T i,fun i=>if i=j then h else Hs i,st',?_⟩
      refine ⟨fun x=>by simp,by simp,fun i g1 g2 x => ?_,fun i g1 g2 id => ?_,fun i g1 g2 id => ?_,fun i g1 g2 id => ?_,fun i g1 g2 => ?_,fun x => ?_,?_,htr.endK⟩
      · by_cases e1 : i = j
        · subst e1
          rw [if_neg (by omega)]
          simp only [if_true]
          rw [htr.T0]
          exact ht1 x
        · rw [if_neg (by omega), if_neg e1, if_neg e1]
          exact htr.stepT i (by omega) g2 x
      · by_cases e1 : i = j
        · subst e1
          have e2:¬ (i+1=i):=by omega
          simp only [if_neg e2,if_true]
          rw [htr.H0]
          exact hh1 id
        · have e2 : ¬ (i + 1 = j) := by omega
          simp only [if_neg e1,if_neg e2]
          exact htr.stepH1 i (by omega) g2 id
      · by_cases e1 : i = j
        · subst e1
          have e2:¬ (i+1=i):=by omega
          simp only [if_neg e2,if_true]
          rw [htr.H0]
          exact hh2 id
        · have e2 : ¬ (i + 1 = j) := by omega
          simp only [if_neg e1,if_neg e2]
          exact htr.stepH2 i (by omega) g2 id
      · by_cases e1 : i = j
        · subst e1; simp only [if_true]; exact hkeys id
        · simp only [if_neg e1]; exact htr.keys i (by omega) g2 id
      · by_cases e1 : i = j
        · subst e1; simp only [if_true]; exact hfact
        · simp only [if_neg e1]; exact htr.fact i (by omega) g2
      · rw [if_neg (by simp only [List.length_cons] at hj; omega)]; exact htr.endT x
      · rw [if_neg (by simp only [List.length_cons] at hj; omega)]; exact htr.endH
    simp only [ce] at hv
    have hput:∀ (t1:aV U El) (e:Nat) (av:AV U El),o.dst=some e→(∀ x,aF t1 x=aF t x)→∀ x,aF ((e,av) :: t1) x=if bf ops j=some x then av else aF t x:=fun t1 e av he ht1 x=>by
      rw [hdst,he]
      simp only [aF,Option.some.injEq]
      by_cases e2:e=x
      · rw [if_pos e2,e2,Nat.beq_refl]; rfl
      · rw [if_neg e2,ai e2]; exact ht1 x
    have doit : ∀ (t1 : aV U El), (∀ x, aF t1 x = aF t x) → (∀ (S : Nat → Prop) (ρ : Rho) (w : World) (a : Act), (∀ x ∈ aI ops j, Rel X.E S ρ w (aF t x) (a.tmps.getD x undef)) → Region.wanted o (yielded ops a.tmps) = true) →
        bK o t1 (fun t'=>kG X o (bI ops ws j) (bu ws j) t' h fun t2 h2=>ce X (ops.toList.map (·.dst)) (fun i=>bI ops ws i) ws os (j+1) t2 h2 k)=some r→∃ v nw T Hs st',Trace P X ops Q ws j t h k r v nw T Hs st':=by
      intro t1 ht1 hwant hw
      obtain ⟨t',hk,hor⟩:=dV hw
      have ht':∀ x,aF t' x=aF t x:=by
        rcases hor with rfl | ⟨g,b,hg,rfl⟩
        · exact ht1
        · exact fun x=>(kR hg x).trans (ht1 x)
      unfold kG at hk
      split at hk
      · rename_i ty p v hop
        split at hk
        · rename_i id hwj hod
          obtain ⟨hnm,hk1⟩:=ab hk
          obtain ⟨b,old,g1,g2,g3⟩:=lL hnm hk1
          have g1':=g1
          rw [cP] at g1
          split at g1
          · rename_i hsf
            rw [bB,if_pos rfl,g1'] at g2
            simp only [Option.map_some] at g2
            refine join t' _ .any [(id,b)] (fun x => ?_) (fun id' hor => ?_) (fun id' hor => ?_) (fun id' hne => ?_) (mY hX ho hop hod hwj hwant ht' hsf g1 g3) g2
            · rw [hdst,hod]; simpa using ht' x
            · rw [hwj] at hor
              simp only [af,List.mem_singleton] at hor ⊢
              by_cases e:id=id'
              · subst e; rw [Nat.beq_refl]; rfl
              · rw [ai e] at hor ⊢
                simp only [cond] at hor
                rcases hor with h | h
                · exact absurd h.symm e
                · exact absurd rfl h
            · rw [hwj] at hor
              simp only [af,List.mem_singleton,not_or] at hor ⊢
              rw [ai (Ne.symm hor.1)]
              simp only [cond,cb,if_neg hor.1]
            · right
              rw [hwj]
              simp only [af] at hne
              by_cases e:id=id'
              · simp [e]
              · rw [ai e] at hne; exact absurd rfl hne
          · cases g1
        · cases hk
      · rename_i ty m ix x hop
        split at hk
        · rename_i id hwj hod
          obtain ⟨hnm,hk1⟩:=ab hk
          obtain ⟨b,old,g1,g2,g3⟩:=mV hnm hk1
          have g1':=g1
          rw [cP] at g1
          split at g1
          · rename_i hsf
            rw [bB,if_pos rfl,g1'] at g2
            simp only [Option.map_some] at g2
            refine join t' _ .any [(id,b)] (fun x => ?_) (fun id' hor => ?_) (fun id' hor => ?_) (fun id' hne => ?_) (oq hX ho hop hod hwj hwant ht' hsf g1 g3) g2
            · rw [hdst,hod]; simpa using ht' x
            · rw [hwj] at hor
              simp only [af,List.mem_singleton] at hor ⊢
              by_cases e:id=id'
              · subst e; rw [Nat.beq_refl]; rfl
              · rw [ai e] at hor ⊢
                simp only [cond] at hor
                rcases hor with h | h
                · exact absurd h.symm e
                · exact absurd rfl h
            · rw [hwj] at hor
              simp only [af,List.mem_singleton,not_or] at hor ⊢
              rw [ai (Ne.symm hor.1)]
              simp only [cond,cb,if_neg hor.1]
            · right
              rw [hwj]
              simp only [af] at hne
              by_cases e:id=id'
              · simp [e]
              · rw [ai e] at hne; exact absurd rfl hne
          · cases g1
        · cases hk
      · rename_i as ts hop
        split at hk
        · rename_i s x ty ty' d has hts hod
          split at hk
          · rename_i u htd
            split at hk
            · rename_i xs sid ys hxs hys
              obtain ⟨hck,hk1⟩:=ab hk
              simp only [Bool.and_eq_true,decide_eq_true_eq,nle] at hck
              obtain ⟨⟨⟨hty,hwj⟩,hb⟩,hm⟩:=hck
              obtain rfl:=Nat.eq_of_beq_eq_true hty
              have ha:as=#[s,x]:=by apply Array.ext'; simpa using has
              have hts':ts=#[ty,ty]:=by apply Array.ext'; simpa using hts
              subst ha hts'
              refine join _ _ (.ful d) [(d,.rows u (xs++ys))] (hput t' d _ hod ht') (fun id' hor => ?_) (fun id' hor => ?_) (fun id' hne => ?_) (lS hX ho hop hod hwj hwant ht' htd hxs hys hb hm) hk1
              · simp only [af]
                by_cases e:d=id'
                · subst e; rw [Nat.beq_refl]; rfl
                · rw [ai e]
                  simp only [af,ai e,cond] at hor
                  simp only [cond]
                  rcases hor with h | h
                  · rw [aY,if_pos h]
                  · exact absurd rfl h
              · simp only [af, not_or] at hor ⊢
                by_cases e:d=id'
                · subst e; rw [Nat.beq_refl] at hor; exact absurd (by simp) hor.2
                · rw [ai e]
                  simp only [cond]
                  rw [aY,if_neg hor.1]
              · left
                rw [hids,hod]
                simp only [aJ,hop,Option.getD_some,List.mem_singleton]
                simp only [af] at hne
                by_cases e:d=id'
                · exact e.symm
                · rw [ai e] at hne; exact absurd rfl hne
            · cases hk
          · cases hk
        · cases hk
      · split at hk
        · rename_i d hwj hod
          obtain ⟨out,hk',hall⟩:=(jo (X:=X) (o:=o) (t:=t') (h:=bt (bI ops ws j) h) (d:=d) (fun f vs=>by obtain ⟨oo,h⟩:=hX.det f vs; exact ⟨oo,fun k=>h (fun r e=>k (r,e))⟩)).k hk
          obtain ⟨hck,hk1⟩:=ab hk'
          refine join _ _ out.v out.new (hput t' d _ hod ht') (fun id' hor => ?_) (fun id' hor => ?_) (fun id' hne => ?_) (ov hX ho hod hwj hwant ht' hall) hk1
          · rw [hwj] at hor
            have hne:=hor.resolve_left (by simp)
            rw [a7]
            cases he:af out.new id' with
            | some b=>rfl
            | none=>exact absurd he hne
          · rw [a7]
            cases he:af out.new id' with
            | some b=>exact absurd (.inr (by rw [he]; simp)) hor
            | none=>rfl
          · left
            rw [hids,hod]
            simp only [Option.getD_some]
            have key:∀ (l:ar U El),(l.all fun p=>(aJ o d).contains p.1)=true→af l id'≠none→id'∈aJ o d:=by
              intro l
              induction l with
              | nil=>intro _ h; exact absurd rfl h
              | cons p l ih =>
                intro h1 h2
                obtain ⟨q,b⟩:=p
                simp only [List.all_cons,Bool.and_eq_true] at h1
                simp only [af] at h2
                by_cases e:q=id'
                · subst e; simpa [List.contains_eq_mem] using h1.1
                · rw [ai e] at h2; exact ih h1.2 h2
            exact key _ hck hne
        · rename_i i0 wj' d hwj hod
          split at hk
          · rename_i f as ts hop
            unfold nB at hk
            split at hk
            · rename_i g first caps hfe
              split at hk
              · rename_i sp hsp
                split at hk
                · rename_i hs hh
                  obtain ⟨⟨hcall,hspec⟩,_⟩:=hX.dsp g sp hsp
                  obtain ⟨v,hc,hm,hk1⟩:=hspec _ _ _ _ hk
                  obtain ⟨hck,hk2⟩:=ab hk1
                  simp only [Bool.and_eq_true,decide_eq_true_eq] at hck
                  obtain ⟨hids',haw,hok,hnew⟩:=hck
                  rw [← hids'] at hh hm
                  refine join _ _ (v.ren (iE (dM (bu ws j) d (bE (bu ws j) hc) hc 0))) _ (hput t' d _ hod ht') (fun id' hor => ?_) (fun id' hor => ?_) (fun id' hne => ?_) (m0 hX ho hop hod rfl hwant ht' hfe hcall haw hh hm hok hnew) hk2
                  · rw [a7]
                    cases he:af (dy (bt (bI ops ws j) h) hc (bE (bu ws j) hc) (dM (bu ws j) d (bE (bu ws j) hc) hc 0) (dM (bu ws j) d (bE (bu ws j) hc) hc 0)) id' with
                    | some b=>rfl
                    | none =>
                      rcases hor with h | h
                      · simp only; rw [aY,if_pos h]
                      · exact absurd he h
                  · simp only [not_or] at hor
                    rw [a7]
                    cases he:af (dy (bt (bI ops ws j) h) hc (bE (bu ws j) hc) (dM (bu ws j) d (bE (bu ws j) hc) hc 0) (dM (bu ws j) d (bE (bu ws j) hc) hc 0)) id' with
                    | some b=>exact absurd (by rw [he]; simp) hor.2
                    | none=>simp only; rw [aY,if_neg hor.1]
                  · cases he : af (dy (bt (bI ops ws j) h) hc (bE (bu ws j) hc) (dM (bu ws j) d (bE (bu ws j) hc) hc 0) (dM (bu ws j) d (bE (bu ws j) hc) hc 0)) id' with
                    | none=>exact absurd he hne
                    | some b =>
                      obtain ⟨jj,b0,g1,_⟩:=gY _ _ _ he
                      have:=List.all_eq_true.1 hnew _ g1
                      simp only [Bool.or_eq_true,List.elem_eq_mem,decide_eq_true_eq] at this
                      rcases this with h | h
                      · right
                        simp only [mOk,Bool.and_eq_true,decide_eq_true_eq] at hok
                        have:=List.all_eq_true.1 hok.2.2.2.2.2 _ h
                        simp only [Bool.and_eq_true,List.elem_eq_mem,decide_eq_true_eq] at this
                        exact this.1
                      · left
                        rw [hids,hod]
                        simpa [aJ,hop] using h
                · cases hk
              · cases hk
            · cases hk
          · rename_i ty n ps hop
            obtain ⟨hrw,hk0⟩:=ab hk
            obtain ⟨out,hk',hall⟩:=(jo (X:=X) (o:=o) (t:=mJ (bt (bI ops ws j) h) (bu ws j) t') (h:=bq (bt (bI ops ws j) h) (bu ws j)) (d:=d) (fun f vs=>by obtain ⟨oo,h⟩:=hX.det f vs; exact ⟨oo,fun k=>h (fun r e=>k (r,e))⟩)).k hk0
            obtain ⟨hck,hk1⟩:=ab hk'
            refine join _ _ out.v out.new (hput t' d _ hod ht') (fun id' hor => ?_) (fun id' hor => ?_) (fun id' hne => ?_) (mZ hX ho hod hwant ht' hrw hall) hk1
            · rw [a7]
              cases he:af out.new id' with
              | some b=>rfl
              | none =>
                rcases hor with h | h
                · simp only; rw [aY,if_pos h]
                · exact absurd he h
            · simp only [not_or] at hor
              rw [a7]
              cases he:af out.new id' with
              | some b=>exact absurd (by rw [he]; simp) hor.2
              | none=>simp only; rw [aY,if_neg hor.1]
            · left
              rw [hids,hod]
              simp only [Option.getD_some]
              have key:∀ (l:ar U El),(l.all fun p=>(aJ o d).contains p.1)=true→af l id'≠none→id'∈aJ o d:=by
                intro l
                induction l with
                | nil=>intro _ h; exact absurd rfl h
                | cons p l ih =>
                  intro h1 h2
                  obtain ⟨q,b⟩:=p
                  simp only [List.all_cons,Bool.and_eq_true] at h1
                  simp only [af] at h2
                  by_cases e:q=id'
                  · subst e; simpa [List.contains_eq_mem] using h1.1
                  · rw [ai e] at h2; exact ih h1.2 h2
              exact key _ hck hne
          · cases hk
        · cases hk
    unfold ep at hv
    cases hgd:o.guard with
    | none =>
      rw [hgd] at hv
      simp only at hv
      exact doit t (fun _=>rfl) (fun _ _ _ _ _=>by simp [Region.wanted,hgd]) hv
    | some jw =>
      obtain ⟨gj,want⟩:=jw
      rw [hgd] at hv
      simp only at hv
      split at hv
      · rename_i h; cases h
      · rename_i g want' heq
        simp only [Option.some.injEq,Prod.mk.injEq] at heq
        obtain ⟨hdg,rfl⟩:=heq
        have skip : ∀ (t1 : aV U El), (∀ x, aF t1 x = aF t x) → (∀ (S : Nat → Prop) (ρ : Rho) (w : World) (a : Act), (∀ x ∈ aI ops j, Rel X.E S ρ w (aF t x) (a.tmps.getD x undef)) → Region.wanted o (yielded ops a.tmps) = false) →
            (match o.dst,bu ws j with | some d,[]=>ce X (ops.toList.map (·.dst)) (fun i=>bI ops ws i) ws os (j+1) ((d,.tup []) :: t1) h k | some d,id :: wj=>ce X (ops.toList.map (·.dst)) (fun i=>bI ops ws i) ws os (j+1) ((d,.tup []) :: t1) (bt (fun i=>bI ops ws j i&&(id :: wj).elem i) h++bq h (id :: wj)) k | none,_=>none)=some r→∃ v nw T Hs st',Trace P X ops Q ws j t h k r v nw T Hs st':=by
          intro t1 ht1 hwant hv'
          split at hv'
          · rename_i e hod hwj
            refine join _ h (.tup []) [] (hput t1 e _ hod ht1) (fun id' hor => ?_) (fun _ _=>rfl) (fun id' hne=>absurd rfl hne) ?_ hv'
            · rw [hwj] at hor
              rcases hor with h | h
              · cases h
              · exact absurd rfl h
            · intro S ρ w a B H K hdef hsz hB hG hT hH hs hfr hn
              unfold wpOp
              rw [ho]
              simp only [hwant S ρ w a hT,Bool.false_eq_true,if_false]
              have:=hn undef w S ρ ⟨Fr.refl B w,fun _ h=>h,fun _ h => .inl h,fun _ _=>rfl,fun _ _ h=>h,by rw [hwj]; exact hH,fw⟩
              rw [hdst] at this
              exact this
          · rename_i e id0 wj0 hod hwj
            have hfl:∀ i b,af (bt (fun i=>bI ops ws j i&&(id0 :: wj0).elem i) h) i=some b→bI ops ws j i=true∧i∈bu ws j∧af h i=some b:=fun i b hg=>by
              rw [cP] at hg
              split at hg
              · rename_i hc
                simp only [Bool.and_eq_true,List.elem_eq_mem,decide_eq_true_eq] at hc
                exact ⟨hc.1,by rw [hwj]; exact hc.2,hg⟩
              · cases hg
            refine join _ (bt (fun i=>bI ops ws j i&&(id0 :: wj0).elem i) h++bq h (id0 :: wj0)) (.tup []) (bt (fun i=>bI ops ws j i&&(id0 :: wj0).elem i) h) (hput t1 e _ hod ht1) (fun id' hor => ?_) (fun id' hor => ?_) (fun id' hne => ?_) ?_ hv'
            · rw [a7]
              cases he:af (bt (fun i=>bI ops ws j i&&(id0 :: wj0).elem i) h) id' with
              | some b=>rfl
              | none =>
                rcases hor with h | h
                · simp only; rw [aY,if_pos (by rw [hwj] at h; exact h)]
                · exact absurd he h
            · simp only [not_or] at hor
              rw [a7]
              cases he:af (bt (fun i=>bI ops ws j i&&(id0 :: wj0).elem i) h) id' with
              | some b=>exact absurd (by rw [he]; simp) hor.2
              | none=>simp only; rw [aY,if_neg (by rw [← hwj]; exact hor.1)]
            · right
              cases he:af (bt (fun i=>bI ops ws j i&&(id0 :: wj0).elem i) h) id' with
              | none=>exact absurd he hne
              | some b=>exact (hfl _ _ he).2.1
            · intro S ρ w a B H K hdef hsz hB hG hT hH hs hfr hn
              unfold wpOp
              rw [ho]
              simp only [hwant S ρ w a hT,Bool.false_eq_true,if_false]
              have sub:∀ i b,af (bt (fun i=>bI ops ws j i&&(id0 :: wj0).elem i) h++bq H (bu ws j)) i=some b→af H i=some b:=fun i b hg=>by
                rw [a7] at hg
                cases he:af (bt (fun i=>bI ops ws j i&&(id0 :: wj0).elem i) h) i with
                | some b' =>
                  rw [he] at hg
                  cases hg
                  exact hs i _ (hfl _ _ he).1 (hfl _ _ he).2.2
                | none =>
                  rw [he] at hg
                  simp only at hg
                  rw [aY] at hg
                  split at hg
                  · cases hg
                  · exact hg
              have:=hn undef w S ρ ⟨Fr.refl B w,fun _ h=>h,fun _ h => .inl h,fun _ _=>rfl,fun _ _ h=>h,⟨fun i b hg=>hH.get i b (sub i b hg),fun i i' b b' l l' hi hi'=>hH.inj i i' b b' l l' (sub i b hi) (sub i' b' hi'),hH.lt⟩,fw⟩
              rw [hdst] at this
              exact this
          · cases hv'
        rcases eC hv with ⟨b,hb,hv'⟩ | ⟨hb,hv'⟩
        · have hwb : ∀ (S : Nat → Prop) (ρ : Rho) (w : World) (a : Act), (∀ x ∈ aI ops j, Rel X.E S ρ w (aF t x) (a.tmps.getD x undef)) → Region.wanted o (yielded ops a.tmps) = (!(Bool.xor b want)) := fun S ρ w a hT => by
            have:=hT g (by rw [hlooks]; exact ip hgd hdg)
            rw [hb] at this
            generalize hq:a.tmps.getD g undef=q at this
            cases this
            exact fV hgd hdg hq
          cases hx:Bool.xor b want with
          | true =>
            rw [hx] at hv'
            simp only [cond] at hv'
            exact skip _ (kR hb) (fun S ρ w a hT=>by rw [hwb S ρ w a hT,hx]; rfl) hv'
          | false =>
            rw [hx] at hv'
            simp only [cond] at hv'
            exact doit _ (kR hb) (fun S ρ w a hT=>by rw [hwb S ρ w a hT,hx]; rfl) hv'
        · have hx : Bool.xor (!want) want = true := by cases want <;> rfl
          rw [hx] at hv'
          simp only [cond] at hv'
          refine skip t (fun _=>rfl) (fun S ρ w a hT => ?_) hv'
          have:=hT g (by rw [hlooks]; exact ip hgd hdg)
          rw [hb] at this
          exact fa hgd hdg (gX this)
      · cases hv
end
end Go.Proofs.Ythdklallcljhlaa

namespace Go.Proofs.Ythdklallcljhlaa
set_option linter.unusedVariables false
set_option linter.unusedSectionVars false
set_option linter.unusedSimpArgs false
open Go.RowKit
section
variable {U:Type} {El:U→Type} {P:Program} {X:Ctx U El} {S S0:Nat→Prop} {ρ:Rho} {w w0:World} [DecidableEq U]
variable {o:Oper} {a:Act} {st:St U El} {B:Bd} {d:Nat} {r:Fin U El}
theorem m5 {A A':List Nat}:∀ (es:List Edge) (m:Nat),(∀ e∈es,Region.binds .any e=true→A.getD e.on 0=A'.getD e.on 0)→mI A es m=mI A' es m:=by
  intro es
  induction es with
  | nil=>intro m _; rfl
  | cons e es ih =>
    intro m h
    simp only [mI]
    cases hb:Region.binds .any e with
    | false=>exact ih _ (fun e' he'=>h e' (by simp [he']))
    | true =>
      rw [h e (by simp) hb]
      exact ih _ (fun e' he'=>h e' (by simp [he']))
theorem pF {A : List Nat} : ∀ (es : List Edge) (m k : Nat), Nat.testBit (mI A es m) k = true → Nat.testBit m k = true ∨ ∃ e ∈ es, Region.binds .any e = true ∧ (k = e.on ∨ Nat.testBit (A.getD e.on 0) k = true) := by
  intro es
  induction es with
  | nil=>intro m k h; exact .inl h
  | cons e es ih =>
    intro m k h
    simp only [mI] at h
    rcases ih _ k h with h' | ⟨e',he',h'⟩
    · cases hb : Region.binds .any e with
      | false=>rw [hb] at h'; exact .inl h'
      | true =>
        rw [hb] at h'
        simp only [cond] at h'
        have h2:(Nat.testBit m k||(Nat.testBit (2 ^ e.on) k||Nat.testBit (A.getD e.on 0) k))=true:=by
          rw [← Nat.testBit_or,← Nat.testBit_or]
          exact h'
        simp only [Bool.or_eq_true] at h2
        rcases h2 with h2 | h2 | h2
        · exact .inl h2
        · right
          refine ⟨e,by simp,hb,.inl ?_⟩
          rw [Nat.testBit_two_pow] at h2
          simpa using (of_decide_eq_true h2).symm
        · exact .inr ⟨e,by simp,hb,.inr h2⟩
    · exact .inr ⟨e',by simp [he'],h'⟩
abbrev jq (ops:Array Oper) (k i:Nat):Prop:=Nat.testBit ((eK ops.toList []).getD i 0) k=true
structure DrawFacts (ops:Array Oper) (ws:List (Nat×Nat)) (nt:Nat):Prop where
  dst:∀ i e,bf ops i=some e→e < nt∧(0 < e∨bO ops i=[])∧e < 1000
  dstN:∀ i,bf ops i=none→bO ops i=[]
  uniq:∀ i j x,bf ops i=some x→bf ops j=some x→i=j
  back:∀ i o,ops[i]? = some o→∀ e∈o.after,Region.binds .any e=true→e.on < i
  looks:∀ i k x,i < ops.size→k < ops.size→k≠i→bf ops k=some x→x∈aI ops i→(k < i→jq ops k i)∧(i < k→jq ops i k)
  ancOk:∀ i o,ops[i]? = some o→(eK ops.toList []).getD i 0=eO (eK ops.toList []) o
  ev:∀ i j id,i < j→(i,id)∈eP ops.toList ws→(j,id)∈eP ops.toList ws→jq ops i j
theorem qO {ops:Array Oper} {ws:List (Nat×Nat)} {i id:Nat} (h:id∈bO ops i∨id∈bu ws i):(i,id)∈eP ops.toList ws:=by
  unfold eP
  rcases h with h | h
  · refine List.mem_append_left _ (List.mem_flatMap.2 ?_)
    unfold bO at h
    split at h
    · rename_i o ho
      refine ⟨(o,i),?_,List.mem_map.2 ⟨id,h,rfl⟩⟩
      rw [List.mem_zipIdx_iff_getElem?]
      simpa using ho
    · cases h
  · refine List.mem_append_right _ ?_
    unfold bu at h
    obtain ⟨p,hp,rfl⟩:=List.mem_map.1 h
    obtain ⟨h1,h2⟩:=List.mem_filter.1 hp
    obtain rfl:=Nat.eq_of_beq_eq_true h2
    exact h1
theorem nM {ops:Array Oper} {ws:List (Nat×Nat)} {i id:Nat} (h:bI ops ws i id=true) {j:Nat} (hji:j≠i) (hj:(j,id)∈eP ops.toList ws):(j < i→jq ops j i)∧(i < j→jq ops i j):=by
  have:=List.all_eq_true.1 h _ hj
  dsimp only at this
  rw [Nat.beq_refl,ai hji] at this
  simp only [Bool.not_true,Bool.false_or] at this
  refine ⟨fun hlt => ?_,fun hlt => ?_⟩
  · have hb : Nat.blt j i = true := Nat.ble_eq_true_of_le hlt
    rw [hb] at this
    exact this
  · have hb : Nat.blt j i = false := by
      cases e:Nat.blt j i with
      | false=>rfl
      | true=>have:=Nat.le_of_ble_eq_true e; omega
    rw [hb] at this
    exact this
theorem pG:∀ (os:List Oper) (acc:List Nat),∃ tl,eK os acc=acc++tl∧tl.length=os.length:=by
  intro os
  induction os with
  | nil=>intro acc; exact ⟨[],by simp [eK],rfl⟩
  | cons o os ih =>
    intro acc
    obtain ⟨tl,h1,h2⟩:=ih (acc++[eO acc o])
    exact ⟨eO acc o :: tl,by simp [eK,h1],by simp [h2]⟩
theorem pH:∀ (os:List Oper) (acc:List Nat) (i:Nat) (o:Oper),os[i]? = some o→∃ pre,(eK os acc)[acc.length+i]? = some (eO pre o)∧pre.length=acc.length+i∧∀ k,k < pre.length→(eK os acc)[k]? = pre[k]? := by
  intro os
  induction os with
  | nil=>intro acc i o h; simp at h
  | cons p os ih =>
    intro acc i o h
    obtain ⟨tl,h1,h2⟩:=pG os (acc++[eO acc p])
    have hun:eK (p :: os) acc=eK os (acc++[eO acc p]):=rfl
    cases i with
    | zero =>
      simp at h
      subst h
      refine ⟨acc,?_,by simp,fun k hk => ?_⟩
      · rw [hun,h1]; simp
      · rw [hun,h1,List.append_assoc,List.getElem?_append_left hk]
    | succ i =>
      obtain ⟨pre,g1,g2,g3⟩:=ih (acc++[eO acc p]) i o (by simpa using h)
      refine ⟨pre,?_,by simp at g2; omega,fun k hk=>by rw [hun]; exact g3 k hk⟩
      rw [hun]
      rw [show acc.length+(i+1)=(acc++[eO acc p]).length+i by simp; omega]
      exact g1
theorem ox {ops : Array Oper} {ws : List (Nat × Nat)} {nt : Nat} (h : gR nt ops.toList ws = true) : DrawFacts ops ws nt := by
  unfold gR at h
  simp only [Bool.and_eq_true] at h
  obtain ⟨⟨⟨⟨⟨h1,h2⟩,h3⟩,h4⟩,h5⟩,h6⟩:=h
  have mem:∀ i o,ops[i]? = some o→(o,i)∈ops.toList.zipIdx:=fun i o ho=>by
    rw [List.mem_zipIdx_iff_getElem?]
    simpa using ho
  have hb:∀ i o,ops[i]? = some o→∀ e∈o.after,Region.binds .any e=true→e.on < i:=fun i o ho e he hbind=>by
    have:=List.all_eq_true.1 h1 _ (mem i o ho)
    have:=List.all_eq_true.1 this e (by simpa using he)
    rw [hbind] at this
    exact Nat.le_of_ble_eq_true (by simpa [Nat.blt] using this)
  have hop:∀ i e,bf ops i=some e→∃ o,ops[i]? = some o∧o.dst=some e:=fun i e he=>by
    unfold bf at he
    cases ho:ops[i]? with
    | none=>rw [ho] at he; cases he
    | some o=>rw [ho] at he; exact ⟨o,rfl,he⟩
  have pair:∀ i k o p,ops[i]? = some o→ops[k]? = some p→i≠k→∀ x,p.dst=some x→o.dst≠some x∧(x∈Oper.looks (ops.toList.map (·.dst)) o→(bif Nat.blt k i then Nat.testBit ((eK ops.toList []).getD i 0) k else Nat.testBit ((eK ops.toList []).getD k 0) i)=true):=fun i k o p ho hp hne x hx=>by
    have:=List.all_eq_true.1 (List.all_eq_true.1 h3 _ (mem i o ho)) _ (mem k p hp)
    dsimp only at this
    rw [ai hne,hx] at this
    simp only [Bool.false_or,Bool.and_eq_true,Bool.not_eq_true',Bool.or_eq_true] at this
    refine ⟨fun e' => ?_,fun hm => ?_⟩
    · rw [e'] at this
      simp [Nat.beq_refl] at this
    · rcases this.2 with h | h
      · exfalso
        rw [List.contains_eq_mem] at h
        simp at h
        exact h hm
      · exact h
  refine ⟨fun i e he => ?_,fun i he => ?_,fun i j x hi hj => ?_,hb,fun i k x hi hk hne hx hl => ?_,fun i o ho => ?_,fun i j id hlt hi hj => ?_⟩
  · obtain ⟨o, ho, hod⟩ := hop i e he
    have:=List.all_eq_true.1 h2 _ (mem i _ ho)
    dsimp only at this
    rw [hod] at this
    simp only [Bool.and_eq_true] at this
    refine ⟨Nat.le_of_ble_eq_true this.1.1,?_,Nat.le_of_ble_eq_true this.2⟩
    have h12:=this.1.2
    rw [Bool.or_eq_true] at h12
    rcases h12 with h | h
    · exact .inl (Nat.le_of_ble_eq_true h)
    · right
      simp only [bO,ho,hod,Option.getD_some]
      simpa using h
  · unfold bO
    cases ho:ops[i]? with
    | none=>rfl
    | some o =>
      have hod:o.dst=none:=by simpa [bf,ho] using he
      have:=List.all_eq_true.1 h2 _ (mem i _ ho)
      dsimp only at this
      rw [hod] at this
      simp only at this
      split at this
      · rename_i hop; simp [aJ,hop]
      · rename_i hop; simp [aJ,hop]
      · cases this
  · by_cases h : i = j
    · exact h
    · exfalso
      obtain ⟨o,ho,hod⟩:=hop i x hi
      obtain ⟨p,hp,hpd⟩:=hop j x hj
      exact (pair i j o p ho hp h x hpd).1 hod
  · obtain ⟨p, hp, hpd⟩ := hop k x hx
    have ho:ops[i]? = some ops[i]:=Array.getElem?_eq_getElem hi
    have:=(pair i k _ p ho hp (Ne.symm hne) x hpd).2 (by simpa [aI,ho] using hl)
    refine ⟨fun hlt => ?_,fun hlt => ?_⟩
    · have hb : Nat.blt k i = true := Nat.ble_eq_true_of_le hlt
      rw [hb] at this
      exact this
    · have hb : Nat.blt k i = false := by
        cases e:Nat.blt k i with
        | false=>rfl
        | true=>have:=Nat.le_of_ble_eq_true e; omega
      rw [hb] at this
      exact this
  · obtain ⟨pre, g1, g2, g3⟩ := pH ops.toList [] i o (by simpa using ho)
    simp only [List.length_nil,Nat.zero_add] at g1 g2
    rw [List.getD_eq_getElem?_getD,g1]
    simp only [Option.getD_some]
    unfold eO
    refine m5 _ _ (fun e he hbd => ?_)
    have hlt:=hb i o ho e (by simpa using he) hbd
    rw [List.getD_eq_getElem?_getD,List.getD_eq_getElem?_getD,g3 e.on (by omega)]
  · have := List.all_eq_true.1 (List.all_eq_true.1 h5 _ hi) _ hj
    dsimp only at this
    have hb:Nat.blt i j=true:=Nat.ble_eq_true_of_le hlt
    rw [Nat.beq_refl,hb] at this
    simpa only [Bool.not_true,Bool.false_or] using this
theorem m6 {o:Oper} {d id:Nat} (h:id∈aJ o d):id=d∨∃ i,i < 4∧id=d * 1000+i:=by
  unfold aJ at h
  split at h<;>first
    | (simp at h; exact .inl h)
    | (simp at h; rcases h with h | h; exact .inl h; exact .inr ⟨0,Nat.succ_pos 3,h.trans (Nat.add_zero _).symm⟩)
    | exact .inr (callIds_mem.1 h)
    | (simp at h; done)
theorem oy {ops : Array Oper} {ws : List (Nat × Nat)} {nt : Nat} (hf : DrawFacts ops ws nt) {i j id : Nat} (h1 : id ∈ bO ops i) (h2 : id ∈ bO ops j) : i = j := by
  cases he:bf ops i with
  | none=>rw [hf.dstN i he] at h1; cases h1
  | some e =>
    cases hx:bf ops j with
    | none=>rw [hf.dstN j hx] at h2; cases h2
    | some x =>
      obtain ⟨_,he0',he1⟩:=hf.dst i e he
      obtain ⟨_,hx0',hx1⟩:=hf.dst j x hx
      have he0:0 < e:=he0'.resolve_right (fun h=>by rw [h] at h1; cases h1)
      have hx0:0 < x:=hx0'.resolve_right (fun h=>by rw [h] at h2; cases h2)
      have key:∀ {k y:Nat},bf ops k=some y→id∈bO ops k→id=y∨∃ p,p < 4∧id=y * 1000+p:=by
        intro k y hk hid
        unfold bO at hid
        unfold bf at hk
        cases ho:ops[k]? with
        | none=>rw [ho] at hk; cases hk
        | some o =>
          rw [ho] at hk hid
          have hod:o.dst=some y:=hk
          simp only [hod,Option.getD_some] at hid
          exact m6 hid
      have hxe:x=e:=by
        rcases key he h1 with a1 | ⟨p,hp1,a1⟩<;>rcases key hx h2 with a2 | ⟨q,hq1,a2⟩<;>omega
      subst hxe
      exact hf.uniq i j x he hx
section main
variable {ops:Array Oper} {Q:Exit→Act→World→Prop} {ws:List (Nat×Nat)} {t0:aV U El} {h0:ar U El} {k:St U El→Option (Fin U El)} {v:Nat→AV U El} {nw:Nat→ar U El} {T:Nat→Nat→AV U El} {Hs:Nat→ar U El} {st':St U El}
theorem nN (htr : Trace P X ops Q ws 0 t0 h0 k r v nw T Hs st') (hf : DrawFacts ops ws X.nt) : ∀ i, i ≤ ops.size → (∀ j x, j < i → bf ops j = some x → T i x = v j) ∧ ∀ x, (∀ j, j < i → bf ops j ≠ some x) → T i x = aF t0 x := by
  intro i
  induction i with
  | zero=>intro _; exact ⟨fun j x h=>by omega,fun x _=>htr.T0 x⟩
  | succ i ih =>
    intro hi
    obtain ⟨h1,h2⟩:=ih (by omega)
    refine ⟨fun j x hj hx => ?_,fun x hx => ?_⟩
    · rw [htr.stepT i (Nat.zero_le _) (by omega) x]
      by_cases e:j=i
      · subst e; rw [if_pos hx]
      · rw [if_neg (fun h => e (hf.uniq j i x hx h))]
        exact h1 j x (by omega) hx
    · rw [htr.stepT i (Nat.zero_le _) (by omega) x, if_neg (hx i (by omega))]
      exact h2 x (fun j hj=>hx j (by omega))
def Tch (ws:List (Nat×Nat)) (nw:Nat→ar U El) (n id:Nat):Prop:=id∈bu ws n∨af (nw n) id≠none
open Classical in
noncomputable def Vf (ws:List (Nat×Nat)) (nw:Nat→ar U El) (h0:ar U El) (L:Nat→Prop):Nat→Nat→Option (Blk U El)
  | 0,id=>af h0 id
  | n+1,id=>if L n∧Tch ws nw n id then af (nw n) id else Vf ws nw h0 L n id
theorem iq {L:Nat→Prop} {n id:Nat} (h:L n∧Tch ws nw n id):Vf ws nw h0 L (n+1) id=af (nw n) id:=by simp only [Vf]; rw [if_pos h]
theorem dD {L:Nat→Prop} {n id:Nat} (h:¬ (L n∧Tch ws nw n id)):Vf ws nw h0 L (n+1) id=Vf ws nw h0 L n id:=by simp only [Vf]; rw [if_neg h]
theorem pJ (htr:Trace P X ops Q ws 0 t0 h0 k r v nw T Hs st'):∀ n,n≤ops.size→∀ id,af (Hs n) id=Vf ws nw h0 (fun _=>True) n id:=by
  intro n
  induction n with
  | zero=>intro _ id; rw [htr.H0]; rfl
  | succ n ih =>
    intro hn id
    by_cases h:Tch ws nw n id
    · rw [htr.stepH1 n (Nat.zero_le _) (by omega) id h,iq ⟨trivial,h⟩]
    · rw [htr.stepH2 n (Nat.zero_le _) (by omega) id h, dD (fun hh => h hh.2)]
      exact ih (by omega) id
theorem pK {L L':Nat→Prop}:∀ n,(∀ j,j < n→(L j↔L' j))→∀ id,Vf ws nw h0 L n id=Vf ws nw h0 L' n id:=by
  intro n
  induction n with
  | zero=>intro _ id; rfl
  | succ n ih =>
    intro h id
    by_cases c:L n∧Tch ws nw n id
    · rw [iq c,iq ⟨(h n (by omega)).1 c.1,c.2⟩]
    · rw [dD c, dD (fun c' => c ⟨(h n (by omega)).2 c'.1, c'.2⟩)]
      exact ih (fun j hj=>h j (by omega)) id
theorem qP {L:Nat→Prop}:∀ n,(∀ j,j < n→¬ L j)→∀ id,Vf ws nw h0 L n id=af h0 id:=by
  intro n
  induction n with
  | zero=>intro _ id; rfl
  | succ n ih =>
    intro h id
    rw [dD (fun c=>h n (by omega) c.1)]
    exact ih (fun j hj=>h j (by omega)) id
theorem kS (htr:Trace P X ops Q ws 0 t0 h0 k r v nw T Hs st') {n id:Nat} (hn:n < ops.size) (h:Tch ws nw n id):(n,id)∈eP ops.toList ws:=by
  refine qO ?_
  rcases h with h | h
  · exact .inr h
  · exact htr.keys n (Nat.zero_le _) hn id h
theorem qQ (htr : Trace P X ops Q ws 0 t0 h0 k r v nw T Hs st') (hf : DrawFacts ops ws X.nt) {L : Nat → Prop} {i : Nat} (hi : i < ops.size) (hni : ¬ L i) (hdown : ∀ j, j < ops.size → L j → jq ops i j → False) :
    ∀ n,n≤ops.size→∀ id,(i < n∧Tch ws nw i id→Vf ws nw h0 (fun j=>L j∨j=i) n id=af (nw i) id)∧(¬ (i < n∧Tch ws nw i id)→Vf ws nw h0 (fun j=>L j∨j=i) n id=Vf ws nw h0 L n id):=by
  intro n
  induction n with
  | zero=>intro _ id; exact ⟨fun h=>by omega,fun _=>rfl⟩
  | succ n ih =>
    intro hn id
    obtain ⟨ih1,ih2⟩:=ih (by omega) id
    by_cases hni':n=i
    · subst hni'
      refine ⟨fun h=>iq ⟨.inr rfl,h.2⟩,fun h => ?_⟩
      have ht:¬ Tch ws nw n id:=fun ht=>h ⟨by omega,ht⟩
      rw [dD (fun c=>ht c.2),dD (fun c=>ht c.2)]
      exact ih2 (fun c=>by omega)
    · by_cases c : L n ∧ Tch ws nw n id
      · refine ⟨fun h => ?_, fun h => ?_⟩
        · exfalso
          exact hdown n (by omega) c.1 (hf.ev i n id (by omega) (kS htr hi h.2) (kS htr (by omega) c.2))
        · rw [iq ⟨.inl c.1,c.2⟩,iq c]
      · have c' : ¬ ((fun j => L j ∨ j = i) n ∧ Tch ws nw n id) := fun h => by
          rcases h.1 with h1 | h1
          · exact c ⟨h1,h.2⟩
          · exact hni' h1
        rw [dD c',dD c]
        exact ⟨fun h=>ih1 ⟨by omega,h.2⟩,fun h=>ih2 (fun hh=>h ⟨by omega,hh.2⟩)⟩
theorem rL (htr : Trace P X ops Q ws 0 t0 h0 k r v nw T Hs st') {L : Nat → Prop} {i : Nat} (hi : i < ops.size) (hni : ¬ L i) (hup : ∀ j, jq ops j i → L j) (hdown : ∀ j, j < ops.size → L j → jq ops i j → False) {id : Nat} (hs : bI ops ws i id = true) :
    af (Hs i) id=Vf ws nw h0 L ops.size id:=by
  rw [pJ htr i (by omega) id]
  have p1:∀ n,n≤i→Vf ws nw h0 (fun _=>True) n id=Vf ws nw h0 L n id:=by
    intro n
    induction n with
    | zero=>intro _; rfl
    | succ n ih =>
      intro hn
      by_cases h:Tch ws nw n id
      · have := (nM hs (by omega) (kS htr (by omega) h)).1 (by omega)
        rw [iq ⟨trivial,h⟩,iq ⟨hup n this,h⟩]
      · rw [dD (fun c => h c.2), dD (fun c => h c.2)]
        exact ih (by omega)
  have p2 : ∀ n, i ≤ n → n ≤ ops.size → Vf ws nw h0 L n id = Vf ws nw h0 L i id := by
    intro n
    induction n with
    | zero => intro h1 _; have : i = 0 := by omega
              subst this; rfl
    | succ n ih =>
      intro h1 h2
      by_cases e:i=n+1
      · rw [e]
      · rw [dD (fun c => ?_)]
        · exact ih (by omega) (by omega)
        · by_cases e2 : n = i
          · subst e2; exact hni c.1
          · exact hdown n (by omega) c.1 ((nM hs e2 (kS htr (by omega) c.2)).2 (by omega))
  rw [p1 i (Nat.le_refl _),p2 ops.size (by omega) (Nat.le_refl _)]
structure Mid (X:Ctx U El) (B:Bd) (S0:Nat→Prop) (w0:World) (ops:Array Oper) (ws:List (Nat×Nat)) (t0:aV U El) (h0:ar U El) (v:Nat→AV U El) (nw:Nat→ar U El) (L:Nat→Prop) (S:Nat→Prop) (ρ:Rho) (H:ar U El) (a:Act) (w:World):Prop where
  defers:a.defers=B.df
  size:a.tmps.size=X.nt
  below:Fr B w0 w
  hB:∀ k,w.heap.size≤k→B.own k
  s0:∀ b,S0 b→S b
  s1:∀ b,S b→S0 b∨B.own b
  g0:∀ w',Fr B w0 w'→X.E.G w'
  t1:∀ i x,i < ops.size→L i→bf ops i=some x→Rel X.E S ρ w (v i) (a.tmps.getD x undef)
  t2:∀ x,(∀ i,i < ops.size→L i→bf ops i≠some x)→Rel X.E S ρ w (aF t0 x) (a.tmps.getD x undef)
  heap:HRel X.E S ρ w B H
  hEq:∀ id,af H id=Vf ws nw h0 L ops.size id
  fresh:∀ i,i < ops.size→¬ L i→∀ id∈bO ops i,ρ id=none
  closed:∀ i o,L i→ops[i]? = some o→∀ e∈o.after,Region.binds .any e=true→L e.on
theorem pL (hf : DrawFacts ops ws X.nt) {L : Nat → Prop} (hc : ∀ i o, L i → ops[i]? = some o → ∀ e ∈ o.after, Region.binds .any e = true → L e.on) : ∀ i o, ops[i]? = some o → (∀ e ∈ o.after, Region.binds .any e = true → L e.on) → ∀ k, jq ops k i → L k := by
  intro i
  induction i using Nat.strongRecOn with
  | _ i ih =>
    intro o ho hp k hk
    unfold jq at hk
    rw [hf.ancOk i o ho] at hk
    unfold eO at hk
    rcases pF _ _ _ hk with h | ⟨e,he,hb,hk⟩
    · simp at h
    · have hem : e ∈ o.after := by simpa using he
      have hL:=hp e hem hb
      rcases hk with rfl | hk
      · exact hL
      · have hlt := hf.back i o ho e hem hb
        have hi:i < ops.size:=(Array.getElem?_eq_some_iff.1 ho).1
        have ho':ops[e.on]? = some ops[e.on]:=Array.getElem?_eq_getElem (by omega)
        exact ih e.on hlt _ ho' (hc e.on _ hL ho') k hk
theorem Mid.done (htr:Trace P X ops Q ws 0 t0 h0 k r v nw T Hs st') (hf:DrawFacts ops ws X.nt) {L:Nat→Prop} {H:ar U El} (hm:Mid X B S0 w0 ops ws t0 h0 v nw L S ρ H a w) (hall:∀ i,i < ops.size→L i):StRel X B S0 w0 st' a w:=by
  obtain ⟨hT1,hT2⟩:=nN htr hf ops.size (Nat.le_refl _)
  refine ⟨S,ρ,hm.defers,hm.size,hm.below,hm.hB,hm.s0,hm.s1,hm.g0,fun x => ?_,hm.heap.congr fun id => ?_⟩
  · rw [htr.endT]
    by_cases h:∃ i,i < ops.size∧bf ops i=some x
    · obtain ⟨i, hi, hx⟩ := h
      rw [hT1 i x hi hx]
      exact hm.t1 i x hi (hall i hi) hx
    · rw [hT2 x (fun j hj hx => h ⟨j, hj, hx⟩)]
      exact hm.t2 x (fun i hi _ hx=>h ⟨i,hi,hx⟩)
  · rw [htr.endH, pJ htr ops.size (Nat.le_refl _) id, hm.hEq]
    exact pK ops.size (fun j hj=>⟨fun _=>hall j hj,fun _=>trivial⟩) id
theorem Mid.step (hX : CtxOk P X) (htr : Trace P X ops Q ws 0 t0 h0 k r v nw T Hs st') (hf : DrawFacts ops ws X.nt) {L : Nat → Prop} {H : ar U El} (hm : Mid X B S0 w0 ops ws t0 h0 v nw L S ρ H a w) {i : Nat} {o : Oper} (ho : ops[i]? = some o) (hni : ¬ L i) (hp : ∀ e ∈ o.after, Region.binds .any e = true → L e.on)
    {K:Act→World→Prop} (hK:∀ a' w' S' ρ' H',Mid X B S0 w0 ops ws t0 h0 v nw (fun j=>L j∨j=i) S' ρ' H' a' w'→K a' w'):wpOp P ops Q i K a w:=by
  have hi:i < ops.size:=(Array.getElem?_eq_some_iff.1 ho).1
  obtain ⟨hT1,hT2⟩:=nN htr hf i (by omega)
  have hanc:=pL hf hm.closed i o ho hp
  have hdown:∀ j,j < ops.size→L j→jq ops i j→False:=fun j hj hL hij=>hni (by
    have ho':ops[j]? = some ops[j]:=Array.getElem?_eq_getElem hj
    exact pL hf hm.closed j _ ho' (hm.closed j _ hL ho') i hij)
  refine htr.fact i (Nat.zero_le _) hi S ρ w a B H K hm.defers hm.size hm.hB (fun w' hb=>hm.g0 _ (hm.below.trans hb)) (fun x hx => ?_) hm.heap (fun id b hsf hg => ?_) (hm.fresh i hi hni) (fun v' w' S' ρ' hres => ?_)
  · by_cases h : ∃ j, j < ops.size ∧ j ≠ i ∧ bf ops j = some x
    · obtain ⟨j, hj, hji, hx'⟩ := h
      obtain ⟨l1,l2⟩:=hf.looks i j x hi hj hji hx' hx
      rcases Nat.lt_or_gt_of_ne hji with hlt | hlt
      · rw [hT1 j x hlt hx']
        exact hm.t1 j x hj (hanc j (l1 hlt)) hx'
      · have hnj : ¬ L j := fun hL => hdown j hj hL (l2 hlt)
        rw [hT2 x (fun j' hj' hx2=>by have:=hf.uniq j' j x hx2 hx'; omega)]
        exact hm.t2 x (fun j' hj' hL hx2=>hnj (by have:=hf.uniq j' j x hx2 hx'; rw [← this]; exact hL))
    · rw [hT2 x (fun j hj hx' => h ⟨j, by omega, by omega, hx'⟩)]
      exact hm.t2 x (fun j hj hL hx'=>h ⟨j,hj,by rintro rfl; exact hni hL,hx'⟩)
  · rw [hm.hEq, ← rL htr hi hni hanc hdown hsf]
    exact hg
  · have hput : ∀ x, (a.put (bf ops i) v').tmps.getD x undef = if bf ops i = some x then v' else a.tmps.getD x undef := fun x => by
      cases hde:bf ops i with
      | none=>simp [Act.put]
      | some e =>
        have hen:=(hf.dst i e hde).1
        simp only [Act.put,Array.getD_eq_getD_getElem?,Option.some.injEq]
        by_cases h:e=x
        · subst h
          rw [if_pos rfl,Array.getElem?_setIfInBounds_self_of_lt (by rw [hm.size]; exact hen)]
          rfl
        · rw [if_neg h,Array.getElem?_setIfInBounds_ne h]
    refine hK _ _ S' ρ' (nw i++bq H (bu ws i)) ⟨by cases bf ops i<;>exact hm.defers,by cases bf ops i<;>simp [Act.put,hm.size],hm.below.trans hres.below,fun k hk=>hm.hB k (Nat.le_trans hres.below.size hk),fun b hb=>hres.s1 b (hm.s0 b hb),fun b hb => ?_,hm.g0,fun j x hj hL hx => ?_,fun x hx => ?_,hres.heap,fun id => ?_,fun j hj hL id hid => ?_,fun j o' hL ho' e' he' hb' => ?_⟩
    · rcases hres.s2 b hb with h | h
      · exact hm.s1 b h
      · exact .inr h
    · rw [hput]
      by_cases h:j=i
      · subst h
        rw [if_pos hx]
        exact hres.val
      · rw [if_neg (fun hx' => h (hf.uniq j i x hx hx'))]
        exact hres.rel _ _ (hm.t1 j x hj (hL.resolve_right h) hx)
    · rw [hput, if_neg (hx i hi (.inr rfl))]
      exact hres.rel _ _ (hm.t2 x (fun j hj hL=>hx j hj (.inl hL)))
    · obtain ⟨c1, c2⟩ := qQ htr hf (h0 := h0) hi hni hdown ops.size (Nat.le_refl _) id
      rw [a7,aY]
      by_cases hT:Tch ws nw i id
      · rw [c1 ⟨hi, hT⟩]
        cases hn:af (nw i) id with
        | some b=>rfl
        | none =>
          rcases hT with h | h
          · rw [if_pos h]
          · exact absurd hn h
      · rw [c2 (fun h => hT h.2), ← hm.hEq]
        cases hn:af (nw i) id with
        | some b=>exact absurd (.inr (by rw [hn]; simp)) hT
        | none =>
          simp only
          rw [if_neg (fun h=>hT (.inl h))]
    · have hji : j ≠ i := fun h => hL (.inr h)
      rw [hres.rho id (fun h=>hji (oy hf hid h))]
      exact hm.fresh j hj (fun h=>hL (.inl h)) id hid
    · rcases hL with hL | rfl
      · exact .inl (hm.closed j o' hL ho' e' he' hb')
      · rw [ho] at ho'; cases ho'
        exact .inl (hp e' he' hb')
theorem pM (hX : CtxOk P X) (htr : Trace P X ops Q ws 0 t0 h0 k r v nw T Hs st') (hf : DrawFacts ops ws X.nt) (hN : ∀ a' w', StRel X B S0 w0 st' a' w' → Q .normal a' w') :
    ∀ (fuel:Nat) (listed:Array Bool) (a:Act) (w:World) (l:List Nat),listed.size=ops.size→l.length≤fuel→(∀ i,i < ops.size→listed.getD i false=false→i∈l) →
    (∃ S ρ H,Mid X B S0 w0 ops ws t0 h0 v nw (fun i=>listed.getD i false=true) S ρ H a w)→wpAny P .any ops Q fuel listed a w:=by
  have last:∀ (listed:Array Bool) (a:Act) (w:World),listed.size=ops.size→(∃ S ρ H,Mid X B S0 w0 ops ws t0 h0 v nw (fun i=>listed.getD i false=true) S ρ H a w)→Region.ready .any ops listed=[]→Q .normal a w:=by
    intro listed a w hsz ⟨S,ρ,H,hm⟩ hr
    refine hN a w (hm.done htr hf fun i hi => ?_)
    induction i using Nat.strongRecOn with
    | _ i ih =>
      cases hl:listed.getD i false with
      | true=>rfl
      | false =>
        exfalso
        have ho:ops[i]? = some ops[i]:=Array.getElem?_eq_getElem hi
        have:i∈Region.ready .any ops listed:=mem_ready.2 ⟨by
          rw [Array.getD_eq_getD_getElem?,Array.getElem?_eq_getElem (by omega)] at hl ⊢
          exact hl,_,ho,fun e he hb=>ih e.on (hf.back i _ ho e he hb) (by have:=hf.back i _ ho e he hb; omega)⟩
        rw [hr] at this
        cases this
  intro fuel
  induction fuel with
  | zero =>
    intro listed a w l hsz hl hcov hm
    have hnil:Region.ready .any ops listed=[]:=by
      cases hr:Region.ready .any ops listed with
      | nil=>rfl
      | cons i rest =>
        exfalso
        have hmem:i∈Region.ready .any ops listed:=by rw [hr]; simp
        obtain ⟨h0',o,ho,_⟩:=mem_ready.1 hmem
        have hi:i < ops.size:=(Array.getElem?_eq_some_iff.1 ho).1
        have:=hcov i hi (by
          rw [Array.getD_eq_getD_getElem?,Array.getElem?_eq_getElem (by omega)] at h0' ⊢
          exact h0')
        have:l=[]:=List.eq_nil_of_length_eq_zero (by omega)
        subst this
        simp_all
    exact ⟨hnil,last listed a w hsz hm hnil⟩
  | succ fuel ih =>
    intro listed a w l hsz hl hcov hm
    refine ⟨last listed a w hsz hm,fun i hi => ?_⟩
    obtain ⟨h0',o,ho,hp⟩:=mem_ready.1 hi
    have hil:i < ops.size:=(Array.getElem?_eq_some_iff.1 ho).1
    have hun:listed.getD i false=false:=by
      rw [Array.getD_eq_getD_getElem?,Array.getElem?_eq_getElem (by omega)] at h0' ⊢
      exact h0'
    obtain ⟨S,ρ,H,hmid⟩:=hm
    refine hmid.step hX htr hf ho (by rw [hun]; simp) hp fun a' w' S' ρ' H' hmid' => ?_
    have af:∀ j,(listed.setIfInBounds i true).getD j false=if j=i then true else listed.getD j false:=fun j=>by
      simp only [Array.getD_eq_getD_getElem?]
      by_cases e:j=i
      · subst e; rw [if_pos rfl,Array.getElem?_setIfInBounds_self_of_lt (by omega)]; rfl
      · rw [if_neg e,Array.getElem?_setIfInBounds_ne (Ne.symm e)]
    have hmem:=hcov i hil hun
    refine ih _ a' w' (l.erase i) (by simpa using hsz) (by rw [List.length_erase_of_mem hmem]; omega) (fun j hj hjl => ?_) ⟨S',ρ',H',?_⟩
    · rw [af] at hjl
      by_cases e:j=i
      · subst e; simp at hjl
      · rw [if_neg e] at hjl
        exact (List.mem_erase_of_ne e).2 (hcov j hj hjl)
    · have : (fun j => (listed.setIfInBounds i true).getD j false = true) = fun j => listed.getD j false = true ∨ j = i := by
        funext j
        rw [af]
        by_cases e:j=i<;>simp [e]
      rw [this]
      exact hmid'
theorem jr {id:Nat} (hX:CtxOk P X) (hs:StRel X B S0 w0 st a w) (hok:gR X.nt ops.toList ws=true) (hN:∀ st' a' w',StRel X B S0 w0 st' a' w'→k st'=some r→Q .normal a' w')
    (hv:ce X (ops.toList.map (·.dst)) (nz (eK ops.toList []) (eP ops.toList ws)) ws ops.toList 0 (st.forgets (cV ops.toList)).t (st.forgets (cV ops.toList)).h k=some r):(Code.region id ops true).wp P Q a w:=by
  have hf:=ox hok
  obtain ⟨v,nw,T,Hs,st',htr⟩:=j4 (P:=P) (Q:=Q) (ws:=ws) hX ops.toList 0 _ _ rfl (by simp) hv
  refine wp_region_any hX.mixed ?_
  obtain ⟨S,ρ,hi⟩:=hs
  have hi0:=hi.forgets hX (cV ops.toList)
  have hnoL:∀ i,¬ ((Array.replicate ops.size false).getD i false=true):=fun i=>by
    rw [Array.getD_eq_getD_getElem?]
    by_cases h:i < ops.size<;>simp [h]
  have hdr:Fr B w0 { w with drawn:=w.drawn+1 }:=hi0.below.drew
  refine pM hX htr hf (fun a' w' h=>hN st' a' w' h htr.endK) ops.size _ a _ (List.range ops.size) (by simp) (by simp) (fun i hi _=>by simpa using hi) ⟨S,ρ.dels (cV ops.toList),(st.forgets (cV ops.toList)).h,
    hi0.defers,hi0.size,hdr,hi0.hB,hi0.s0,hi0.s1,hi0.g0,fun i x _ hL=>absurd hL (hnoL i),fun x _=>(hi0.tmps x).mono (fun _ h=>h) (fun _ _=>rfl) (fun _ _ h=>h),?_,fun id=>(qP ops.size (fun j _=>hnoL j) id).symm,fun i hi _ id hid => ?_,fun i _ hL=>absurd hL (hnoL i)⟩
  · exact ⟨fun j b hg=>by obtain ⟨l,h1,h2⟩:=hi0.heap.get j b hg; exact ⟨l,h1,h2.mono (fun _ h=>h) (fun _ _=>rfl) (fun _ _ h=>h) (fun hn=>⟨rfl,(h2.lt hn).2.2⟩)⟩,hi0.heap.inj,hi0.heap.lt⟩
  · refine d7 _ _ id (.inr ?_)
    have ho:ops[i]? = some ops[i]:=Array.getElem?_eq_getElem hi
    simp only [bO,ho] at hid
    exact List.mem_flatMap.2 ⟨ops[i],by simp,hid⟩
end main
end
end Go.Proofs.Ythdklallcljhlaa

namespace Go.Proofs.Ythdklallcljhlaa
set_option linter.unusedVariables false
set_option linter.unusedSectionVars false
set_option linter.unusedSimpArgs false
open Go.RowKit
section
variable {U:Type} {El:U→Type} {P:Program} {X:Ctx U El} {S S0:Nat→Prop} {ρ ρ':Rho} {w w0:World} [DecidableEq U]
variable {a:Act} {st:St U El} {B:Bd} {r:Fin U El}
theorem Rel.renA {E:Univ U El} {c:AV U El} {v:Value} (hg:UGood P E) {σ:Nat→Nat} (hr:Rel E S ρ w c v) (hσ:∀ j l,ρ j=some l→ρ' (σ j)=some l):Rel E S ρ' w (c.ren σ) v:=by
  have ix:∀ {cs:List (AV U El)} {i:Nat} {c':AV U El},(cs.map (AV.ren σ))[i]? = some c'→∃ c,cs[i]? = some c∧c.ren σ=c':=fun h=>by simpa [List.getElem?_map,Option.map_eq_some_iff] using h
  induction hr with
  | any v=>exact .any v
  | bool b=>exact .bool b
  | int k n=>exact .int k n
  | str s=>exact .str s
  | nilp=>exact .nilp
  | nils=>exact .nils
  | nili=>exact .nili
  | nilf=>exact .nilf
  | nilm=>exact .nilm
  | agg cs vs hl h ih =>
    show Rel E S ρ' w (.agg (AV.ren.renL σ cs)) _
    rw [cm]
    refine .agg _ vs (by simp [hl]) fun i c' v hc hv => ?_
    obtain ⟨c,h1,rfl⟩:=ix hc
    exact ih i c v h1 hv
  | tup cs vs hl h ih =>
    show Rel E S ρ' w (.tup (AV.ren.renL σ cs)) _
    rw [cm]
    refine .tup _ vs (by simp [hl]) fun i c' v hc hv => ?_
    obtain ⟨c,h1,rfl⟩:=ix hc
    exact ih i c v h1 hv
  | lstE u ao cap=>exact .lstE u ao cap
  | lst u xs b off cap val hb hc hcell h ih=>exact .lst u xs b off cap val hb hc hcell fun i x j c hi hj=>(h i x j c hi hj).cellρ hg (hg.cell u x c (List.mem_of_getElem? hj))
  | ful j cap l hl h1 h2=>exact .ful _ cap l (hσ _ _ hl) h1 h2
  | fulN j l hl h1 h2=>exact .fulN _ l (hσ _ _ hl) h1 h2
  | own j lo len cap l hl h1 h2 h3=>exact .own _ lo len cap l (hσ _ _ hl) h1 h2 h3
  | ownE j lo ao cap=>exact .ownE _ lo ao cap
  | ptr j off l hl=>exact .ptr _ off l (hσ _ _ hl)
  | row j i off l hl=>exact .row _ i off l (hσ _ _ hl)
  | mp j l hl=>exact .mp _ l (hσ _ _ hl)
  | fmp u v es b ents clock hb hh hn hf hk hv ihk ihv=>exact .fmp u v es b ents clock hb hh hn hf (fun i e p j c x h1 h2 h3 h4=>(hk i e p j c x h1 h2 h3 h4).cellρ hg (hg.cell u p.1 c (List.mem_of_getElem? h3))) (fun i e p j c x h1 h2 h3 h4=>(hv i e p j c x h1 h2 h3 h4).cellρ hg (hg.cell v p.2 c (List.mem_of_getElem? h3)))
  | pel u xs i off b o cap h hi ih =>
    refine .pel u xs i off b o cap ?_ hi
    exact ih
  | pcs cs off b o val hb hcell h ih =>
    show Rel E S ρ' w (.pcs (AV.ren.renL σ cs) off) _
    rw [cm]
    refine .pcs _ off b o val (fun hn=>hb (by rintro rfl; exact hn rfl)) (fun j c' hj => ?_) fun j c' hj => ?_
    · obtain ⟨c, h1, _⟩ := ix hj
      exact hcell j c h1
    · obtain ⟨c, h1, rfl⟩ := ix hj
      exact ih j c h1
  | fn f fs cs vf vc hlf hlc hf hc ihf ihc =>
    show Rel E S ρ' w (.fn f (AV.ren.renL σ fs) (AV.ren.renL σ cs)) _
    rw [cm,cm]
    refine .fn f _ _ vf vc (by simp [hlf]) (by simp [hlc]) (fun i c' v hc hv => ?_) (fun i c' v hc hv => ?_)
    · obtain ⟨c, h1, rfl⟩ := ix hc
      exact ihf i c v h1 hv
    · obtain ⟨c, h1, rfl⟩ := ix hc
      exact ihc i c v h1 hv
  | err t v=>exact .err t v
theorem BlkRel.renA {E:Univ U El} {l:Loc} {b:Blk U El} {σ:Nat→Nat} (hg:UGood P E) (h:BlkRel E S ρ w B l b) (hσ:∀ j l,ρ j=some l→ρ' (σ j)=some l):BlkRel E S ρ' w B l (b.ren σ b.tag):=by
  cases b with
  | rows u xs =>
    obtain ⟨h1,h2,h3,h4⟩:=h
    refine ⟨h1,h2,h3,fun hn => ?_⟩
    obtain ⟨h5,h6,c,hh,h7,h8⟩:=h4 hn
    exact ⟨h5,h6,c,hh,h7,fun i x j a hi hj=>by obtain ⟨v,hv,hr⟩:=h8 i x j a hi hj; exact ⟨v,hv,hr.cellρ hg (hg.cell u x a (List.mem_of_getElem? hj))⟩⟩
  | map u v es =>
    obtain ⟨h1,h4,h5,c0,c1,hh,h6,h7⟩:=h
    exact ⟨h1,h4,h5,c0,c1,hh,h6,fun i e p hi hj=>⟨(h7 i e p hi hj).1.cellρ hg,(h7 i e p hi hj).2.cellρ hg⟩⟩
  | amap u ks cs =>
    obtain ⟨h1,h4,h5,c0,c1,hh,h6,h7,h8⟩:=h
    refine ⟨h1,h4,h5,c0,c1,hh,h6,by simpa using h7,fun i e y c hi hj hk => ?_⟩
    simp only [List.getElem?_map,Option.map_eq_some_iff] at hk
    obtain ⟨a0,ha0,rfl⟩:=hk
    exact ⟨(h8 i e y a0 hi hj ha0).1.cellρ hg,(h8 i e y a0 hi hj ha0).2.renA hg hσ⟩
  | box t cs =>
    obtain ⟨h0,h1,h2⟩:=h
    refine ⟨h0,by simpa using h1,fun hn => ?_⟩
    obtain ⟨h5,h6,c,e,hh,h7,h8⟩:=h2 hn
    refine ⟨h5,h6,c,e,hh,h7,fun j a hj => ?_⟩
    simp only [List.getElem?_map,Option.map_eq_some_iff] at hj
    obtain ⟨a0,ha0,rfl⟩:=hj
    obtain ⟨v,hv,hr⟩:=h8 j a0 ha0
    exact ⟨v,hv,hr.renA hg hσ⟩
  | bld T j =>
    obtain ⟨h1,h4,h5,c0,c1,hh,h6,h7,h8⟩:=h
    exact ⟨h1,h4,h5,c0,c1,hh,h6,h7,h8.renA hg hσ⟩
theorem lW (id j:Nat) (t:aV U El) (i:Nat):aF (gf id j t) i=(aF t i).ren (iC id j):=by
  induction t with
  | nil=>rfl
  | cons p t ih =>
    obtain ⟨k,v⟩:=p
    simp only [gf,aF]
    cases Nat.beq k i<;>simp [ih]
theorem fc {id j:Nat} (hne:id≠j):∀ {h:ar U El},af h j=none→∀ i b,af (iK id j h) i=some b→∃ i0 b0,iC id j i0=i∧af h i0=some b0∧b=b0.ren (iC id j) b0.tag:=by
  intro h
  induction h with
  | nil=>intro _ i b h; cases h
  | cons p h ih =>
    obtain ⟨k,c⟩:=p
    intro hj i b hg
    have hkj:k≠j:=by
      rintro rfl
      simp only [af,Nat.beq_refl] at hj
      cases hj
    have hj':af h j=none:=by simpa [af,ai hkj] using hj
    simp only [iK,af] at hg
    by_cases e:iC id j k=i
    · rw [e, Nat.beq_refl] at hg
      cases hg
      exact ⟨k,c,e,by simp [af,Nat.beq_refl],rfl⟩
    · rw [ai e] at hg
      obtain ⟨i0,b0,h1,h2,h3⟩:=ih hj' i b hg
      refine ⟨i0,b0,h1,?_,h3⟩
      have:k≠i0:=by rintro rfl; exact e h1
      simp only [af,ai this]
      exact h2
theorem Inv.rename (hX:CtxOk P X) {id j:Nat} (hne:id≠j) (hi:Inv X B S0 w0 S ρ st a w) (hj:ρ j=none):∃ ρ',Inv X B S0 w0 S ρ' (st.rename id j) a w:=by
  obtain ⟨ρ',hρ'⟩:∃ ρ':Rho,ρ'=fun i=>if i=j then ρ id else if i=id then none else ρ i:=⟨_,rfl⟩
  have hσ:∀ k l,ρ k=some l→ρ' (iC id j k)=some l:=fun k l h=>by
    rw [hρ']
    unfold iC
    by_cases e:k=id
    · subst e; rw [Nat.beq_refl]; simp [h]
    · rw [ai e]
      have:k≠j:=by rintro rfl; rw [hj] at h; cases h
      simp [e,this,h]
  have hinj:∀ {k k':Nat},k≠j→k'≠j→iC id j k=iC id j k'→k=k':=fun {k k'} h1 h2 e=>by
    unfold iC at e
    by_cases e1:k=id<;>by_cases e2:k'=id
    · rw [e1,e2]
    · subst e1; rw [Nat.beq_refl,ai e2] at e; exact absurd e.symm h2
    · subst e2; rw [Nat.beq_refl,ai e1] at e; exact absurd e h1
    · rw [ai e1,ai e2] at e; exact e
  have hj0:af st.h j=none:=by
    cases hg:af st.h j with
    | none=>rfl
    | some b=>obtain ⟨l,hl,_⟩:=hi.heap.get j b hg; rw [hj] at hl; cases hl
  refine ⟨ρ',hi.defers,hi.size,hi.below,hi.hB,hi.s0,hi.s1,hi.g0,fun i => ?_,⟨fun i b hg => ?_,fun i i' b b' l l' hg hg' hn hl hl' hn1 hn2 => ?_,hi.heap.lt⟩⟩
  · show Rel X.E S ρ' w (aF (gf id j st.t) i) _
    rw [lW]
    exact (hi.tmps i).renA hX.u hσ
  · obtain ⟨i0, b0, rfl, h2, rfl⟩ := fc hne hj0 i b hg
    obtain ⟨l,hl,hb⟩:=hi.heap.get i0 b0 h2
    exact ⟨l,hσ i0 l hl,hb.renA hX.u hσ⟩
  · obtain ⟨i0, b0, rfl, h2, rfl⟩ := fc hne hj0 i b hg
    obtain ⟨i1,b1,rfl,h4,rfl⟩:=fc hne hj0 i' b' hg'
    obtain ⟨l0,hl0,_⟩:=hi.heap.get i0 b0 h2
    obtain ⟨l1,hl1,_⟩:=hi.heap.get i1 b1 h4
    have e0:=hσ i0 l0 hl0
    rw [hl] at e0; cases e0
    have e1:=hσ i1 l1 hl1
    rw [hl'] at e1; cases e1
    exact hi.heap.inj i0 i1 b0 b1 l l' h2 h4 (fun e=>hn (by rw [e])) hl0 hl1 hn1 hn2
theorem js {b off j : Nat} {u : U} {k : St U El → Option (Fin U El)} (hX : CtxOk P X) (hs : StRel X B S0 w0 st a w) (hv : i8 st b off u j k = some r) : ∃ st', StRel X B S0 w0 st' a w ∧ k st' = some r := by
  obtain ⟨S,ρ,hi⟩:=hs
  unfold i8 at hv
  split at hv
  · rename_i tg0 cs0 hg0
    split at hv
    · rename_i id hc
      by_cases e:id=j
      · subst e
        rw [Nat.beq_refl] at hv
        exact ⟨st,⟨S,ρ,hi⟩,hv⟩
      · rw [ai e] at hv
        obtain ⟨ρ',h'⟩:=(hi.forget hX j).rename hX e (by simp [Rho.del])
        exact ⟨_,⟨S,ρ',h'⟩,hv⟩
    · rename_i id hc
      by_cases e:id=j
      · subst e
        rw [Nat.beq_refl] at hv
        exact ⟨st,⟨S,ρ,hi⟩,hv⟩
      · rw [ai e] at hv
        obtain ⟨ρ',h'⟩:=(hi.forget hX j).rename hX e (by simp [Rho.del])
        exact ⟨_,⟨S,ρ',h'⟩,hv⟩
    · split at hv
      · rename_i tg cs hg
        split at hv
        · rename_i hc
          have hf:=hi.forget hX j
          obtain ⟨l,hl,hb⟩:=hf.heap.get _ _ hg
          have hρj:(ρ.del j) j=none:=by simp [Rho.del]
          have hbj:b≠j:=by rintro rfl; rw [hρj] at hl; cases hl
          have e1:((ρ.del j).set j ⟨0,0,X.E.sz u,0⟩) j=some ⟨0,0,X.E.sz u,0⟩:=by simp [Rho.set]
          have hext:∀ i l',(ρ.del j) i=some l'→((ρ.del j).set j ⟨0,0,X.E.sz u,0⟩) i=some l':=fun i l' h=>by
            by_cases e:i=j
            · subst e; rw [hρj] at h; cases h
            · simp [Rho.set,e,h]
          have hext':∀ i l',((ρ.del j).set j ⟨0,0,X.E.sz u,0⟩) i=some l'→i≠j→(ρ.del j) i=some l':=fun i l' h e=>by simpa [Rho.set,e] using h
          have hgj:af (st.forget j).h j=none:=by
            cases hh:af (st.forget j).h j with
            | none=>rfl
            | some b0=>obtain ⟨l0,h0,_⟩:=hf.heap.get j b0 hh; rw [hρj] at h0; cases h0
          have hcase:∀ i c,af (br (st.forget j).h b (.box tg (cs.set off (.ful j)))) i=some c→(i=b∧c = .box tg (cs.set off (.ful j)))∨(i≠b∧af (st.forget j).h i=some c):=fun i c h=>by
            rw [bB] at h
            by_cases e:i=b
            · subst e; rw [if_pos rfl,hg] at h; cases h; exact .inl ⟨rfl,rfl⟩
            · rw [if_neg e] at h; exact .inr ⟨e,h⟩
          refine ⟨⟨(st.forget j).t,(j,.rows u []) :: br (st.forget j).h b (.box tg (cs.set off (.ful j)))⟩,⟨S,(ρ.del j).set j ⟨0,0,X.E.sz u,0⟩,hf.defers,hf.size,hf.below,hf.hB,hf.s0,hf.s1,hf.g0,fun i=>(hf.tmps i).mono (fun _ h=>h) (fun _ _=>rfl) hext,⟨fun i c hgi => ?_,fun i i' c c' l1 l2 hgi hgi' hne hli hli' hn1 hn2 => ?_,hf.heap.lt⟩⟩,hv⟩
          · simp only [af] at hgi
            by_cases e:j=i
            · subst e
              rw [Nat.beq_refl] at hgi
              cases hgi
              exact ⟨_,e1,rfl,rfl,by simp,fun h=>absurd rfl h⟩
            · rw [ai e] at hgi
              rcases hcase i c hgi with ⟨rfl,rfl⟩ | ⟨hib,hg2⟩
              · refine ⟨l, hext _ _ hl, ?_⟩
                obtain ⟨b0,b1,b2⟩:=hb
                refine ⟨b0,by simpa using b1,fun hn => ?_⟩
                obtain ⟨b3,b4,c0,e0,hh,b5,b6⟩:=b2 hn
                refine ⟨b3,b4,c0,e0,hh,b5,fun m x hm => ?_⟩
                by_cases em:m=off
                · subst em
                  obtain ⟨v,hv',hr⟩:=b6 m _ hc
                  have hml:m < cs.length:=(List.getElem?_eq_some_iff.1 hc).1
                  rw [List.getElem?_set_self hml] at hm
                  cases hm
                  cases hr
                  exact ⟨_,hv',.fulN j _ e1 rfl rfl⟩
                · rw [List.getElem?_set_ne (Ne.symm em)] at hm
                  obtain ⟨v,hv',hr⟩:=b6 m x hm
                  exact ⟨v,hv',hr.mono (fun _ h=>h) (fun _ _=>rfl) hext⟩
              · obtain ⟨l', hl', hb'⟩ := hf.heap.get i c hg2
                exact ⟨l',hext _ _ hl',hb'.mono (fun _ h=>h) (fun _ _=>rfl) hext (fun hn=>⟨rfl,(hb'.lt hn).2.2⟩)⟩
          · simp only [af] at hgi hgi'
            by_cases ei:j=i
            · subst ei; rw [e1] at hli; cases hli; exact absurd rfl hn1
            · by_cases ei' : j = i'
              · subst ei'; rw [e1] at hli'; cases hli'; exact absurd rfl hn2
              · rw [ai ei] at hgi
                rw [ai ei'] at hgi'
                have k1:∃ c0,af (st.forget j).h i=some c0:=by
                  rcases hcase i c hgi with ⟨rfl,_⟩ | ⟨_,h⟩
                  · exact ⟨_,hg⟩
                  · exact ⟨_,h⟩
                have k2:∃ c0,af (st.forget j).h i'=some c0:=by
                  rcases hcase i' c' hgi' with ⟨rfl,_⟩ | ⟨_,h⟩
                  · exact ⟨_,hg⟩
                  · exact ⟨_,h⟩
                obtain ⟨c1,h1⟩:=k1
                obtain ⟨c2,h2⟩:=k2
                exact hf.heap.inj i i' c1 c2 l1 l2 h1 h2 hne (hext' i l1 hli (Ne.symm ei)) (hext' i' l2 hli' (Ne.symm ei')) hn1 hn2
        · exact ⟨st,⟨S,ρ,hi⟩,hv⟩
      · exact ⟨st,⟨S,ρ,hi⟩,hv⟩
    · exact ⟨st,⟨S,ρ,hi⟩,hv⟩
  · exact ⟨st,⟨S,ρ,hi⟩,hv⟩
theorem iH (hX:CtxOk P X):∀ (cs:List (Nat×Nat×U×Nat)) (st:St U El) (k:St U El→Option (Fin U El)),StRel X B S0 w0 st a w→gS st cs k=some r→∃ st',StRel X B S0 w0 st' a w∧k st'=some r:=by
  intro cs
  induction cs with
  | nil=>intro st k hs hv; exact ⟨st,hs,hv⟩
  | cons c cs ih =>
    obtain ⟨b,off,u,j⟩:=c
    intro st k hs hv
    obtain ⟨st1,h1,h2⟩:=js hX hs hv
    exact ih st1 k h1 h2
end
end Go.Proofs.Ythdklallcljhlaa
