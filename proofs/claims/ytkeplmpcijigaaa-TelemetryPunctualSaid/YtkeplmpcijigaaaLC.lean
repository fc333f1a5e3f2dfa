/- The operations of a region: each abstract outcome is borne out by the model. -/
import Derived.Test.YtkeplmpcijigaaaLB
import Derived.Laws.StructEq
import Derived.Laws.MakeOwn
import Derived.Laws.AppendOwn
import Derived.ChangeKeysEq
namespace Go.Proofs.Ytkeplmpcijigaaa
set_option linter.unusedVariables false
set_option linter.unusedSectionVars false
set_option linter.unusedSimpArgs false
open Go.RowKit
def szT (P:Program) (t:TypeId):Nat:=((P.info? t).map (·.size)).getD 0
def agD:TypeDesc→Bool
  | .struct _=>true
  | .array _ _=>true
  | _=>false
def agT (P:Program) (t:TypeId):Bool:=((P.underlying t).map agD).getD false
section
variable {U:Type} {El:U→Type} [Drw]
def TDOk (P:Program) (E:Univ U El) (t:TypeId):TD U→Prop
  | .one=>∃ d,P.underlying t=some d∧agD d=false
  | .bool=>P.underlying t=some .bool
  | .ptr=>∃ e,P.underlying t=some (.pointer e)
  | .iface=>∃ e,P.underlying t=some (.interface e)
  | .int k=>P.underlying t=some (.int k)
  | .str=>P.underlying t=some .string
  | .slice u=>P.underlying t=some (.slice (E.tid u))
  | .struct fs sz=>∃ fields,P.underlying t=some (.struct fields)∧(∃ i,P.info? t=some i∧i.size=sz∧∃ z,i.zero=some z∧z.cells.size=sz)∧P.stoodInHeld t=false∧P.eqGuardType P.depth t=false ∧
      fs=fields.toList.map (fun f=>(f.offset,szT P f.type,agT P f.type))∧(∀ f∈fields.toList,(∃ d,P.underlying f.type=some d)∧(∃ i,P.info? f.type=some i∧i.size≠0))
  | .bld u=>E.sz u=1∧(∃ d,P.underlying t=some d)∧∃ i,P.info? t=some i∧i.size=2∧i.zero=some (.agg #[.pointer none,.slice none 0 0])
  | .map u v=>P.underlying t=some (.map (E.tid u) (E.tid v))
  | .amap u=>∃ v e,P.underlying t=some (.map (E.tid u) v)∧P.underlying v=some (.pointer e)∧∃ i,P.info? v=some i∧i.zero=some (.pointer none)
  | .arr n es ea sz=>∃ e,P.underlying t=some (.array n e)∧(∃ i,P.info? t=some i∧i.size=sz∧∃ z,i.zero=some z∧z.cells.size=sz)∧(∃ i,P.info? e=some i∧i.size=es)∧(∃ d,P.underlying e=some d∧agD d=ea)
def KindOk (P:Program) (t:TypeId):Nat→Prop
  | 0=>∃ kd,P.underlying t=some (.int kd)
  | 1=>P.underlying t=some .bool
  | _=>P.underlying t=some .string
def EqOkS (P : Program) (t : TypeId) (ts : List Nat) : Prop :=
  ∃ fields : Array Field, P.underlying t = some (.struct fields) ∧ P.stoodInHeld t = false ∧ P.eqGuardType P.depth t = false ∧ fields.toList.length = ts.length ∧
    ∀ (i : Nat) (f : Field) (k : Nat), fields.toList[i]? = some f → ts[i]? = some k → f.name ≠ "_" ∧ f.offset = i ∧ KindOk P f.type k
def EqOkA (P:Program) (t:TypeId) (ts:List Nat):Prop :=
  ∃ n e i k,P.underlying t=some (.array n e)∧P.info? e=some i∧P.cellsOf e=1∧P.eqGuardType P.depth t=false∧ts=List.replicate n k∧KindOk P e k
def EqOk (P:Program) (t:TypeId) (ts:List Nat):Prop:=EqOkS P t ts∨EqOkA P t ts
structure CtxOk (P:Program) (X:Ctx U El):Prop where
  mixed:P.follows .mixedOrders=true
  u:UGood P X.E
  td:∀ t d,tdGet X.tds t=some d→TDOk P X.E t d
  z:∀ t v,zGet X.zeros t=some v→∃ i,P.info? t=some i∧i.zero=some v
  one:∀ t td,tdGet X.tds t=some td→∃ i,P.info? t=some i∧(agT P t=false→i.size=1)
  eq:∀ t,eGet X.eqs t≠[]→EqOk P t (eGet X.eqs t)
  det:∀ f vs,∃ oo:Option (AV U El×Heap U El),∀ k,X.spec f vs k=oo.bind fun p=>k p.1 p.2
  dsp:∀ f sp,X.dspec f=some sp→DSpOk P X.E f sp
  spec:∀ f vs k r,X.spec f vs k=some r→∃ res ex,CallSpec P X.E f vs res ex∧k res ex=some r
variable {P:Program} {X:Ctx U El} {S:Nat→Prop} {ρ:Rho} {w:World} {E:Univ U El}
theorem run_isAgg {t:TypeId} {d:TypeDesc} (h:P.underlying t=some d) (w:World):(isAgg t).run P w = .ok (agD d) w:=by
  cases d<;>simp [isAgg,run_underlying h,agD]
theorem run_szT {t:TypeId} {i:TypeInfo} (h:P.info? t=some i) (w:World):(sizeOf t).run P w = .ok i.size w:=by
  simp [sizeOf,typeInfo,h]
theorem szT_eq {t:TypeId} {i:TypeInfo} (h:P.info? t=some i):szT P t=i.size:=by simp [szT,h]
theorem agT_eq {t:TypeId} {d:TypeDesc} (h:P.underlying t=some d):agT P t=agD d:=by simp [agT,h]
theorem chk_some {R:Type} {b:Bool} {x:Option R} {r:R} (h:chk b x=some r):b=true∧x=some r:=by
  cases b
  · cases h
  · exact ⟨rfl,h⟩
theorem caseIx_some {R:Type} {i:Int} {k:Nat→Option R} {r:R}:∀ (m j:Nat),caseIx i j m k=some r→∃ q,j≤q∧q < j+m∧i=Int.ofNat q∧k q=some r:=by
  intro m
  induction m with
  | zero=>intro j h; cases h
  | succ m ih =>
    intro j h
    simp only [caseIx] at h
    cases hb:(i == Int.ofNat j) with
    | true=>rw [hb] at h; exact ⟨j,Nat.le_refl _,by omega,by simpa using hb,h⟩
    | false =>
      rw [hb] at h
      obtain ⟨q,h1,h2,h3,h4⟩:=ih (j+1) h
      exact ⟨q,by omega,by omega,h3,h4⟩
theorem ixA_some {R:Type} {n:Nat} {i:Int} {k:Nat→Option R} {r:R} (h:ixA n i k=some r):inb i n=true∧k i.toNat=some r:=by
  unfold ixA at h
  cases hb:Nat.ble n 8 with
  | true =>
    rw [hb] at h
    obtain ⟨q,_,h2,rfl,h4⟩:=caseIx_some _ _ h
    refine ⟨?_,h4⟩
    simp only [inb,ile,ilt,Bool.and_eq_true,decide_eq_true_eq]
    simp
    omega
  | false=>rw [hb] at h; exact chk_some h
theorem constL_get:∀ (l:List Value) (i:Nat) c v,(constAV.constL l:List (AV U El))[i]? = some c→l[i]? = some v→Rel E S ρ w c v:=by
  intro l
  induction l with
  | nil=>intro i c v h; simp [constAV.constL] at h
  | cons x l ih =>
    intro i c v hc hv
    unfold constAV.constL at hc
    split at hc<;>(cases i with
      | zero=>first | (simp at hc hv; done) | (simp at hc hv; subst hc; first | (subst hv; constructor; done) | (cases ‹_=_›; subst hv; constructor; done) | (simp_all; subst_vars; first | exact .any _ | exact .bool _ | exact .int _ _ | exact .str _ | exact .nilp | exact .nils | exact .nilm | exact .nilf | exact .nili))
      | succ i=>first | (simp at hc hv; done) | (simp at hc hv; first | exact ih i c v hc hv | (simp_all; exact ih i c v hc hv)))
theorem constL_len:∀ (l:List Value),(constAV.constL l:List (AV U El)).length=l.length:=by
  intro l
  induction l with
  | nil=>rfl
  | cons x l ih =>
    unfold constAV.constL
    split<;>simp_all
theorem Rel.const (v:Value):Rel E S ρ w (constAV v:AV U El) v:=by
  unfold constAV
  split
  · exact .bool _
  · exact .int _ _
  · exact .str _
  · exact .nilp
  · exact .nils
  · exact .nilm
  · exact .nilf
  · exact .nili
  · exact .agg _ _ (by simp [constL_len]) fun i c v hc hv=>constL_get _ i c v hc (by simpa using hv)
  · exact .tup _ _ (by simp [constL_len]) fun i c v hc hv=>constL_get _ i c v hc (by simpa using hv)
  · exact .any _
def TRel (E:Univ U El) (S:Nat→Prop) (ρ:Rho) (w:World) (o:Oper) (t:Tmps U El) (a:Act):Prop:=∀ i,.tmp i∈o.op.operands→Rel E S ρ w (tget t i) (a.tmps.getD i undef)
theorem Rel.oget {t:Tmps U El} {a:Act} {x:Operand} (h:∀ i,x = .tmp i→Rel E S ρ w (tget t i) (a.tmps.getD i undef)):Rel E S ρ w (oget t x) (a.eval x):=by
  cases x with
  | tmp i=>exact h i rfl
  | const v=>exact Rel.const v
  | global g=>exact .any _
  | func f=>exact .fn f [] [] #[] #[] rfl rfl (by simp) (by simp)
theorem TRel.get {o:Oper} {t:Tmps U El} {a:Act} (h:TRel E S ρ w o t a) {x:Operand} (hx:x∈o.op.operands):Rel E S ρ w (oget t x) (a.eval x) :=
  Rel.oget fun i e=>h i (e ▸ hx)
variable [DecidableEq U]
def OpDone (P : Program) (E : Univ U El) (S : Nat → Prop) (ρ : Rho) (w : World) (o : Oper) (a : Act) (d : Nat) (out : Out U El) : Prop :=
  ∀ (next : Act → World → Prop) (Q : Exit → Act → World → Prop),
    (∀ v w' S' ρ',Step S ρ w S' ρ' w'→Rel E S' ρ' w' out.v v→HRel E S' ρ' w' (From w) out.new→(∀ id b,hget out.new id=some b→id∈newIds o d)→(∀ id,id ∉ newIds o d→ρ' id=ρ id)→next (a.put o.dst v) w') →
    o.wp P a w next Q
theorem HRel.nil (hlt:∀ b,S b→b < w.heap.size) (B:Bd):HRel E S ρ w B ([]:Heap U El):=⟨by simp [hget],by simp [hget],hlt⟩
theorem done_value {o:Oper} {a:Act} {d:Nat} {av:AV U El} {v:Value} (hrun:(execOp a.eval o).run P w = .ok (.value v) w) (hr:Rel E S ρ w av v) (hlt:∀ b,S b→b < w.heap.size) :
    OpDone P E S ρ w o a d ⟨av,[]⟩:=by
  intro next Q hn
  unfold Oper.wp
  rw [hrun]
  exact hn v w S ρ (Step.refl hlt) hr (HRel.nil hlt _) (by simp [hget]) (fun _ _=>rfl)
theorem heap_new (w:World) (o:Obj):(w.alloc o).heap[w.heap.size]? = some o:=heap_alloc_new w o
theorem nbeq_ne {a b:Nat} (h:a≠b):Nat.beq a b=false:=by
  cases hq:Nat.beq a b with
  | false=>rfl
  | true=>exact absurd (Nat.eq_of_beq_eq_true hq) h
theorem done_newOb {o : Oper} {a : Act} {d : Nat} {av : AV U El} {blk : Blk U El} {v : Value} {ob : Obj} (l : Loc) (hn : d ∈ newIds o d) (hd : ρ d = none)
    (hrun:(execOp a.eval o).run P w = .ok (.value v) (w.alloc ob)) (hlt:∀ b,S b→b < w.heap.size)
    (hl:l.n≠0→l.b=w.heap.size)
    (hr:∀ ρ',ρ' d=some l→(∀ id l,ρ id=some l→ρ' id=some l)→Rel E S ρ' (w.alloc ob) av v)
    (hb:∀ ρ',ρ' d=some l→(∀ id l,ρ id=some l→ρ' id=some l)→¬ S w.heap.size→BlkRel E S ρ' (w.alloc ob) (From w) l blk) :
    OpDone P E S ρ w o a d ⟨av,[(d,blk)]⟩:=by
  intro next Q hnx
  unfold Oper.wp
  rw [hrun]
  have hns:¬ S w.heap.size:=fun h=>by have:=hlt _ h; omega
  have e1:(ρ.set d l) d=some l:=by simp [Rho.set]
  have e2:∀ id l',ρ id=some l'→(ρ.set d l) id=some l':=fun id l' h=>by
    by_cases e:id=d
    · subst e; rw [hd] at h; cases h
    · simp [Rho.set,e,h]
  refine hnx v _ S (ρ.set d l) ⟨⟨rfl,rfl,rfl,by simp,fun _=>Nat.le_refl _,fun k hk _=>heap_alloc_old w _ k hk⟩,fun _ h=>h,fun _ h => .inl h,e2,hlt⟩ (hr _ e1 e2) ⟨?_,?_,?_⟩ ?_ ?_
  · intro id b hg
    simp only [hget] at hg
    by_cases e:d=id
    · subst e
      simp [cond] at hg
      subst hg
      exact ⟨l,e1,hb _ e1 e2 hns⟩
    · have : Nat.beq d id = false := nbeq_ne e
      simp [this,cond] at hg
  · intro i j b b' l1 l2 hi hj hne
    exfalso
    simp only [hget] at hi hj
    have h1:d=i:=by
      by_cases e:d=i
      · exact e
      · have : Nat.beq d i = false := nbeq_ne e
        simp [this,cond] at hi
    have h2:d=j:=by
      by_cases e:d=j
      · exact e
      · have : Nat.beq d j = false := nbeq_ne e
        simp [this,cond] at hj
    omega
  · intro b hb'
    have:=hlt b hb'
    simp; omega
  · intro id b hg
    simp only [hget] at hg
    by_cases e:d=id
    · subst e; exact hn
    · have : Nat.beq d id = false := nbeq_ne e
      simp [this,cond] at hg
  · intro id hi
    have:id≠d:=by rintro rfl; exact hi hn
    simp [Rho.set,this]
theorem done_new {o:Oper} {a:Act} {d:Nat} {av:AV U El} {blk:Blk U El} {v:Value} {c:Array Value} {e:TypeId} (l:Loc) (hn:d∈newIds o d) (hd:ρ d=none)
    (hrun:(execOp a.eval o).run P w = .ok (.value v) (w.alloc (.cells c e))) (hlt:∀ b,S b→b < w.heap.size)
    (hl:l.n≠0→l.b=w.heap.size)
    (hr:∀ ρ',ρ' d=some l→(∀ id l,ρ id=some l→ρ' id=some l)→Rel E S ρ' (w.alloc (.cells c e)) av v)
    (hb:∀ ρ',ρ' d=some l→(∀ id l,ρ id=some l→ρ' id=some l)→¬ S w.heap.size→BlkRel E S ρ' (w.alloc (.cells c e)) (From w) l blk) :
    OpDone P E S ρ w o a d ⟨av,[(d,blk)]⟩ :=
  done_newOb (ob := .cells c e) l hn hd hrun hlt hl hr hb
section ops
variable {o:Oper} {a:Act} {t:Tmps U El} {h H:Heap U El} {B:Bd} {d:Nat} {k:Out U El→Option (Fin U El)} {r:Fin U El}
theorem op_move {x:Operand} (ho:o.op = .move x∨o.op = .assign x) (hT:TRel X.E S ρ w o t a) (hlt:∀ b,S b→b < w.heap.size):OpDone P X.E S ρ w o a d ⟨oget t x,[]⟩:=by
  have hm:x∈o.op.operands:=by rcases ho with ho | ho<;>simp [ho,Op.operands]
  refine done_value ?_ (hT.get hm) hlt
  rcases ho with ho | ho<;>simp [execOp,ho]
theorem op_pick {c x y:Operand} {b:Bool} (ho:o.op = .pick c x y) (hc:oget t c = .bool b) (hT:TRel X.E S ρ w o t a) (hlt:∀ b,S b→b < w.heap.size):OpDone P X.E S ρ w o a d ⟨bif b then oget t x else oget t y,[]⟩:=by
  have h1:=hT.get (x:=c) (by simp [ho,Op.operands])
  have h2:=hT.get (x:=x) (by simp [ho,Op.operands])
  have h3:=hT.get (x:=y) (by simp [ho,Op.operands])
  rw [hc] at h1
  generalize hvc:a.eval c=vc at h1
  cases h1
  refine done_value (v:=if b then a.eval x else a.eval y) ?_ (by cases b<;>simpa) hlt
  simp [execOp,ho,hvc,asBool]
theorem cellsOf_rel {av:AV U El} {v:Value} {cs:List (AV U El)} (h:Rel E S ρ w av v) (hc:cellsOf av=some cs):v.cells.size=cs.length∧∀ (j:Nat) c x,cs[j]? = some c→v.cells[j]? = some x→Rel E S ρ w c x:=by
  unfold cellsOf at hc
  split at hc
  · cases hc; cases h with | agg _ vs hl h=>exact ⟨hl,h⟩
  · cases hc
  · cases hc
  · rename_i h1 h2 h3
    cases hc
    have hv:v.cells=#[v]:=by
      cases h<;>first | rfl | (exfalso; exact h1 _ rfl) | (exfalso; exact h2 rfl) | (exfalso; exact h3 _ rfl)
    rw [hv]
    refine ⟨rfl,fun j c x hj hx => ?_⟩
    cases j with
    | zero=>simp at hj hx; subst hj; subst hx; exact h
    | succ j=>simp at hj
theorem op_box {e:TypeId} {x:Operand} {cs:List (AV U El)} (ho:o.op = .box e x) (hc:cellsOf (oget t x)=some cs) (hT:TRel X.E S ρ w o t a) (hlt:∀ b,S b→b < w.heap.size) (hd:ρ d=none):OpDone P X.E S ρ w o a d ⟨.ptr d 0,[(d,.box 0 cs)]⟩:=by
  have h1:=hT.get (x:=x) (by simp [ho,Op.operands])
  obtain ⟨h2,h3⟩:=cellsOf_rel h1 hc
  refine done_new (v := .pointer (some ⟨w.heap.size,0,none⟩)) (c:=(a.eval x).cells) (e:=e) ⟨w.heap.size,cs.length,0,0⟩ (by simp [newIds,ho]) hd ?_ hlt (fun _=>rfl) (fun ρ' e1 e2 => .ptr d 0 _ e1) (fun ρ' e1 e2 hns=>⟨.inl rfl,rfl,fun hn=>⟨Nat.le_refl _,hns,_,e,heap_new _ _,h2,fun j c hj => ?_⟩⟩)
  · simp [execOp,ho,Instr.box,newVar,newRow]
  · have hj' : j < (a.eval x).cells.size := by rw [h2]; exact (List.getElem?_eq_some_iff.1 hj).1
    refine ⟨_,Array.getElem?_eq_getElem hj',?_⟩
    exact (h3 j c _ hj (Array.getElem?_eq_getElem hj')).mono (fun _ h=>h) (fun b hb=>heap_alloc_old w _ b (hlt b hb)) e2
theorem op_alloc {e:TypeId} {z:Value} {cs:List (AV U El)} (hX:CtxOk P X) (ho:o.op = .alloc e) (hz:zGet X.zeros e=some z) (hc:cellsOf (constAV z)=some cs) (hlt:∀ b,S b→b < w.heap.size) (hd:ρ d=none):OpDone P X.E S ρ w o a d ⟨.ptr d 0,[(d,.box 0 cs)]⟩:=by
  obtain ⟨i,hi,hiz⟩:=hX.z _ _ hz
  obtain ⟨h2,h3⟩:=cellsOf_rel (Rel.const (E:=X.E) (S:=S) (ρ:=ρ) (w:=w) z) hc
  refine done_new (v := .pointer (some ⟨w.heap.size,0,none⟩)) (c:=z.cells) (e:=e) ⟨w.heap.size,cs.length,0,0⟩ (by simp [newIds,ho]) hd ?_ hlt (fun _=>rfl) (fun ρ' e1 e2 => .ptr d 0 _ e1) (fun ρ' e1 e2 hns=>⟨.inl rfl,rfl,fun hn=>⟨Nat.le_refl _,hns,_,e,heap_new _ _,h2,fun j c hj => ?_⟩⟩)
  · simp [execOp,ho,Instr.alloc,zeroValue,typeInfo,hi,hiz,newVar,newRow]
  · have hj' : j < z.cells.size := by rw [h2]; exact (List.getElem?_eq_some_iff.1 hj).1
    refine ⟨_,Array.getElem?_eq_getElem hj',?_⟩
    exact (h3 j c _ hj (Array.getElem?_eq_getElem hj')).mono (fun _ h=>h) (fun b hb=>heap_alloc_old w _ b (hlt b hb)) e2
theorem op_allocB {e : TypeId} {u : U} (hX : CtxOk P X) (ho : o.op = .alloc e) (ht : tdGet X.tds e = some (.bld u)) (hp : 0 < d) (hlt : ∀ b, S b → b < w.heap.size) (hd : ρ d = none) (hd' : ρ (d * 1000) = none) :
    OpDone P X.E S ρ w o a d ⟨.ptr d 0,[(d,.bld e (d * 1000)),(d * 1000,.rows u [])]⟩:=by
  obtain ⟨hsz,_,i,hi,his,hiz⟩:=hX.td _ _ ht
  have hne:d * 1000≠d:=by omega
  have hns:¬ S w.heap.size:=fun h=>by have:=hlt _ h; omega
  intro next Q hn
  have hrun:(execOp a.eval o).run P w = .ok (.value (.pointer (some ⟨w.heap.size,0,none⟩))) (w.alloc (.cells #[.pointer none,.slice none 0 0] e (0,0))):=by
    simp [execOp,ho,Instr.alloc,zeroValue,typeInfo,hi,hiz,newVar,newRow,Value.cells]
  unfold Oper.wp
  rw [hrun]
  have e1:((ρ.set d ⟨w.heap.size,2,0,0⟩).set (d * 1000) ⟨0,0,X.E.sz u,0⟩) d=some ⟨w.heap.size,2,0,0⟩:=by simp [Rho.set,Ne.symm hne]
  have e2:((ρ.set d ⟨w.heap.size,2,0,0⟩).set (d * 1000) ⟨0,0,X.E.sz u,0⟩) (d * 1000)=some ⟨0,0,X.E.sz u,0⟩:=by simp [Rho.set]
  have hold:∀ k,k < w.heap.size→(w.alloc (.cells #[.pointer none,.slice none 0 0] e (0,0))).heap[k]? = w.heap[k]? := fun k hk=>heap_alloc_old w _ k hk
  refine hn _ _ S ((ρ.set d ⟨w.heap.size,2,0,0⟩).set (d * 1000) ⟨0,0,X.E.sz u,0⟩) ⟨⟨rfl,rfl,rfl,by simp,fun _=>Nat.le_refl _,fun k hk _=>hold k hk⟩,fun _ h=>h,fun _ h => .inl h,fun id l h => ?_,hlt⟩ (.ptr d 0 _ e1) ⟨fun id b hg => ?_,fun i j b b' l l' hgi hgj hij hli hlj hn1 hn2 => ?_,fun b hb=>by have:=hlt b hb; simp; omega⟩ (fun id b hg => ?_) (fun id hid => ?_)
  · by_cases h1 : id = d
    · subst h1; rw [hd] at h; cases h
    · by_cases h2 : id = d * 1000
      · subst h2; rw [hd'] at h; cases h
      · simp [Rho.set,h1,h2,h]
  · simp only [hget] at hg
    by_cases h1:d=id
    · subst h1
      rw [Nat.beq_refl] at hg
      cases hg
      exact ⟨_,e1,rfl,Nat.le_refl _,hns,_,_,heap_new _ _,.inl rfl,(fun _ _ h=>by simp at h),.fulN _ _ e2 rfl rfl⟩
    · rw [nbeq_ne h1] at hg
      simp only [cond] at hg
      by_cases h2:d * 1000=id
      · subst h2
        rw [Nat.beq_refl] at hg
        cases hg
        exact ⟨_,e2,rfl,rfl,by simp,fun h=>absurd rfl h⟩
      · rw [nbeq_ne h2] at hg; cases hg
  · simp only [hget] at hgi hgj
    by_cases h1:d=i
    · subst h1
      rw [nbeq_ne hij] at hgj
      simp only [cond] at hgj
      by_cases h2:d * 1000=j
      · subst h2; rw [e2] at hlj; cases hlj; exact absurd rfl hn2
      · rw [nbeq_ne h2] at hgj; cases hgj
    · rw [nbeq_ne h1] at hgi
      simp only [cond] at hgi
      by_cases h2:d * 1000=i
      · subst h2; rw [e2] at hli; cases hli; exact absurd rfl hn1
      · rw [nbeq_ne h2] at hgi; cases hgi
  · simp only [newIds, ho]
    simp only [hget] at hg
    by_cases h1:d=id
    · simp [h1]
    · rw [nbeq_ne h1] at hg
      simp only [cond] at hg
      by_cases h2:d * 1000=id
      · simp [h2]
      · rw [nbeq_ne h2] at hg; cases hg
  · simp only [newIds, ho, List.mem_cons, List.not_mem_nil, or_false, not_or] at hid
    simp [Rho.set,hid.1,hid.2]
theorem op_unOp {ty:TypeId} {x:Operand} {u:UnOp} {av:AV U El} (ho:o.op = .unOp u ty x)
    (hv:(∃ b,u = .not∧oget t x = .bool b∧av = .bool (!b))∨(∃ kd n,u = .neg∧oget t x = .int kd n∧av = .int kd (kd.wrap (0 - n)))) (hT:TRel X.E S ρ w o t a) (hlt:∀ b,S b→b < w.heap.size):OpDone P X.E S ρ w o a d ⟨av,[]⟩:=by
  have h1:=hT.get (x:=x) (by simp [ho,Op.operands])
  rcases hv with ⟨b,rfl,hx,rfl⟩ | ⟨kd,n,rfl,hx,rfl⟩<;>rw [hx] at h1<;>generalize hvx:a.eval x=vx at h1<;>cases h1
  · exact done_value (v := .bool (!b)) (by simp [execOp,ho,hvx,Op.unary]) (.bool _) hlt
  · exact done_value (v := .int kd (kd.wrap (0 - n))) (by simp [execOp,ho,hvx,Op.unary,Op.intArith]) (.int _ _) hlt
theorem op_nilCheck {x:Operand} (ho:o.op = .nilCheck x) (hv:(∃ i f,oget t x = .ptr i f)∨(∃ i j f,oget t x = .row i j f)∨(∃ u xs i f,oget t x = .pel u xs i f)∨(∃ cs f,oget t x = .pcs cs f)) (hT:TRel X.E S ρ w o t a) (hlt:∀ b,S b→b < w.heap.size):OpDone P X.E S ρ w o a d ⟨oget t x,[]⟩:=by
  have h1:=hT.get (x:=x) (by simp [ho,Op.operands])
  refine done_value ?_ h1 hlt
  rcases hv with ⟨_,_,e⟩ | ⟨_,_,_,e⟩ | ⟨_,_,_,_,e⟩ | ⟨_,_,e⟩<;>rw [e] at h1<;>generalize hvx:a.eval x=vx at h1<;>cases h1<;>simp [execOp,ho,hvx]
theorem op_extract {x:Operand} {i:Nat} {cs:List (AV U El)} {av:AV U El} (ho:o.op = .extract x i) (hx:oget t x = .tup cs) (hi:cs[i]? = some av) (hT:TRel X.E S ρ w o t a) (hlt:∀ b,S b→b < w.heap.size):OpDone P X.E S ρ w o a d ⟨av,[]⟩:=by
  have h1:=hT.get (x:=x) (by simp [ho,Op.operands])
  rw [hx] at h1
  generalize hvx:a.eval x=vx at h1
  cases h1 with
  | tup _ vs hl h2 =>
    have hj:i < vs.size:=by rw [hl]; exact (List.getElem?_eq_some_iff.1 hi).1
    refine done_value (v:=vs[i]) ?_ (h2 i av _ hi (Array.getElem?_eq_getElem hj)) hlt
    simp [execOp,ho,hvx,Instr.extract,Array.getElem?_eq_getElem hj]
theorem op_makeFunc {f:FuncId} {as bs:Array Operand} (ho:o.op = .makeFunc (.func f) as bs) (hT:TRel X.E S ρ w o t a) (hlt:∀ b,S b→b < w.heap.size):OpDone P X.E S ρ w o a d ⟨.fn f (as.toList.map (oget t)) (bs.toList.map (oget t)),[]⟩:=by
  refine done_value (v := .func (.func f) (as.map a.eval) (bs.map a.eval)) ?_ ?_ hlt
  · simp [execOp,ho,Instr.makeFunc]
  · refine .fn f _ _ _ _ (by simp) (by simp) ?_ ?_ <;> intro i c v hc hv
    · simp only [List.getElem?_map, Option.map_eq_some_iff, Array.getElem?_map, Array.getElem?_toList] at hc hv
      obtain ⟨x,hx,rfl⟩:=hc
      obtain ⟨y,hy,rfl⟩:=hv
      rw [hx] at hy; cases hy
      exact hT.get (by simp [ho,Op.operands]; exact .inl (Array.mem_of_getElem? hx))
    · simp only [List.getElem?_map, Option.map_eq_some_iff, Array.getElem?_map, Array.getElem?_toList] at hc hv
      obtain ⟨x,hx,rfl⟩:=hc
      obtain ⟨y,hy,rfl⟩:=hv
      rw [hx] at hy; cases hy
      exact hT.get (by simp [ho,Op.operands]; exact .inr (Array.mem_of_getElem? hx))
end ops
end
end Go.Proofs.Ytkeplmpcijigaaa
