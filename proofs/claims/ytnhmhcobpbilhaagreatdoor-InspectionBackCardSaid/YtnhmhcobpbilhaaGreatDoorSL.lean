/- strings.Lines: a range over a function whose iterator writes its own variable; the law of the walk at such an iterator (turned from the kit's law for iterators that write nothing), and the iterator's contract. -/
import Derived.Test.YtnhmhcobpbilhaaGreatDoorRP
import Derived.RangeFuncNested
import Derived.RangeFuncCalls
import Derived.RangeFuncLeaves
import Derived.RangeFuncBox
import Derived.Shelf.Abstract
import Derived.WalkKit
import Derived.OwnWalkIn
import Derived.TacticsInMore
import Derived.LoopNIn
import Derived.LoopIn
import Derived.RegionIn
import Derived.Maps.AppendAt
namespace Go.Proofs.YtnhmhcobpbilhaaGreatDoor
set_option linter.unusedSectionVars false
set_option linter.unusedSimpArgs false
set_option linter.unusedVariables false
open Go.RowKit Go.Shelf
attribute [local go_sem] Oper.semAt_some
inductive LinesOf:List UInt8→List (List UInt8)→Prop
  | nil:LinesOf [] []
  | last {s:List UInt8}:s≠[]→(10:UInt8) ∉ s→LinesOf s [s]
  | cons {x r:List UInt8} {l:List (List UInt8)}:(10:UInt8) ∉ x→LinesOf r l→LinesOf (x++10 :: r) ((x++[10]) :: l)
theorem lines_ex:∀ (k:Nat) (s:List UInt8),s.length≤k→∃ l,LinesOf s l:=by
  intro k
  induction k with
  | zero =>
    intro s h
    have:s=[]:=List.length_eq_zero_iff.1 (by omega)
    subst this
    exact ⟨[],.nil⟩
  | succ k ih =>
    intro s h
    rcases parts 10 s with hs | ⟨x,r,hx,rfl⟩
    · by_cases e : s = []
      · subst e; exact ⟨[],.nil⟩
      · exact ⟨[s],.last e hs⟩
    · simp only [List.length_append, List.length_cons] at h
      obtain ⟨l,hl⟩:=ih r (by omega)
      exact ⟨_,.cons hx hl⟩
theorem lines_len {s:List UInt8} {l:List (List UInt8)} (h:LinesOf s l):l.length≤s.length∧∀ x∈l,x.length≤s.length:=by
  induction h with
  | nil=>simp
  | @last s h1 h2 =>
    refine ⟨?_,fun x hx=>by rw [List.mem_singleton] at hx; rw [hx]; exact Nat.le_refl _⟩
    cases s with
    | nil=>exact absurd rfl h1
    | cons a s=>simp
  | @cons x r l h1 h2 ih =>
    obtain ⟨i1,i2⟩:=ih
    simp only [List.length_append,List.length_cons]
    refine ⟨by omega,fun y hy => ?_⟩
    rcases List.mem_cons.1 hy with rfl | hy
    · simp
    · have:=i2 y hy; omega
def SeqL (F : Fence) (n : Nat) (P : Program) (g : Nat) (lb : Array Value) (Bs : Nat) (xs : List (List UInt8)) (w : World) : Prop :=
  ∀ (l : Nat) (J Jx : List (List UInt8) → World → Prop) (W : World), W.heap[Bs]? = w.heap[Bs]? → (∀ s A B row, J s A → A.grownBy B row → (∀ r, row = some r → r = Bs) → J s B) →
    (∀ pre x W1,J pre W1→(pre++[x]) <+: xs→(∃ u,Boxed W1 Bs 9 (.string u))→YieldAt F (n - 1) P l #[.string ⟨x.toArray⟩] W1 fun e W' =>
      (e = .returned (.bool true)∧J (pre++[x]) W'∧W'.heap[Bs]? = W1.heap[Bs]?)∨(e = .returned (.bool false)∧Jx (pre++[x]) W')) →
    J [] W →
    CallsIn F n P g (#[.func (.yield l) #[] #[]]++lb) W fun e W'=>(∃ v,e = .returned v)∧(J xs W'∨(∃ pre,pre <+: xs∧Jx pre W'))
theorem wpIn_rangeFunc_L {F : Fence} {n : Nat} {P : Program} {g : Operand} {t : Tmp} {assign body : Code} {Q : Exit → Act → World → Prop} {a : Act} {w : World}
    (hro:F.round=none) (h1:1≤n) {gf:Nat} {lb:Array Value} (hg:a.eval g = .func (.func gf) #[] lb) (hFg:F.fn gf) (eg:∀ args w,(callFunc gf args).run P w = .ok (.enter gf args) w)
    {Bs:Nat} {xs:List (List UInt8)} (hseq:SeqL F (n - 1) P gf lb Bs xs w) (hBs:Bs < w.heap.size) {oB:Obj} (hoB:w.heap[Bs]? = some oB)
    (I:List (List UInt8)→World→Prop) (Ix:Code→List (List UInt8)→World→Prop)
    (hI:∀ s A B row,I s A→A.grownBy B row→(∀ r,row=some r→r=Bs∨(w.heap.size≤r∧∃ o:Obj,A.heap[r]? = some o∧o.isCells=false))→I s B)
    (hIx:∀ c s A B row,Ix c s A→A.grownBy B row→(∀ r,row=some r→w.heap.size≤r∧∃ o:Obj,A.heap[r]? = some o∧o.isCells=false)→Ix c s B)
    (h0:I [] w) (a₁:List UInt8→Act)
    (hassign:∀ (l:Nat) (x:List UInt8) (W:World) (K:Act→World→Prop),K (a₁ x) W →
      assign.wpIn (F.inRound l) (n - 1 - 1) P (Exit.then K (fun _ _ _=>False)) { tmps:=(#[t].zip #[Value.string ⟨x.toArray⟩]).foldl (fun t (p,v)=>t.setIfInBounds p v) a.tmps,defers:=[] } W)
    (hbody:∀ (l:Nat) (pre:List (List UInt8)) (x:List UInt8) (W:World),w.heap.size+1=l→(∃ u,Boxed W Bs 9 (.string u))→I pre W→(pre++[x]) <+: xs→body.wpIn (F.inRound l) (n - 1 - 1) P (ownPostG w.heap.size (fun A B=>B.heap[Bs]? = A.heap[Bs]?) I Ix (pre++[x]) W) (a₁ x) W)
    (hdone:∀ (D:Nat) (W:World),w.heap.size≤D→I xs W→W.heap[D]? = some (.deferred (some []))→Q .normal { a with defers:={ target := .collected D,args:=#[] } :: a.defers } W)
    (hstop:∀ (D:Nat) (c:Code) (pre:List (List UInt8)) (W:World),w.heap.size≤D→pre <+: xs→Ix c pre W→W.heap[D]? = some (.deferred (some []))→c.wpIn F n P Q { a with defers:={ target := .collected D,args:=#[] } :: a.defers } W) :
    (Code.rangeFunc g #[t] assign body).wpIn F n P Q a w:=by
  refine wpIn_rangeFunc ?_
  intro fn hfn
  rw [hro]
  obtain ⟨rec,hrec⟩:∃ rec:LoopState→Option Code→Loop,rec=fun st pe=>{ state:=st,pending:=pe,fn,tmps:=a.tmps,params:=#[t],assign,body,defers:=w.heap.size }:=⟨_,rfl⟩
  obtain ⟨W1,hW1⟩:∃ W1,(w.alloc (.deferred (some []))).alloc (.loop (rec .ready none))=W1:=⟨_,rfl⟩
  have hL1:W1.heap[w.heap.size+1]? = some (.loop (rec .ready none)):=by
    rw [← hW1]; have:=World.alloc_heap_new (w.alloc (.deferred (some []))) (.loop (rec .ready none)); rwa [World.size_alloc] at this
  have hK1:W1.heap[w.heap.size]? = some (.deferred (some [])):=by
    rw [← hW1]; exact (Below.heap_alloc _ _ _ (by simp)).trans (World.alloc_heap_new w _)
  have hI1:I [] W1:=by rw [← hW1]; exact hI _ _ _ none (hI _ _ _ none h0 (World.grownBy_alloc _ _ none) (fun r e=>by cases e)) (World.grownBy_alloc _ _ none) (fun r e=>by cases e)
  have hB1:W1.heap[Bs]? = w.heap[Bs]? := by
    rw [← hW1]; exact (Below.heap_alloc _ _ _ (by simp; omega)).trans (Below.heap_alloc _ _ _ hBs)
  have hput:∀ {s:List (List UInt8)} {W:World} {l:Nat} {o:Obj} (o':Obj),I s W→w.heap.size≤l→W.heap[l]? = some o→o.isCells=false→I s (W.putObj l o'):=fun o' hs hl ho hc =>
    hI _ _ _ (some _) hs (grownBy_putObj' _ _ o') (fun r e=>by cases e; exact .inr ⟨hl,_,ho,hc⟩)
  have hputx:∀ {c:Code} {s:List (List UInt8)} {W:World} {l:Nat} {o:Obj} (o':Obj),Ix c s W→w.heap.size≤l→W.heap[l]? = some o→o.isCells=false→Ix c s (W.putObj l o'):=fun o' hs hl ho hc =>
    hIx _ _ _ _ (some _) hs (grownBy_putObj' _ _ o') (fun r e=>by cases e; exact ⟨hl,_,ho,hc⟩)
  refine ⟨w.heap.size+1,[{ target := .collected w.heap.size,args:=#[] }],W1,{ target := .fn (.func gf) lb,args:=#[.func (.yield (w.heap.size+1)) #[] #[]] },W1,gf,
    #[.func (.yield (w.heap.size+1)) #[] #[]]++lb,W1,?_,?_,?_,?_,fun _=>h1,?_⟩
  · rw [← hW1,hrec]; exact run_enterLoop_outer _ _ _ _ _
  · simp only [resolve, hg]
    simp [go_sem]
  · intro f' hf'; simp [Target.leads] at hf'; subst hf'; exact hFg
  · simp [invoke,go_sem,eg]
  · refine (hseq (w.heap.size + 1)
      (fun pre W=>I pre W∧W.heap[w.heap.size+1]? = some (.loop (rec .ready none))∧W.heap[w.heap.size]? = some (.deferred (some []))∧Bs < W.heap.size)
      (fun pre W=>∃ c,Ix c pre W∧W.heap[w.heap.size+1]? = some (.loop (rec .done (some c)))∧W.heap[w.heap.size]? = some (.deferred (some [])))
      W1 hB1
      (fun s A B row hs hg' hr=>⟨hI s A B row hs.1 hg' (fun r e => .inl (hr r e)),(hg'.block _ (Array.getElem?_eq_some_iff.1 hs.2.1).1 (fun e=>by have:=hr _ e.symm; omega)).trans hs.2.1,
        (hg'.block _ (Array.getElem?_eq_some_iff.1 hs.2.2.1).1 (fun e=>by have:=hr _ e.symm; omega)).trans hs.2.2.1,Nat.lt_of_lt_of_le hs.2.2.2 hg'.size⟩)
      ?_ ⟨hI1,hL1,hK1,by rw [← hW1]; simp; omega⟩).mono ?_
    · rintro pre x W ⟨hi, hl, hk, hb⟩ hlen ⟨ub, hub⟩
      have hlt:w.heap.size+1 < W.heap.size:=(Array.getElem?_eq_some_iff.1 hl).1
      have hy:=run_yield (P:=P) (args:=#[Value.string ⟨x.toArray⟩]) hl (by rw [hrec]; rfl)
      rw [hrec] at hy
      refine ⟨fn,_,assign,body,hy,roundIn_of_wpIn hfn (hassign _ x W _ ⟨_,run_beginRound hl (by rw [hrec]),?_⟩)⟩
      have hl2:(W.putObj (w.heap.size+1) (.loop { rec .ready none with state := .busy })).heap[w.heap.size+1]? = some (.loop { rec .ready none with state := .busy }):=World.putObj_heap_same hlt
      have hk2:(W.putObj (w.heap.size+1) (.loop { rec .ready none with state := .busy })).heap[w.heap.size]? = some (.deferred (some [])):=(World.putObj_heap_other (by omega)).trans hk
      have hw2:(W.putObj (w.heap.size+1) (.loop { rec .ready none with state := .busy })).heap[Bs]? = W.heap[Bs]? := World.putObj_heap_other (by omega)
      refine wpIn_mono (hbody _ pre x _ rfl ⟨ub,hw2.trans hub⟩ (hput _ hi (by omega) hl rfl) hlen) ?_
      have fin:∀ (jump:Option Code) (W3:World),KeepsFrom w.heap.size (W.putObj (w.heap.size+1) (.loop { rec .ready none with state := .busy })) W3 →
          (Instr.endRound (w.heap.size+1) jump).run P W3 = .ok (.bool jump.isNone) (W3.putObj (w.heap.size+1) (.loop (rec (if jump.isNone then .ready else .done) jump))) ∧
          W3.heap[w.heap.size+1]? = some (.loop { rec .ready none with state := .busy }) ∧
          (W3.putObj (w.heap.size+1) (.loop (rec (if jump.isNone then .ready else .done) jump))).heap[w.heap.size+1]? = some (.loop (rec (if jump.isNone then .ready else .done) jump)) ∧
          (W3.putObj (w.heap.size+1) (.loop (rec (if jump.isNone then .ready else .done) jump))).heap[w.heap.size]? = some (.deferred (some [])):=fun jump W3 hk3=>by
        have hl3:=hk3.same _ _ (by omega) hl2 rfl
        have:=run_endRound (P:=P) jump hl3
        rw [hrec] at this ⊢
        exact ⟨this,by rw [hrec] at hl3; exact hl3,World.putObj_heap_same (Array.getElem?_eq_some_iff.1 hl3).1,(World.putObj_heap_other (by omega)).trans (hk3.same _ _ (Nat.le_refl _) hk2 rfl)⟩
      rintro e a3 W3 hp
      cases e with
      | normal =>
        obtain ⟨hk3,hkp3,hi3⟩:=hp
        obtain ⟨hr,hl3,hl4,hk4⟩:=fin none W3 hk3
        have hs3:=hk3.size
        rw [World.putObj_size] at hs3
        exact ⟨_,_,hr,.inl ⟨rfl,⟨hput _ hi3 (by omega) hl3 rfl,hl4,hk4,by rw [World.putObj_size]; omega⟩,(World.putObj_heap_other (by omega)).trans (hkp3.trans hw2)⟩⟩
      | ret =>
        obtain ⟨hk3,hi3⟩:=hp
        obtain ⟨hr,hl3,hl4,hk4⟩:=fin (some .ret) W3 hk3
        exact ⟨_,_,hr,.inr ⟨rfl,.ret,hputx _ hi3 (by omega) hl3 rfl,hl4,hk4⟩⟩
      | exit id =>
        obtain ⟨hk3,hi3⟩:=hp
        obtain ⟨hr,hl3,hl4,hk4⟩:=fin (some (.exit id)) W3 hk3
        exact ⟨_,_,hr,.inr ⟨rfl,.exit id,hputx _ hi3 (by omega) hl3 rfl,hl4,hk4⟩⟩
      | goto t =>
        obtain ⟨hk3,hi3⟩:=hp
        obtain ⟨hr,hl3,hl4,hk4⟩:=fin (some (.goto t)) W3 hk3
        exact ⟨_,_,hr,.inr ⟨rfl,.goto t,hputx _ hi3 (by omega) hl3 rfl,hl4,hk4⟩⟩
      | panic ch=>exact hp.elim
      | outgrown=>exact hp.elim
    · rintro e W2 ⟨⟨v, rfl⟩, (⟨hi, hl, hk, _⟩ | ⟨pre, hSp, c, hi, hl, hk⟩)⟩
      · exact ⟨none,_,by have:=run_endLoop (P:=P) hl (by rw [hrec]; simp); rw [hrec] at this; exact this,hdone _ _ (Nat.le_refl _) (hput _ hi (by omega) hl rfl) ((World.putObj_heap_other (by omega)).trans hk)⟩
      · exact ⟨some c,_,by have:=run_endLoop (P:=P) hl (by rw [hrec]; simp); rw [hrec] at this; exact this,hstop _ c pre _ (Nat.le_refl _) hSp (hputx _ hi (by omega) hl rfl) ((World.putObj_heap_other (by omega)).trans hk)⟩
def restLen (Bs:Nat) (W:World):Nat:=match W.cell? ⟨Bs,0,none⟩ with
  | some (.string s)=>s.size
  | _=>0
theorem rest_eq {W:World} {Bs:Nat} {s:List UInt8} (h:Boxed W Bs 9 (.string ⟨s.toArray⟩)):restLen Bs W=s.length:=by
  unfold restLen
  rw [h.cell]
  simp [ByteArray.size]
theorem idx_none (c:UInt8):∀ s:List UInt8,c ∉ s→Lib.indexByte s c = -1:=by
  intro s
  induction s with
  | nil=>intro _; rfl
  | cons b s ih =>
    intro h
    have hb:(b == c)=false:=beq_eq_false_iff_ne.2 fun e=>h (by rw [e]; exact List.mem_cons_self ..)
    unfold Lib.indexByte
    rw [hb,ih fun e=>h (List.mem_cons_of_mem _ e)]
    rfl
theorem idx_at (c:UInt8) (r:List UInt8):∀ x:List UInt8,c ∉ x→Lib.indexByte (x++c :: r) c=(x.length:Int):=by
  intro x
  induction x with
  | nil=>intro _; show Lib.indexByte (c :: r) c=_; unfold Lib.indexByte; simp
  | cons b x ih =>
    intro h
    have hb:(b == c)=false:=beq_eq_false_iff_ne.2 fun e=>h (by rw [e]; exact List.mem_cons_self ..)
    show Lib.indexByte (b :: (x++c :: r)) c=_
    unfold Lib.indexByte
    rw [hb,ih fun e=>h (List.mem_cons_of_mem _ e)]
    have:(((x.length:Nat):Int) == -1)=false:=beq_eq_false_iff_ne.2 (by omega)
    rw [this]
    simp
theorem ext_upto (s:List UInt8) (k:Nat):(⟨s.toArray⟩:ByteArray).extract 0 k=⟨(s.take k).toArray⟩:=by
  apply ByteArray.ext
  rw [ByteArray.data_extract]
  simp
theorem ext_from (s:List UInt8) (k:Nat):(⟨s.toArray⟩:ByteArray).extract k (⟨s.toArray⟩:ByteArray).size=⟨(s.drop k).toArray⟩:=by
  apply ByteArray.ext
  rw [ByteArray.data_extract]
  simp [ByteArray.size]
  exact List.take_of_length_le (by simp)
set_option maxRecDepth 100000 in
set_option maxHeartbeats 2000000 in
theorem lines1_in (n : Nat) (hib : ∀ (s : List UInt8) (w : World), CallsIn Fence.wide (n - 1) Tryz.prog 42 #[.string ⟨s.toArray⟩, .int .u8 10] w fun e w' => e = .returned (.int .i64 (Lib.indexByte s 10)) ∧ w' = w)
    (hn:1≤n) (l Bs:Nat) (s:List UInt8) (xs:List (List UInt8)) (hs:s.length≤300000) (hx:LinesOf s xs) (J Jx:List (List UInt8)→World→Prop)
    (hJ:∀ s A B row,J s A→A.grownBy B row→(∀ r,row=some r→r=Bs)→J s B)
    (hY:∀ pre x W1,J pre W1→(pre++[x]) <+: xs→(∃ u,Boxed W1 Bs 9 (.string u))→YieldAt Fence.wide (n - 1) Tryz.prog l #[.string ⟨x.toArray⟩] W1 fun e W' =>
      (e = .returned (.bool true)∧J (pre++[x]) W'∧W'.heap[Bs]? = W1.heap[Bs]?)∨(e = .returned (.bool false)∧Jx (pre++[x]) W'))
    (W:World) (hB:Boxed W Bs 9 (.string ⟨s.toArray⟩)) (h0:J [] W) :
    CallsIn Fence.wide n Tryz.prog 41 #[.func (.yield l) #[] #[],.pointer (some ⟨Bs,0,none⟩)] W fun e W'=>(∃ v,e = .returned v)∧(J xs W'∨(∃ pre,pre <+: xs∧Jx pre W')):=by
  refine callsIn_of_wp Tryz.func41 rfl trivial ?_ rfl
  simp only [Tryz.ntmps41,List.size_toArray,List.length_cons,List.length_nil,Nat.reduceAdd,Nat.reduceSub,Array.replicate_succ,Array.replicate_zero,List.push_toArray,List.append_toArray,List.nil_append,List.cons_append]
  gi_wp2
  gi_loopw [3] (fun v3 wr=>∃ (pre rl:List (List UInt8)) (rest:List UInt8),xs=pre++rl∧LinesOf rest rl∧rest.length≤300000∧Boxed wr Bs 9 (.string ⟨rest.toArray⟩)∧J pre wr) (fun _ wr=>restLen Bs wr)
  case atStart=>exact ⟨[],xs,s,rfl,hx,hs,hB,h0⟩
  case round =>
    obtain ⟨pre,rl,rest,rfl,hl,hlen,hbx,hJs⟩:=hrel
    have hc:=hbx.cell
    have hsz:(⟨rest.toArray⟩:ByteArray).size=rest.length:=by simp [ByteArray.size]
    have hf:=hbx.frozen
    have setB:∀ u:List UInt8,Boxed (wr.setCell ⟨Bs,0,none⟩ (.string ⟨u.toArray⟩)) Bs 9 (.string ⟨u.toArray⟩):=fun u=>hbx.set _
    have hJset:∀ u:Value,J pre (wr.setCell ⟨Bs,0,none⟩ u):=fun u=>hJ _ _ _ (some Bs) hJs (grownBy_setCell' _ _ _) (fun r e=>by cases e; rfl)
    cases hl with
    | nil =>
      gi_wp2
      go_end0
      exact ⟨⟨_,rfl⟩,.inl (by simpa using hJs)⟩
    | last h1 h2 =>
      have hidx:=idx_none 10 rest h2
      have h0l:0 < rest.length:=by cases rest with | nil=>exact absurd rfl h1 | cons a r=>simp
      have hm:=rest_eq hbx
      obtain ⟨fn,tmps,assign,body,hy,hR⟩:=hY pre rest _ (hJset (.string ⟨([]:List UInt8).toArray⟩)) (List.prefix_refl _) ⟨_,setB []⟩
      have hset:=setB []
      gi_wp2_with (refine ⟨trivial,?_⟩; gi_at_call 42; refine (hib rest _).mono ?_; rintro e w' ⟨rfl,hww⟩; obtain rfl:wr=w':=hww.symm; rw [hidx])
      refine hR.mono ?_
      rintro e W3 (⟨rfl,hJ3,hk3⟩ | ⟨rfl,hx3⟩)
      · have hb3 : Boxed W3 Bs 9 (.string ⟨([] : List UInt8).toArray⟩) := hk3.trans hset
        have hm3:=rest_eq hb3
        gi_wp2
        go_roundw
        case rel=>exact ⟨pre++[rest],[],[],by simp,.nil,by simp,hb3,hJ3⟩
        case measure=>rw [hm3,hm]; exact h0l
      · gi_wp2
        refine bodyPost_ret (results_none rfl _ _ _) rfl ?_
        exact ⟨⟨_,rfl⟩,.inr ⟨pre++[rest],List.prefix_refl _,hx3⟩⟩
    | @cons x r rl h1 h2 =>
      have hidx:=idx_at 10 r x h1
      have hm:=rest_eq hbx
      gi_wp2_with (refine ⟨trivial,?_⟩; gi_at_call 42; refine (hib (x++10 :: r) _).mono ?_; rintro e w' ⟨rfl,hww⟩; obtain rfl:wr=w':=hww.symm; rw [hidx])
      have hmx:Tryz.prog.follows .mixedOrders=true:=by kernel_rfl
      have hlen2:(x++10 :: r).length=x.length+1+r.length:=by simp; omega
      rw [hlen2] at hlen hsz
      have hw:IntKind.wrap .i64 ((x.length:Int)+1)=(x.length:Int)+1:=wrapI (by omega) (by omega)
      have hle:(x.length:Int)+1≤((x.length+1+r.length:Nat):Int):=by omega
      have hge:(0:Int)≤(x.length:Int)+1:=by omega
      have hx1:(⟨(x++10 :: r).toArray⟩:ByteArray).extract 0 (x.length+1)=⟨(x++[10]).toArray⟩:=by
        rw [ext_upto]
        congr 2
        rw [show x++10 :: r=(x++[10])++r by simp,List.take_append_of_le_length (by simp)]
        exact List.take_of_length_le (by simp)
      have hx2:(⟨(x++10 :: r).toArray⟩:ByteArray).extract (x.length+1) (x.length+1+r.length)=⟨r.toArray⟩:=by
        rw [← hsz,ext_from]
        congr 2
        rw [show x++10 :: r=(x++[10])++r by simp,List.drop_append_of_le_length (by simp)]
        simp
      have hrl:r.length≤300000:=by omega
      have hJd:∀ u:Value,J pre (wr.setCell ⟨Bs,0,none⟩ u).drew:=fun u=>hJ _ _ _ none (hJset u) ⟨rfl,rfl,rfl,Nat.le_refl _,fun _ _ _=>rfl⟩ (fun r e=>by cases e)
      have hpre:(pre++[x++[10]]) <+: (pre++(x++[10]) :: rl):=⟨rl,by simp⟩
      obtain ⟨fn,tmps,assign,body,hy,hR⟩:=hY pre (x++[10]) _ (hJd (.string ⟨r.toArray⟩)) hpre ⟨_,setB r⟩
      have hset:=setB r
      have hmr:r.length < x.length+1+r.length:=by omega
      generalize hrest:x++10 :: r=rest at *
      gi_region
      try rw [hx1]
      try rw [hx2]
      gi_wp2
      refine hR.mono ?_
      rintro e W3 (⟨rfl,hJ3,hk3⟩ | ⟨rfl,hx3⟩)
      · have hb3 : Boxed W3 Bs 9 (.string ⟨r.toArray⟩) := hk3.trans hset
        have hm3:=rest_eq hb3
        gi_wp2
        go_roundw
        case rel=>exact ⟨pre++[x++[10]],rl,r,by simp,h2,hrl,hb3,hJ3⟩
        case measure=>rw [hm3,hm,hlen2]; exact hmr
      · gi_wp2
        refine bodyPost_ret (results_none rfl _ _ _) rfl ?_
        exact ⟨⟨_,rfl⟩,.inr ⟨pre++[x++[10]],hpre,hx3⟩⟩
set_option maxHeartbeats 1000000 in
theorem lines_in (n:Nat) (s:List UInt8) (w:World):CallsIn Fence.wide n Tryz.prog 24 #[.string ⟨s.toArray⟩] w fun e w'=>e = .returned (.func (.func 41) #[] #[.pointer (some ⟨w.heap.size,0,none⟩)])∧w'=w.alloc (.cells #[.string ⟨s.toArray⟩] 9):=by
  refine callsIn_of_wp Tryz.func24 rfl trivial ?_ rfl
  simp only [Tryz.ntmps24,List.size_toArray,List.length_cons,List.length_nil,Nat.reduceAdd,Nat.reduceSub,Array.replicate_succ,Array.replicate_zero,List.push_toArray,List.append_toArray,List.nil_append,List.cons_append]
  gi_wp2
  go_ret
  exact ⟨rfl,rfl⟩
theorem idx_in (n:Nat) (s:List UInt8) (w:World):CallsIn Fence.wide n Tryz.prog 42 #[.string ⟨s.toArray⟩,.int .u8 10] w fun e w'=>e = .returned (.int .i64 (Lib.indexByte s 10))∧w'=w :=
  callsIn_wide.2 (Any.strings_IndexByte idxLay ⟨s.toArray⟩ 10 w)
theorem lines_seq (n:Nat) (hn:1≤n) (Bs:Nat) (s:List UInt8) (xs:List (List UInt8)) (hs:s.length≤300000) (hx:LinesOf s xs) (w:World) (hB:Boxed w Bs 9 (.string ⟨s.toArray⟩)) :
    SeqL Fence.wide n Tryz.prog 41 #[.pointer (some ⟨Bs,0,none⟩)] Bs xs w:=fun l J Jx W hW hJ hY h0 =>
  lines1_in n (fun s w=>idx_in _ s w) hn l Bs s xs hs hx J Jx hJ hY W (show W.heap[Bs]? = _ from hW.trans hB) h0
end Go.Proofs.YtnhmhcobpbilhaaGreatDoor
