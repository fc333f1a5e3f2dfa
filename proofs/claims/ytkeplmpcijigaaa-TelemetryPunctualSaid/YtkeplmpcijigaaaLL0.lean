/- An operation's abstract outcome does not hang on what follows. -/
import Derived.Test.YtkeplmpcijigaaaLK
namespace Go.Proofs.Ytkeplmpcijigaaa
set_option linter.unusedVariables false
set_option linter.unusedSectionVars false
set_option linter.unusedSimpArgs false
open Go.RowKit
section
variable {U:Type} {El:U→Type} {P:Program} {X:Ctx U El} [DecidableEq U]
variable {o:Oper} {t:Tmps U El} {h:Heap U El} {d:Nat} {r:Fin U El}
def Det {α:Type} (f:(α→Option (Fin U El))→Option (Fin U El)):Prop:=∃ oo:Option α,∀ k,f k=oo.bind k
theorem det_k {α:Type} (x:α):Det (U:=U) (El:=El) (fun k=>k x):=⟨some x,fun _=>rfl⟩
theorem det_none {α:Type}:Det (U:=U) (El:=El) (fun (_:α→Option (Fin U El))=>none):=⟨none,fun _=>rfl⟩
theorem det_chk {α:Type} {f:(α→Option (Fin U El))→Option (Fin U El)} (b:Bool) (h:Det f):Det (fun k=>chk b (f k)):=by
  cases b
  · exact ⟨none,fun _=>rfl⟩
  · exact h
theorem det_bind {α β:Type} {f:(α→Option (Fin U El))→Option (Fin U El)} (g:α→(β→Option (Fin U El))→Option (Fin U El)) (h:Det f) (hg:∀ x,Det (g x)):Det (fun k=>f fun x=>g x k):=by
  obtain ⟨oo,ho⟩:=h
  cases oo with
  | none=>exact ⟨none,fun k=>ho _⟩
  | some x =>
    obtain ⟨o2,h2⟩:=hg x
    exact ⟨o2,fun k=>(ho _).trans (h2 k)⟩
theorem Det.k {α:Type} {f:(α→Option (Fin U El))→Option (Fin U El)} (h:Det f) {k:α→Option (Fin U El)} (hv:f k=some r):∃ x,k x=some r∧∀ k',f k'=k' x:=by
  obtain ⟨oo,ho⟩:=h
  cases oo with
  | none=>rw [ho] at hv; cases hv
  | some x=>exact ⟨x,by rw [ho] at hv; exact hv,fun k'=>ho k'⟩
theorem det_caseIx {α:Type} {g:Nat→(α→Option (Fin U El))→Option (Fin U El)} (i:Int) (hg:∀ q,Det (g q)):∀ m j,Det (fun k=>caseIx i j m fun q=>g q k):=by
  intro m
  induction m with
  | zero=>intro j; exact det_none
  | succ m ih =>
    intro j
    simp only [caseIx]
    cases (i == Int.ofNat j) with
    | true=>exact hg j
    | false=>exact ih (j+1)
theorem det_ixA {α:Type} {g:Nat→(α→Option (Fin U El))→Option (Fin U El)} (n:Nat) (i:Int) (hg:∀ q,Det (g q)):Det (fun k=>ixA n i fun q=>g q k):=by
  unfold ixA
  cases Nat.ble n 8 with
  | true=>exact det_caseIx i hg n 0
  | false=>exact det_chk _ (hg _)
theorem det_partOf (cs:List (AV U El)) (off sz:Nat) (ag:Bool):Det (partOf cs off sz ag):=by
  unfold partOf
  cases ag with
  | true=>exact det_chk _ (det_k _)
  | false =>
    simp only [cond]
    cases cs[off]? with
    | none=>exact det_none
    | some c=>exact det_k c
theorem det_view (p:AV U El):Det (fun (k:List (AV U El)×Nat→Option (Fin U El))=>view X h p fun cs off=>k (cs,off)):=by
  unfold view
  cases p<;>try exact det_none
  case ptr id off =>
    dsimp only
    cases hget h id with
    | none=>exact det_none
    | some b =>
      cases b with
      | rows u xs=>exact det_none
      | box tg cs=>exact det_k (cs,off)
      | map u v es=>exact det_none
      | amap u ks cs=>exact det_none
      | bld T j=>exact det_none
  case row id i off =>
    dsimp only
    cases hget h id with
    | none=>exact det_none
    | some b =>
      cases b with
      | rows u xs=>exact det_chk _ (det_k (_,off))
      | box tg cs=>exact det_none
      | map u v es=>exact det_none
      | amap u ks cs=>exact det_none
      | bld T j=>exact det_none
  case pel u xs i off=>exact det_k (_,off)
  case pcs cs off=>exact det_k (cs,off)
theorem det_absBin (op : BinOp) (ts : List Nat) (x y : AV U El) : Det (absBin op ts x y) := by
  cases x <;> cases y <;> first
    | exact det_none
    | (cases op<;>unfold absBin<;>dsimp only<;>first
        | exact det_none
        | exact det_k _
        | exact det_chk _ (det_k _)
        | exact det_chk _ (det_chk _ (det_k _))
        | (refine det_chk _ ?_; simp only [absCmp]; first | exact det_k _ | exact det_none)
        | (cases ts.isEmpty<;>simp only [cond]<;>first | exact det_none | (generalize cellsEq ts _ _=q; cases q<;>first | exact det_none | exact det_k _)))
theorem det_v {f:(AV U El→Option (Fin U El))→Option (Fin U El)} (h:Det f):Det (fun (k:Out U El→Option (Fin U El))=>f fun v=>k ⟨v,[]⟩) :=
  det_bind (fun (v:AV U El) (k:Out U El→Option (Fin U El))=>k ⟨v,[]⟩) h (fun v=>det_k _)
theorem evalOp_det (hs : ∀ f vs, Det (fun (k : AV U El × Heap U El → Option (Fin U El)) => X.spec f vs fun r e => k (r, e))) : Det (evalOp X o t h d) := by
  unfold evalOp
  cases o.op<;>try exact det_none
  case move x=>exact det_k _
  case assign x=>exact det_k _
  case pick c a b =>
    dsimp only
    cases oget t c<;>first | exact det_none | (rename_i b; cases b<;>exact det_k _)
  case alloc e =>
    have old:Det (fun (k:Out U El→Option (Fin U El))=>match zGet X.zeros e with
      | some z => match cellsOf (constAV z) with
        | some cs=>k ⟨.ptr d 0,[(d,.box 0 cs)]⟩
        | none=>none
      | none=>none):=by
      cases zGet X.zeros e with
      | none=>exact det_none
      | some z =>
        dsimp only
        cases cellsOf (constAV z:AV U El)<;>first | exact det_none | exact det_k _
    dsimp only
    cases tdGet X.tds e with
    | none=>exact old
    | some td=>cases td<;>first | exact old | exact det_chk _ (det_k _)
  case box e x =>
    dsimp only
    cases cellsOf (oget t x)<;>first | exact det_none | exact det_k _
  case build ty ps =>
    dsimp only
    cases tdGet X.tds ty with
    | none=>exact det_none
    | some td =>
      cases td<;>try exact det_none
      · dsimp only
        generalize litAny t _ _ ps.toList=q
        cases q<;>first | exact det_none | exact det_chk _ (det_k _)
      · dsimp only
        generalize litCells t _ 0 0 _ ps.toList=q
        cases q<;>first | exact det_none | exact det_chk _ (det_k _)
  case buildSlice ty n ps =>
    dsimp only
    cases tdGet X.tds ty with
    | none=>exact det_none
    | some td =>
      cases td<;>try exact det_none
      · dsimp only
        cases Nat.blt 0 (X.E.boxS ty) with
        | true =>
          refine det_chk _ ?_
          generalize litBox t 0 ps.toList=q
          cases q<;>first | exact det_none | exact det_k _
        | false =>
          refine det_chk _ (det_chk _ ?_)
          generalize litRows X.E _ t 0 ps.toList=q
          cases q<;>first | exact det_none | exact det_k _
  case load ty p =>
    dsimp only
    cases tdGet X.tds ty with
    | none=>exact det_none
    | some td =>
      dsimp only
      cases tdAgg td with
      | none=>exact det_none
      | some q =>
        obtain ⟨sz,ag⟩:=q
        dsimp only
        refine det_bind (f:=fun (k:List (AV U El)×Nat→Option (Fin U El))=>view X h (oget t p) fun cs off=>k (cs,off)) (fun q (k:Out U El→Option (Fin U El))=>partOf q.1 q.2 sz ag fun v=>k ⟨v,[]⟩) (det_view _) (fun q => ?_)
        exact det_v (det_partOf _ _ _ _)
  case nilCheck x =>
    dsimp only
    cases oget t x<;>first | exact det_none | exact det_k _
  case binOp op ty x y yt =>
    dsimp only
    exact det_chk _ (det_v (det_absBin _ _ _ _))
  case unOp u ty x =>
    dsimp only
    cases u<;>cases oget t x<;>first | exact det_none | exact det_k _
  case makeMap ty rs =>
    cases rs with
    | some y=>exact det_none
    | none =>
      dsimp only
      cases tdGet X.tds ty with
      | none=>exact det_none
      | some td=>cases td<;>first | exact det_none | exact det_k _
  case lookup ty m ix ok =>
    dsimp only
    cases tdGet X.tds ty with
    | none=>exact det_none
    | some td =>
      cases td <;> cases oget t m <;> dsimp only <;> first
        | exact det_none
        | (refine det_chk _ ?_
           generalize decV X.E _ (oget t ix)=q
           cases q<;>first | exact det_none | exact det_k _)
        | (cases hget h _ with
           | none=>exact det_none
           | some b =>
             cases b<;>dsimp only<;>first
               | exact det_none
               | (refine det_chk _ ?_
                  generalize decV X.E _ (oget t ix)=q
                  cases q<;>first | exact det_none | exact det_k _))
  case convert s ty x =>
    dsimp only
    cases tdGet X.tds s with
    | none=>exact det_none
    | some _ =>
      cases tdGet X.tds ty with
      | none=>exact det_none
      | some td=>cases td<;>cases oget t x<;>first | exact det_none | exact det_k _
  case makeFunc fn as bs =>
    cases fn<;>first | exact det_none | exact det_k _
  case makeSlice ty n c =>
    dsimp only
    cases tdGet X.tds ty with
    | none=>exact det_none
    | some td =>
      cases td <;> cases oget t n <;> cases oget t c <;> first
        | exact det_none
        | (dsimp only
           cases Nat.blt 0 (X.E.boxS ty) with
           | false=>exact det_chk _ (det_k _)
           | true =>
             refine det_chk _ ?_
             cases zGet X.zeros (X.E.tid _) with
             | none=>exact det_none
             | some z =>
               dsimp only
               generalize cellsOf (constAV z:AV U El)=q
               cases q with
               | none=>exact det_none
               | some q =>
                 match q with
                 | []=>exact det_none
                 | [c]=>exact det_k _
                 | _ :: _ :: _=>exact det_none)
  case slice ty x lo hi mx =>
    cases mx with
    | some m=>exact det_none
    | none =>
      dsimp only
      cases tdGet X.tds ty with
      | none=>exact det_none
      | some td =>
        cases td <;> cases oget t x <;> dsimp only <;> first
          | exact det_none
          | ((repeat' split)<;>first | exact det_none | exact det_chk _ (det_k _) | exact det_chk _ (det_chk _ (det_k _)))
          | (generalize (match lo with | some o=>oget t o | none=>AV.int IntKind.i64 0)=q1
             generalize (match hi with | some o=>oget t o | none=>AV.int IntKind.i64 _)=q2
             cases q1<;>cases q2<;>first | exact det_none | exact det_chk _ (det_k _) | exact det_chk _ (det_chk _ (det_k _)))
          | (cases hget h _ with
             | none=>exact det_none
             | some b =>
               cases b with
               | box tg cs=>exact det_none
               | map u v es=>exact det_none
               | amap u ks cs=>exact det_none
               | bld T j=>exact det_none
               | rows u xs =>
                 dsimp only
                 generalize (match lo with | some o=>oget t o | none=>AV.int IntKind.i64 0)=q1
                 generalize (match hi with | some o=>oget t o | none=>AV.int IntKind.i64 _)=q2
                 cases q1<;>cases q2<;>first | exact det_none | exact det_chk _ (det_k _) | exact det_chk _ (det_chk _ (det_k _)))
  case fieldAddr s p f =>
    dsimp only
    cases tdGet X.tds s with
    | none=>exact det_none
    | some td =>
      cases td<;>try exact det_none
      dsimp only
      generalize (_:List (Nat×Nat×Bool))[f]? = q
      cases q with
      | none=>exact det_none
      | some q=>obtain ⟨a,b,c⟩:=q; dsimp only; cases oget t p<;>first | exact det_none | exact det_k _
  case field s x f =>
    dsimp only
    cases tdGet X.tds s with
    | none=>exact det_none
    | some td =>
      cases td<;>try exact det_none
      dsimp only
      generalize (_:List (Nat×Nat×Bool))[f]? = q
      cases q with
      | none=>exact det_none
      | some q =>
        obtain ⟨a,b,c⟩:=q; dsimp only
        cases oget t x<;>first | exact det_none | exact det_v (det_partOf _ _ _ _)
  case indexAddr ty x ix =>
    dsimp only
    cases tdGet X.tds ty with
    | none=>exact det_none
    | some td =>
      cases td<;>cases oget t ix<;>try exact det_none
      · dsimp only
        cases oget t x<;>dsimp only<;>first
          | exact det_none
          | exact det_chk _ (det_chk _ (det_k _))
          | (cases hget h _ with
             | none=>exact det_none
             | some b=>cases b<;>first | exact det_none | exact det_chk _ (det_chk _ (det_k _)) | exact det_chk _ (det_ixA _ _ fun _=>det_k _))
      · dsimp only
        cases oget t x<;>dsimp only<;>first | exact det_none | exact det_ixA _ _ fun _=>det_k _
  case index ty x ix =>
    dsimp only
    cases tdGet X.tds ty with
    | none=>exact det_none
    | some td =>
      cases td<;>cases oget t ix<;>try exact det_none
      · dsimp only
        cases oget t x<;>dsimp only<;>first | exact det_none | exact det_chk _ (det_k _)
      · dsimp only
        cases oget t x<;>dsimp only<;>first | exact det_none | exact det_ixA _ _ fun _=>det_v (det_partOf _ _ _ _)
  case extract x i =>
    dsimp only
    cases oget t x<;>try exact det_none
    dsimp only
    generalize (_:List (AV U El))[i]? = q
    cases q<;>first | exact det_none | exact det_k _
  case call c =>
    obtain ⟨callee,as,ts⟩:=c
    cases callee with
    | value f =>
      dsimp only
      cases oget t f with
      | fn g first caps =>
        dsimp only
        generalize toArgs X h (first++as.toList.map (oget t)++caps) _=q
        cases q with
        | none=>exact det_none
        | some vs =>
          dsimp only
          exact det_bind (f:=fun (k:AV U El×Heap U El→Option (Fin U El))=>X.spec g vs fun r e=>k (r,e))
            (fun q (k:Out U El→Option (Fin U El))=>chk (AV.resG AV.cell q.1&&rowsH q.2&&((AV.resG AV.cellF q.1&&flatH X.E q.2)||(first++as.toList.map (oget t)++caps).all AV.plain)) (k ⟨renameR d q.1,renameH d q.2⟩)) (hs _ _) (fun q=>det_chk _ (det_k _))
      | _=>exact det_none
    | invoke x m=>exact det_none
    | builtin b =>
      cases b<;>try exact det_none
      case len =>
        dsimp only
        rcases as.toList with _ | ⟨x,_ | ⟨y,l⟩⟩<;>try exact det_none
        rcases ts.toList with _ | ⟨ty,l⟩<;>try exact det_none
        dsimp only
        cases lenOf h (oget t x)<;>first | exact det_none | exact det_chk _ (det_k _)
      case max =>
        dsimp only
        rcases as.toList with _ | ⟨x,_ | ⟨y,_ | ⟨z,l⟩⟩⟩<;>try exact det_none
        dsimp only
        cases oget t x<;>cases oget t y<;>first | exact det_none | exact det_k _
      case min =>
        dsimp only
        rcases as.toList with _ | ⟨x,_ | ⟨y,_ | ⟨z,l⟩⟩⟩<;>try exact det_none
        dsimp only
        cases oget t x<;>cases oget t y<;>first | exact det_none | exact det_k _
end
end Go.Proofs.Ytkeplmpcijigaaa
