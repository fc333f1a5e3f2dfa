/- An operation's abstract outcome does not hang on what follows. -/
import Derived.Test.YthdklallcljhlaaGreatDoorLK
namespace Go.Proofs.YthdklallcljhlaaGreatDoor
set_option linter.unusedVariables false
set_option linter.unusedSectionVars false
set_option linter.unusedSimpArgs false
open Go.RowKit
section
variable {U:Type} {El:U→Type} {P:Program} {X:Ctx U El} [DecidableEq U]
variable {o:Oper} {t:aQ U El} {h:au U El} {d:Nat} {r:Fin U El}
def Det {α:Type} (f:(α→Option (Fin U El))→Option (Fin U El)):Prop:=∃ oo:Option α,∀ k,f k=oo.bind k
theorem aX {α:Type} (x:α):Det (U:=U) (El:=El) (fun k=>k x):=⟨some x,fun _=>rfl⟩
theorem aj {α:Type}:Det (U:=U) (El:=El) (fun (_:α→Option (Fin U El))=>none):=⟨none,fun _=>rfl⟩
theorem aP {α:Type} {f:(α→Option (Fin U El))→Option (Fin U El)} (b:Bool) (h:Det f):Det (fun k=>chk b (f k)):=by
  cases b
  · exact ⟨none,fun _=>rfl⟩
  · exact h
theorem jc {α β:Type} {f:(α→Option (Fin U El))→Option (Fin U El)} (g:α→(β→Option (Fin U El))→Option (Fin U El)) (h:Det f) (hg:∀ x,Det (g x)):Det (fun k=>f fun x=>g x k):=by
  obtain ⟨oo,ho⟩:=h
  cases oo with
  | none=>exact ⟨none,fun k=>ho _⟩
  | some x =>
    obtain ⟨o2,h2⟩:=hg x
    exact ⟨o2,fun k=>(ho _).trans (h2 k)⟩
theorem Det.k {α:Type} {f:(α→Option (Fin U El))→Option (Fin U El)} (h:Det f) {k:α→Option (Fin U El)} (hv:f k=some r):∃ x,k x=some r∧∀ k',f k'=k' x:=by
  obtain ⟨oo,ho⟩:=h
  cases oo with
  | none=>rw [ho] at hv; cases hv
  | some x=>exact ⟨x,by rw [ho] at hv; exact hv,fun k'=>ho k'⟩
theorem fN (cs:List (AV U El)) (off sz:Nat) (ag:Bool):Det (ci cs off sz ag):=by
  unfold ci
  cases ag with
  | true=>exact aP _ (aX _)
  | false =>
    simp only [cond]
    cases cs[off]? with
    | none=>exact aj
    | some c=>exact aX c
theorem pF (p:AV U El):Det (fun (k:List (AV U El)×Nat→Option (Fin U El))=>lg X h p fun cs off=>k (cs,off)):=by
  unfold lg
  cases p<;>try exact aj
  case ptr id off =>
    dsimp only
    cases ac h id with
    | none=>exact aj
    | some b =>
      cases b with
      | rows u xs=>exact aj
      | box tg cs=>exact aX (cs,off)
      | map u v es=>exact aj
      | amap u ks cs=>exact aj
      | bld T j=>exact aj
  case row id i off =>
    dsimp only
    cases ac h id with
    | none=>exact aj
    | some b =>
      cases b with
      | rows u xs=>exact aP _ (aX (_,off))
      | box tg cs=>exact aj
      | map u v es=>exact aj
      | amap u ks cs=>exact aj
      | bld T j=>exact aj
  case pel u xs i off=>exact aX (_,off)
  case pcs cs off=>exact aX (cs,off)
theorem mT (op : BinOp) (ts : List Nat) (x y : AV U El) : Det (gy op ts x y) := by
  cases x <;> cases y <;> first
    | exact aj
    | (cases op<;>unfold gy<;>dsimp only<;>first
        | exact aj
        | exact aX _
        | exact aP _ (aX _)
        | exact aP _ (aP _ (aX _))
        | (refine aP _ ?_; simp only [iG]; first | exact aX _ | exact aj)
        | (cases ts.isEmpty<;>simp only [cond]<;>first | exact aj | (generalize bC ts _ _=q; cases q<;>first | exact aj | exact aX _)))
theorem nO {f:(AV U El→Option (Fin U El))→Option (Fin U El)} (h:Det f):Det (fun (k:Out U El→Option (Fin U El))=>f fun v=>k ⟨v,[]⟩) :=
  jc (fun (v:AV U El) (k:Out U El→Option (Fin U El))=>k ⟨v,[]⟩) h (fun v=>aX _)
theorem jd (hs : ∀ f vs, Det (fun (k : AV U El × au U El → Option (Fin U El)) => X.spec f vs fun r e => k (r, e))) : Det (aN X o t h d) := by
  unfold aN
  cases o.op<;>try exact aj
  case move x=>exact aX _
  case assign x=>exact aX _
  case pick c a b =>
    dsimp only
    cases oget t c<;>first | exact aj | (rename_i b; cases b<;>exact aX _)
  case alloc e =>
    have old:Det (fun (k:Out U El→Option (Fin U El))=>match jO X.zeros e with
      | some z => match cellsOf (constAV z) with
        | some cs=>k ⟨.ptr d 0,[(d,.box 0 cs)]⟩
        | none=>none
      | none=>none):=by
      cases jO X.zeros e with
      | none=>exact aj
      | some z =>
        dsimp only
        cases cellsOf (constAV z:AV U El)<;>first | exact aj | exact aX _
    dsimp only
    cases aM X.tds e with
    | none=>exact old
    | some td=>cases td<;>first | exact old | exact aP _ (aX _)
  case box e x =>
    dsimp only
    cases cellsOf (oget t x)<;>first | exact aj | exact aX _
  case build ty ps =>
    dsimp only
    cases aM X.tds ty with
    | none=>exact aj
    | some td =>
      cases td<;>try exact aj
      · dsimp only
        generalize mC t _ _ ps.toList=q
        cases q<;>first | exact aj | exact aP _ (aX _)
      · dsimp only
        generalize bH t _ 0 0 _ ps.toList=q
        cases q<;>first | exact aj | exact aP _ (aX _)
  case buildSlice ty n ps =>
    dsimp only
    cases aM X.tds ty with
    | none=>exact aj
    | some td =>
      cases td<;>try exact aj
      · dsimp only
        refine aP _ (aP _ ?_)
        generalize fb X.E _ t 0 ps.toList=q
        cases q<;>first | exact aj | exact aX _
  case load ty p =>
    dsimp only
    cases aM X.tds ty with
    | none=>exact aj
    | some td =>
      dsimp only
      cases gW td with
      | none=>exact aj
      | some q =>
        obtain ⟨sz,ag⟩:=q
        dsimp only
        refine jc (f:=fun (k:List (AV U El)×Nat→Option (Fin U El))=>lg X h (oget t p) fun cs off=>k (cs,off)) (fun q (k:Out U El→Option (Fin U El))=>ci q.1 q.2 sz ag fun v=>k ⟨v,[]⟩) (pF _) (fun q => ?_)
        exact nO (fN _ _ _ _)
  case nilCheck x =>
    dsimp only
    cases oget t x<;>first | exact aj | exact aX _
  case binOp op ty x y yt =>
    dsimp only
    exact aP _ (nO (mT _ _ _ _))
  case unOp u ty x =>
    dsimp only
    cases u<;>cases oget t x<;>first | exact aj | exact aX _
  case makeMap ty rs =>
    cases rs with
    | some y=>exact aj
    | none =>
      dsimp only
      cases aM X.tds ty with
      | none=>exact aj
      | some td=>cases td<;>first | exact aj | exact aX _
  case lookup ty m ix ok =>
    dsimp only
    cases aM X.tds ty with
    | none=>exact aj
    | some td =>
      cases td <;> cases oget t m <;> dsimp only <;> first
        | exact aj
        | (refine aP _ ?_
           generalize ij X.E _ (oget t ix)=q
           cases q<;>first | exact aj | exact aX _)
        | (cases ac h _ with
           | none=>exact aj
           | some b =>
             cases b<;>dsimp only<;>first
               | exact aj
               | (refine aP _ ?_
                  generalize ij X.E _ (oget t ix)=q
                  cases q<;>first | exact aj | exact aX _))
  case convert s ty x =>
    dsimp only
    cases aM X.tds s with
    | none=>exact aj
    | some _ =>
      cases aM X.tds ty with
      | none=>exact aj
      | some td=>cases td<;>cases oget t x<;>first | exact aj | exact aX _
  case makeFunc fn as bs =>
    cases fn<;>first | exact aj | exact aX _
  case makeSlice ty n c =>
    dsimp only
    cases aM X.tds ty with
    | none=>exact aj
    | some td=>cases td<;>cases oget t n<;>cases oget t c<;>first | exact aj | exact aP _ (aX _)
  case slice ty x lo hi mx =>
    cases mx with
    | some m=>exact aj
    | none =>
      dsimp only
      cases aM X.tds ty with
      | none=>exact aj
      | some td =>
        cases td <;> cases oget t x <;> dsimp only <;> first
          | exact aj
          | ((repeat' split)<;>first | exact aj | exact aP _ (aX _) | exact aP _ (aP _ (aX _)))
          | (generalize (match lo with | some o=>oget t o | none=>AV.int IntKind.i64 0)=q1
             generalize (match hi with | some o=>oget t o | none=>AV.int IntKind.i64 _)=q2
             cases q1<;>cases q2<;>first | exact aj | exact aP _ (aX _) | exact aP _ (aP _ (aX _)))
          | (cases ac h _ with
             | none=>exact aj
             | some b =>
               cases b with
               | box tg cs=>exact aj
               | map u v es=>exact aj
               | amap u ks cs=>exact aj
               | bld T j=>exact aj
               | rows u xs =>
                 dsimp only
                 generalize (match lo with | some o=>oget t o | none=>AV.int IntKind.i64 0)=q1
                 generalize (match hi with | some o=>oget t o | none=>AV.int IntKind.i64 _)=q2
                 cases q1<;>cases q2<;>first | exact aj | exact aP _ (aX _) | exact aP _ (aP _ (aX _)))
  case fieldAddr s p f =>
    dsimp only
    cases aM X.tds s with
    | none=>exact aj
    | some td =>
      cases td<;>try exact aj
      dsimp only
      generalize (_:List (Nat×Nat×Bool))[f]? = q
      cases q with
      | none=>exact aj
      | some q=>obtain ⟨a,b,c⟩:=q; dsimp only; cases oget t p<;>first | exact aj | exact aX _
  case field s x f =>
    dsimp only
    cases aM X.tds s with
    | none=>exact aj
    | some td =>
      cases td<;>try exact aj
      dsimp only
      generalize (_:List (Nat×Nat×Bool))[f]? = q
      cases q with
      | none=>exact aj
      | some q =>
        obtain ⟨a,b,c⟩:=q; dsimp only
        cases oget t x<;>first | exact aj | exact nO (fN _ _ _ _)
  case indexAddr ty x ix =>
    dsimp only
    cases aM X.tds ty with
    | none=>exact aj
    | some td =>
      cases td<;>cases oget t ix<;>try exact aj
      · dsimp only
        cases oget t x<;>dsimp only<;>first
          | exact aj
          | exact aP _ (aP _ (aX _))
          | (cases ac h _ with
             | none=>exact aj
             | some b=>cases b<;>first | exact aj | exact aP _ (aP _ (aX _)))
      · dsimp only
        cases oget t x<;>dsimp only<;>first | exact aj | exact aP _ (aX _)
  case index ty x ix =>
    dsimp only
    cases aM X.tds ty with
    | none=>exact aj
    | some td =>
      cases td<;>cases oget t ix<;>try exact aj
      · dsimp only
        cases oget t x<;>dsimp only<;>first | exact aj | exact aP _ (aX _)
      · dsimp only
        cases oget t x<;>dsimp only<;>first | exact aj | exact aP _ (nO (fN _ _ _ _))
  case extract x i =>
    dsimp only
    cases oget t x<;>try exact aj
    dsimp only
    generalize (_:List (AV U El))[i]? = q
    cases q<;>first | exact aj | exact aX _
  case call c =>
    obtain ⟨callee,as,ts⟩:=c
    cases callee with
    | value f =>
      dsimp only
      cases oget t f with
      | fn g first caps =>
        dsimp only
        generalize gx X h (first++as.toList.map (oget t)++caps) _=q
        cases q with
        | none=>exact aj
        | some vs =>
          dsimp only
          exact jc (f:=fun (k:AV U El×au U El→Option (Fin U El))=>X.spec g vs fun r e=>k (r,e))
            (fun q (k:Out U El→Option (Fin U El))=>chk (AV.resG AV.cell q.1&&fw q.2&&((AV.resG AV.cellF q.1&&fW X.E q.2)||(first++as.toList.map (oget t)++caps).all AV.plain)) (k ⟨fc d q.1,dC d q.2⟩)) (hs _ _) (fun q=>aP _ (aX _))
      | _=>exact aj
    | invoke x m=>exact aj
    | builtin b =>
      cases b<;>try exact aj
      case len =>
        dsimp only
        rcases as.toList with _ | ⟨x,_ | ⟨y,l⟩⟩<;>try exact aj
        rcases ts.toList with _ | ⟨ty,l⟩<;>try exact aj
        dsimp only
        cases lenOf h (oget t x)<;>first | exact aj | exact aP _ (aX _)
      case max =>
        dsimp only
        rcases as.toList with _ | ⟨x,_ | ⟨y,_ | ⟨z,l⟩⟩⟩<;>try exact aj
        dsimp only
        cases oget t x<;>cases oget t y<;>first | exact aj | exact aX _
      case min =>
        dsimp only
        rcases as.toList with _ | ⟨x,_ | ⟨y,_ | ⟨z,l⟩⟩⟩<;>try exact aj
        dsimp only
        cases oget t x<;>cases oget t y<;>first | exact aj | exact aX _
end
end Go.Proofs.YthdklallcljhlaaGreatDoor
