/- An operation's abstract outcome does not hang on what follows. -/
import Derived.Test.YtnofdcckddfooaaDoorLK
namespace Go.Proofs.YtnofdcckddfooaaDoor
set_option linter.unusedVariables false
set_option linter.unusedSectionVars false
set_option linter.unusedSimpArgs false
open Go.RowKit
section
variable {U:Type} {El:U→Type} {P:Program} {X:Ctx U El} [DecidableEq U]
variable {o:Oper} {t:ar U El} {h:ah U El} {d:Nat} {r:Fin U El}
def Det {α:Type} (f:(α→Option (Fin U El))→Option (Fin U El)):Prop:=∃ oo:Option α,∀ k,f k=oo.bind k
theorem aE {α:Type} (x:α):Det (U:=U) (El:=El) (fun k=>k x):=⟨some x,fun _=>rfl⟩
theorem ac {α:Type}:Det (U:=U) (El:=El) (fun (_:α→Option (Fin U El))=>none):=⟨none,fun _=>rfl⟩
theorem au {α:Type} {f:(α→Option (Fin U El))→Option (Fin U El)} (b:Bool) (h:Det f):Det (fun k=>chk b (f k)):=by
  cases b
  · exact ⟨none,fun _=>rfl⟩
  · exact h
theorem gx {α β:Type} {f:(α→Option (Fin U El))→Option (Fin U El)} (g:α→(β→Option (Fin U El))→Option (Fin U El)) (h:Det f) (hg:∀ x,Det (g x)):Det (fun k=>f fun x=>g x k):=by
  obtain ⟨oo,ho⟩:=h
  cases oo with
  | none=>exact ⟨none,fun k=>ho _⟩
  | some x =>
    obtain ⟨o2,h2⟩:=hg x
    exact ⟨o2,fun k=>(ho _).trans (h2 k)⟩
theorem Det.k {α:Type} {f:(α→Option (Fin U El))→Option (Fin U El)} (h:Det f) {k:α→Option (Fin U El)} (hv:f k=some r):∃ x,k x=some r∧∀ k',f k'=k' x:=by
  obtain ⟨oo,ho⟩:=h
  cases oo with
  | none=>rw [ho] at hv; cases hv
  | some x=>exact ⟨x,by rw [ho] at hv; exact hv,fun k'=>ho k'⟩
theorem kz {α:Type} {g:Nat→(α→Option (Fin U El))→Option (Fin U El)} (i:Int) (hg:∀ q,Det (g q)):∀ m j,Det (fun k=>eZ i j m fun q=>g q k):=by
  intro m
  induction m with
  | zero=>intro j; exact ac
  | succ m ih =>
    intro j
    simp only [eZ]
    cases (i == Int.ofNat j) with
    | true=>exact hg j
    | false=>exact ih (j+1)
theorem ly {α:Type} {g:Nat→(α→Option (Fin U El))→Option (Fin U El)} (n:Nat) (i:Int) (hg:∀ q,Det (g q)):Det (fun k=>ixA n i fun q=>g q k):=by
  unfold ixA
  cases Nat.ble n 8 with
  | true=>exact kz i hg n 0
  | false=>exact au _ (hg _)
theorem ew (cs:List (AV U El)) (off sz:Nat) (ag:Bool):Det (bE cs off sz ag):=by
  unfold bE
  cases ag with
  | true=>exact au _ (aE _)
  | false =>
    simp only [cond]
    cases cs[off]? with
    | none=>exact ac
    | some c=>exact aE c
theorem mR (p:AV U El):Det (fun (k:List (AV U El)×Nat→Option (Fin U El))=>jg X h p fun cs off=>k (cs,off)):=by
  unfold jg
  cases p<;>try exact ac
  case ptr id off =>
    dsimp only
    cases aa h id with
    | none=>exact ac
    | some b =>
      cases b with
      | rows u xs=>exact ac
      | box tg cs=>exact aE (cs,off)
      | map u v es=>exact ac
      | amap u ks cs=>exact ac
      | bld T j=>exact ac
  case row id i off =>
    dsimp only
    cases aa h id with
    | none=>exact ac
    | some b =>
      cases b with
      | rows u xs=>exact au _ (aE (_,off))
      | box tg cs=>exact ac
      | map u v es=>exact ac
      | amap u ks cs=>exact ac
      | bld T j=>exact ac
  case pel u xs i off=>exact aE (_,off)
  case pcs cs off=>exact aE (cs,off)
theorem kB (op : BinOp) (ts : List Nat) (x y : AV U El) : Det (eY op ts x y) := by
  cases x <;> cases y <;> first
    | exact ac
    | (cases op<;>unfold eY<;>dsimp only<;>first
        | exact ac
        | exact aE _
        | exact au _ (aE _)
        | exact au _ (au _ (aE _))
        | (refine au _ ?_; simp only [ga]; first | exact aE _ | exact ac)
        | (cases ts.isEmpty<;>simp only [cond]<;>first | exact ac | (generalize aG ts _ _=q; cases q<;>first | exact ac | exact aE _)))
theorem lz {f:(AV U El→Option (Fin U El))→Option (Fin U El)} (h:Det f):Det (fun (k:Out U El→Option (Fin U El))=>f fun v=>k ⟨v,[]⟩) :=
  gx (fun (v:AV U El) (k:Out U El→Option (Fin U El))=>k ⟨v,[]⟩) h (fun v=>aE _)
theorem gy (hs : ∀ f vs, Det (fun (k : AV U El × ah U El → Option (Fin U El)) => X.spec f vs fun r e => k (r, e))) : Det (aq X o t h d) := by
  unfold aq
  cases o.op<;>try exact ac
  case move x=>exact aE _
  case assign x=>exact aE _
  case pick c a b =>
    dsimp only
    cases oget t c<;>first | exact ac | (rename_i b; cases b<;>exact aE _)
  case alloc e =>
    have old:Det (fun (k:Out U El→Option (Fin U El))=>match gV X.zeros e with
      | some z => match cellsOf (constAV z) with
        | some cs=>k ⟨.ptr d 0,[(d,.box 0 cs)]⟩
        | none=>none
      | none=>none):=by
      cases gV X.zeros e with
      | none=>exact ac
      | some z =>
        dsimp only
        cases cellsOf (constAV z:AV U El)<;>first | exact ac | exact aE _
    dsimp only
    cases am X.tds e with
    | none=>exact old
    | some td=>cases td<;>first | exact old | exact au _ (aE _)
  case box e x =>
    dsimp only
    cases cellsOf (oget t x)<;>first | exact ac | exact aE _
  case build ty ps =>
    dsimp only
    cases am X.tds ty with
    | none=>exact ac
    | some td =>
      cases td<;>try exact ac
      · dsimp only
        generalize j9 t _ _ ps.toList=q
        cases q<;>first | exact ac | exact au _ (aE _)
      · dsimp only
        generalize be t _ 0 0 _ ps.toList=q
        cases q<;>first | exact ac | exact au _ (aE _)
  case buildSlice ty n ps =>
    dsimp only
    cases am X.tds ty with
    | none=>exact ac
    | some td =>
      cases td<;>try exact ac
      · dsimp only
        refine au _ (au _ ?_)
        generalize dE X.E _ t 0 ps.toList=q
        cases q<;>first | exact ac | exact aE _
  case load ty p =>
    dsimp only
    cases am X.tds ty with
    | none=>exact ac
    | some td =>
      dsimp only
      cases ft td with
      | none=>exact ac
      | some q =>
        obtain ⟨sz,ag⟩:=q
        dsimp only
        refine gx (f:=fun (k:List (AV U El)×Nat→Option (Fin U El))=>jg X h (oget t p) fun cs off=>k (cs,off)) (fun q (k:Out U El→Option (Fin U El))=>bE q.1 q.2 sz ag fun v=>k ⟨v,[]⟩) (mR _) (fun q => ?_)
        exact lz (ew _ _ _ _)
  case nilCheck x =>
    dsimp only
    cases oget t x<;>first | exact ac | exact aE _
  case binOp op ty x y yt =>
    dsimp only
    exact au _ (lz (kB _ _ _ _))
  case unOp u ty x =>
    dsimp only
    cases u<;>cases oget t x<;>first | exact ac | exact aE _
  case makeMap ty rs =>
    cases rs with
    | some y=>exact ac
    | none =>
      dsimp only
      cases am X.tds ty with
      | none=>exact ac
      | some td=>cases td<;>first | exact ac | exact aE _
  case lookup ty m ix ok =>
    dsimp only
    cases am X.tds ty with
    | none=>exact ac
    | some td =>
      cases td <;> cases oget t m <;> dsimp only <;> first
        | exact ac
        | (refine au _ ?_
           generalize fK X.E _ (oget t ix)=q
           cases q<;>first | exact ac | exact aE _)
        | (cases aa h _ with
           | none=>exact ac
           | some b =>
             cases b<;>dsimp only<;>first
               | exact ac
               | (refine au _ ?_
                  generalize fK X.E _ (oget t ix)=q
                  cases q<;>first | exact ac | exact aE _))
  case convert s ty x =>
    dsimp only
    cases am X.tds s with
    | none=>exact ac
    | some _ =>
      cases am X.tds ty with
      | none=>exact ac
      | some td=>cases td<;>cases oget t x<;>first | exact ac | exact aE _
  case makeFunc fn as bs =>
    cases fn<;>first | exact ac | exact aE _
  case makeSlice ty n c =>
    dsimp only
    cases am X.tds ty with
    | none=>exact ac
    | some td=>cases td<;>cases oget t n<;>cases oget t c<;>first | exact ac | exact au _ (aE _)
  case slice ty x lo hi mx =>
    cases mx with
    | some m=>exact ac
    | none =>
      dsimp only
      cases am X.tds ty with
      | none=>exact ac
      | some td =>
        cases td <;> cases oget t x <;> dsimp only <;> first
          | exact ac
          | ((repeat' split)<;>first | exact ac | exact au _ (aE _) | exact au _ (au _ (aE _)))
          | (generalize (match lo with | some o=>oget t o | none=>AV.int IntKind.i64 0)=q1
             generalize (match hi with | some o=>oget t o | none=>AV.int IntKind.i64 _)=q2
             cases q1<;>cases q2<;>first | exact ac | exact au _ (aE _) | exact au _ (au _ (aE _)))
          | (cases aa h _ with
             | none=>exact ac
             | some b =>
               cases b with
               | box tg cs=>exact ac
               | map u v es=>exact ac
               | amap u ks cs=>exact ac
               | bld T j=>exact ac
               | rows u xs =>
                 dsimp only
                 generalize (match lo with | some o=>oget t o | none=>AV.int IntKind.i64 0)=q1
                 generalize (match hi with | some o=>oget t o | none=>AV.int IntKind.i64 _)=q2
                 cases q1<;>cases q2<;>first | exact ac | exact au _ (aE _) | exact au _ (au _ (aE _)))
  case fieldAddr s p f =>
    dsimp only
    cases am X.tds s with
    | none=>exact ac
    | some td =>
      cases td<;>try exact ac
      dsimp only
      generalize (_:List (Nat×Nat×Bool))[f]? = q
      cases q with
      | none=>exact ac
      | some q=>obtain ⟨a,b,c⟩:=q; dsimp only; cases oget t p<;>first | exact ac | exact aE _
  case field s x f =>
    dsimp only
    cases am X.tds s with
    | none=>exact ac
    | some td =>
      cases td<;>try exact ac
      dsimp only
      generalize (_:List (Nat×Nat×Bool))[f]? = q
      cases q with
      | none=>exact ac
      | some q =>
        obtain ⟨a,b,c⟩:=q; dsimp only
        cases oget t x<;>first | exact ac | exact lz (ew _ _ _ _)
  case indexAddr ty x ix =>
    dsimp only
    cases am X.tds ty with
    | none=>exact ac
    | some td =>
      cases td<;>cases oget t ix<;>try exact ac
      · dsimp only
        cases oget t x<;>dsimp only<;>first
          | exact ac
          | exact au _ (au _ (aE _))
          | (cases aa h _ with
             | none=>exact ac
             | some b=>cases b<;>first | exact ac | exact au _ (au _ (aE _)))
      · dsimp only
        cases oget t x<;>dsimp only<;>first | exact ac | exact ly _ _ fun _=>aE _
  case index ty x ix =>
    dsimp only
    cases am X.tds ty with
    | none=>exact ac
    | some td =>
      cases td<;>cases oget t ix<;>try exact ac
      · dsimp only
        cases oget t x<;>dsimp only<;>first | exact ac | exact au _ (aE _)
      · dsimp only
        cases oget t x<;>dsimp only<;>first | exact ac | exact ly _ _ fun _=>lz (ew _ _ _ _)
  case extract x i =>
    dsimp only
    cases oget t x<;>try exact ac
    dsimp only
    generalize (_:List (AV U El))[i]? = q
    cases q<;>first | exact ac | exact aE _
  case call c =>
    obtain ⟨callee,as,ts⟩:=c
    cases callee with
    | value f =>
      dsimp only
      cases oget t f with
      | fn g first caps =>
        dsimp only
        generalize eX X h (first++as.toList.map (oget t)++caps) _=q
        cases q with
        | none=>exact ac
        | some vs =>
          dsimp only
          exact gx (f:=fun (k:AV U El×ah U El→Option (Fin U El))=>X.spec g vs fun r e=>k (r,e))
            (fun q (k:Out U El→Option (Fin U El))=>chk (AV.resG AV.cell q.1&&dW q.2&&((AV.resG AV.cellF q.1&&eD X.E q.2)||(first++as.toList.map (oget t)++caps).all AV.plain)) (k ⟨dF d q.1,ct d q.2⟩)) (hs _ _) (fun q=>au _ (aE _))
      | _=>exact ac
    | invoke x m=>exact ac
    | builtin b =>
      cases b<;>try exact ac
      case len =>
        dsimp only
        rcases as.toList with _ | ⟨x,_ | ⟨y,l⟩⟩<;>try exact ac
        rcases ts.toList with _ | ⟨ty,l⟩<;>try exact ac
        dsimp only
        cases lenOf h (oget t x)<;>first | exact ac | exact au _ (aE _)
      case max =>
        dsimp only
        rcases as.toList with _ | ⟨x,_ | ⟨y,_ | ⟨z,l⟩⟩⟩<;>try exact ac
        dsimp only
        cases oget t x<;>cases oget t y<;>first | exact ac | exact aE _
      case min =>
        dsimp only
        rcases as.toList with _ | ⟨x,_ | ⟨y,_ | ⟨z,l⟩⟩⟩<;>try exact ac
        dsimp only
        cases oget t x<;>cases oget t y<;>first | exact ac | exact aE _
end
end Go.Proofs.YtnofdcckddfooaaDoor
