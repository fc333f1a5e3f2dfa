/- The operations of a region, on: arithmetic, comparisons, literals, new slices. -/
import Derived.Test.YtkeplmpcijigaaaLD
namespace Go.Proofs.Ytkeplmpcijigaaa
set_option linter.unusedVariables false
set_option linter.unusedSectionVars false
set_option linter.unusedSimpArgs false
open Go.RowKit
section
variable {U:Type} {El:U→Type} {P:Program} {X:Ctx U El} {S:Nat→Prop} {ρ:Rho} {w:World} [DecidableEq U] [Drw]
variable {o:Oper} {a:Act} {t:Tmps U El} {h H:Heap U El} {B:Bd} {d:Nat} {r:Fin U El}
theorem cellsEqA_run {e : TypeId} {k : Nat} (hk : KindOk P e k) : ∀ (m : Nat) (xs ys : List (AV U El)) (n : Nat) (vx vy : Array Value) (b : Bool),
    (∀ (i:Nat) c,xs[i]? = some c→∃ v,vx[n+i]? = some v∧Rel X.E S ρ w c v)→(∀ (i:Nat) c,ys[i]? = some c→∃ v,vy[n+i]? = some v∧Rel X.E S ρ w c v) →
    cellsEq (List.replicate m k) xs ys=some b→∀ D,(Op.eqItems (D+1) e 1 vx vy (List.range' n m)).run P w = .ok b w:=by
  intro m
  induction m with
  | zero =>
    intro xs ys n vx vy b hx hy hc D
    simp only [List.replicate_zero] at hc
    unfold cellsEq at hc
    split at hc<;>simp_all [Op.eqItems]
  | succ m ih =>
    intro xs ys n vx vy b hx hy hc D
    rw [List.replicate_succ] at hc
    have hstep:∀ (c c':AV U El) (x y:List (AV U El)),xs=c :: x→ys=c' :: y→(∃ v v',vx[n]? = some v∧vy[n]? = some v'∧Rel X.E S ρ w c v∧Rel X.E S ρ w c' v')∧∀ b',cellsEq (List.replicate m k) x y=some b'→(Op.eqItems (D+1) e 1 vx vy (List.range' (n+1) m)).run P w = .ok b' w:=by
      intro c c' x y ex ey
      subst ex ey
      obtain ⟨v,hv,hr⟩:=hx 0 c rfl
      obtain ⟨v',hv',hr'⟩:=hy 0 c' rfl
      refine ⟨⟨v,v',hv,hv',hr,hr'⟩,fun b' hb'=>ih x y (n+1) vx vy b' (fun i c hi => ?_) (fun i c hi => ?_) hb' D⟩
      · have:=hx (i+1) c hi; rwa [show n+(i+1)=n+1+i by omega] at this
      · have:=hy (i+1) c hi; rwa [show n+(i+1)=n+1+i by omega] at this
    rw [List.range'_succ]
    generalize hrep:List.replicate m k=ts at hc hstep
    unfold cellsEq at hc
    split at hc
    · cases ‹_ :: _=[]›
    · rename_i ts' ka av x kb bv y e1
      cases e1
      obtain ⟨kd,hu⟩:=hk
      obtain ⟨⟨v,v',hv,hv',hr,hr'⟩,hk⟩:=hstep _ _ _ _ rfl rfl
      cases hr; cases hr'
      cases hd:decide (ka=kb) with
      | false=>rw [hd] at hc; cases hc
      | true =>
        rw [hd] at hc
        simp only [cond] at hc
        have hkk:ka=kb:=by simpa using hd
        subst hkk
        split at hc
        · rename_i r' hr'
          cases hc
          simp [Op.eqItems,part,run_isAgg hu,agD,hv,hv',run_equalIn_int _ _ _ _ _ _ _ hu,hk r' hr']
          split<;>simp_all
        · cases hc
    · rename_i ts' av x bv y e1
      cases e1
      obtain ⟨⟨v,v',hv,hv',hr,hr'⟩,hk'⟩:=hstep _ _ _ _ rfl rfl
      cases hr; cases hr'
      have hk:P.underlying e=some .bool:=hk
      split at hc
      · rename_i r' hr'
        cases hc
        simp [Op.eqItems,part,run_isAgg hk,agD,hv,hv',run_equalIn_bool' _ _ _ _ _ hk,hk' r' hr']
        split<;>simp_all
      · cases hc
    · rename_i ts' av x bv y e1
      cases e1
      obtain ⟨⟨v,v',hv,hv',hr,hr'⟩,hk'⟩:=hstep _ _ _ _ rfl rfl
      cases hr; cases hr'
      have hk:P.underlying e=some .string:=hk
      split at hc
      · rename_i r' hr'
        cases hc
        simp [Op.eqItems,part,run_isAgg hk,agD,hv,hv',run_equalIn_string _ _ _ _ _ hk,hk' r' hr',Lib.toList_data]
        split<;>simp_all
      · cases hc
    · cases hc
theorem cellsEq_run {ty : TypeId} : ∀ (ts : List Nat) (xs ys : List (AV U El)) (n : Nat) (fs : List Field) (vx vy : Array Value) (b : Bool),
    (∀ (i : Nat) (f : Field) (k : Nat), fs[i]? = some f → ts[i]? = some k → f.name ≠ "_" ∧ f.offset = n + i ∧ KindOk P f.type k) → fs.length = ts.length →
    (∀ (i:Nat) c,xs[i]? = some c→∃ v,vx[n+i]? = some v∧Rel X.E S ρ w c v)→(∀ (i:Nat) c,ys[i]? = some c→∃ v,vy[n+i]? = some v∧Rel X.E S ρ w c v) →
    cellsEq ts xs ys=some b→∀ D,(Op.eqFields (D+1) vx vy fs).run P w = .ok b w:=by
  intro ts
  induction ts with
  | nil =>
    intro xs ys n fs vx vy b hf hl hx hy hc D
    have:fs=[]:=by simpa using hl
    subst this
    unfold cellsEq at hc
    split at hc<;>simp_all [Op.eqFields]
  | cons k ts ih =>
    intro xs ys n fs vx vy b hf hl hx hy hc D
    cases fs with
    | nil=>simp at hl
    | cons f fs =>
      obtain ⟨h1,h2,h3⟩:=hf 0 f k rfl rfl
      have hf' : ∀ (i : Nat) (g : Field) (k : Nat), fs[i]? = some g → ts[i]? = some k → g.name ≠ "_" ∧ g.offset = n + 1 + i ∧ KindOk P g.type k := fun i g k' hg hk => by
          have:=hf (i+1) g k' hg hk
          rwa [show n+(i+1)=n+1+i by omega] at this
      have hl':fs.length=ts.length:=by simpa using hl
      have hstep:∀ (c c':AV U El) (x y:List (AV U El)),xs=c :: x→ys=c' :: y→(∃ v v',vx[n]? = some v∧vy[n]? = some v'∧Rel X.E S ρ w c v∧Rel X.E S ρ w c' v')∧∀ b',cellsEq ts x y=some b'→(Op.eqFields (D+1) vx vy fs).run P w = .ok b' w:=by
        intro c c' x y ex ey
        subst ex ey
        obtain ⟨v,hv,hr⟩:=hx 0 c rfl
        obtain ⟨v',hv',hr'⟩:=hy 0 c' rfl
        refine ⟨⟨v,v',hv,hv',hr,hr'⟩,fun b' hb'=>ih x y (n+1) fs vx vy b' hf' hl' (fun i c hi => ?_) (fun i c hi => ?_) hb' D⟩
        · have:=hx (i+1) c hi; rwa [show n+(i+1)=n+1+i by omega] at this
        · have:=hy (i+1) c hi; rwa [show n+(i+1)=n+1+i by omega] at this
      have hof:f.offset=n:=by simpa using h2
      unfold cellsEq at hc
      split at hc
      · cases ‹k :: ts=[]›
      · rename_i ts' ka av x kb bv y e
        cases e
        obtain ⟨kd,hu⟩:=h3
        obtain ⟨⟨v,v',hv,hv',hr,hr'⟩,hk⟩:=hstep _ _ _ _ rfl rfl
        cases hr; cases hr'
        cases hd:decide (ka=kb) with
        | false=>rw [hd] at hc; cases hc
        | true =>
          rw [hd] at hc
          simp only [cond] at hc
          have hkk:ka=kb:=by simpa using hd
          subst hkk
          split at hc
          · rename_i r' hr'
            cases hc
            simp [Op.eqFields,h1,part,run_isAgg hu,agD,hof,hv,hv',run_equalIn_int _ _ _ _ _ _ _ hu,hk r' hr']
            split<;>simp_all
          · cases hc
      · rename_i ts' av x bv y e
        cases e
        obtain ⟨⟨v,v',hv,hv',hr,hr'⟩,hk⟩:=hstep _ _ _ _ rfl rfl
        cases hr; cases hr'
        split at hc
        · rename_i r' hr'
          cases hc
          simp [Op.eqFields,h1,part,run_isAgg h3,agD,hof,hv,hv',run_equalIn_bool' _ _ _ _ _ h3,hk r' hr']
          split<;>simp_all
        · cases hc
      · rename_i ts' av x bv y e
        cases e
        obtain ⟨⟨v,v',hv,hv',hr,hr'⟩,hk⟩:=hstep _ _ _ _ rfl rfl
        cases hr; cases hr'
        split at hc
        · rename_i r' hr'
          cases hc
          simp [Op.eqFields,h1,part,run_isAgg h3,agD,hof,hv,hv',run_equalIn_string _ _ _ _ _ h3,hk r' hr',Lib.toList_data]
          split<;>simp_all
        · cases hc
      · cases hc
theorem absCmp_run {op:BinOp} {x y:Int} {b:Bool} (h:absCmp op x y=some b):(Op.intCmp op x y).run P w = .ok (.bool b) w:=by
  unfold absCmp at h
  cases op<;>simp at h<;>subst h<;>simp [Op.intCmp,ilt,ile]
theorem run_eqlB {t:TypeId} {x y:Value} {b:Bool} (e:binOp .eql t x y=(do pure (.bool (← Op.equal t x y)))) (h:(Op.equalIn (9999+1) t x y).run P w = .ok b w):(binOp .eql t x y).run P w = .ok (.bool b) w:=by
  have h':(Op.equal t x y).run P w = .ok b w:=h
  rw [e]
  simp only [Sem.run_bind,h',Result.andThen_ok,Sem.run_pure]
theorem run_neqB {t:TypeId} {x y:Value} {b:Bool} (e:binOp .neq t x y=(do pure (.bool (!(← Op.equal t x y))))) (h:(Op.equalIn (9999+1) t x y).run P w = .ok b w):(binOp .neq t x y).run P w = .ok (.bool (!b)) w:=by
  have h':(Op.equal t x y).run P w = .ok b w:=h
  rw [e]
  simp only [Sem.run_bind,h',Result.andThen_ok,Sem.run_pure]
theorem eqIn_nn {t e:TypeId} (D:Nat) (hu:P.underlying t=some (.pointer e)):(Op.equalIn (D+1) t (.pointer none) (.pointer none)).run P w = .ok true w:=by
  simp only [Op.equalIn,Sem.run_bind,run_underlying hu,Result.andThen_ok]; rfl
theorem eqIn_pn {t e:TypeId} (D:Nat) (a:Addr) (hu:P.underlying t=some (.pointer e)):(Op.equalIn (D+1) t (.pointer (some a)) (.pointer none)).run P w = .ok false w:=by
  simp only [Op.equalIn,Sem.run_bind,run_underlying hu,Result.andThen_ok]; rfl
theorem eqIn_ii {t:TypeId} {e:Array (String×TypeId)} (D:Nat) (hu:P.underlying t=some (.interface e)):(Op.equalIn (D+1) t .nilIface .nilIface).run P w = .ok true w:=by
  simp only [Op.equalIn,Sem.run_bind,run_underlying hu,Result.andThen_ok]; rfl
theorem eqIn_vi {t:TypeId} {e:Array (String×TypeId)} (D:Nat) (u:TypeId) (v:Value) (hu:P.underlying t=some (.interface e)):(Op.equalIn (D+1) t (.iface u v) .nilIface).run P w = .ok false w:=by
  simp only [Op.equalIn,Sem.run_bind,run_underlying hu,Result.andThen_ok]; rfl
theorem str_app (s s':List UInt8):(⟨s.toArray⟩:ByteArray)++⟨s'.toArray⟩=⟨(s++s').toArray⟩:=by
  apply ByteArray.ext
  rw [ByteArray.data_append]
  simp
set_option maxHeartbeats 1000000 in
theorem eqIn_sn {t e:TypeId} (d:Nat) (ao:Addr) (n c:Nat) (hu:P.underlying t=some (.slice e)):(Op.equalIn (d+1) t (.slice (some ao) n c) (.slice none 0 0)).run P w = .ok false w:=by
  simp [Op.equalIn,run_underlying hu]
theorem absBin_run {op : BinOp} {ty : TypeId} {xo yo : Operand} {x y : AV U El} {vx vy : Value} {k : AV U El → Option (Fin U El)} (hX : CtxOk P X) (hx : Rel X.E S ρ w x vx) (hy : Rel X.E S ρ w y vy)
    (hc:y = .nili→∃ v,yo = .const v) (hp:y = .nilp→∃ e,P.underlying ty=some (.pointer e)) (hi:y = .nili→∃ e,P.underlying ty=some (.interface e)) (hb:∀ b,y = .bool b→P.underlying ty=some .bool) (hsl:y = .nils→∃ e,P.underlying ty=some (.slice e))
    (h:absBin op (eGet X.eqs ty) x y k=some r) :
    ∃ av v,k av=some r∧(do eqGuard op ty xo yo vx vy; binOp op ty vx vy:Sem Value).run P w = .ok v w∧Rel X.E S ρ w av v:=by
  have str:∀ (s s':List UInt8) (vx vy:Value),vx = .string ⟨s.toArray⟩→vy = .string ⟨s'.toArray⟩→(eqGuard op ty xo yo vx vy).run P w = .ok () w:=fun s s' vx vy e e'=>by subst e e'; cases op<;>simp [eqGuard]
  unfold absBin at h
  split at h
  · rename_i ka xv kb yv
    cases hx; cases hy
    have hg:(eqGuard op ty xo yo (.int ka xv) (.int kb yv)).run P w = .ok () w:=by cases op<;>simp [eqGuard]
    cases op<;>dsimp only at h<;>obtain ⟨h1,h2⟩:=chk_some h
    case shl => have h1 : 0 ≤ yv := by simpa [ile] using h1
                exact ⟨_,_,h2,by simp [hg,binOp,Op.shift,show ¬ yv < 0 by omega],.int _ _⟩
    case shr => have h1 : 0 ≤ yv := by simpa [ile] using h1
                exact ⟨_,_,h2,by simp [hg,binOp,Op.shift,show ¬ yv < 0 by omega],.int _ _⟩
    all_goals (have hk:ka=kb:=by simpa using h1
               subst hk)
    case add=>exact ⟨_,_,h2,by simp [hg,binOp,Op.intArith],.int _ _⟩
    case sub=>exact ⟨_,_,h2,by simp [hg,binOp,Op.intArith],.int _ _⟩
    case mul=>exact ⟨_,_,h2,by simp [hg,binOp,Op.intArith],.int _ _⟩
    case quo => obtain ⟨h3, h4⟩ := chk_some h2
                have h3:yv≠0:=by simpa using h3
                exact ⟨_,_,h4,by simp [hg,binOp,Op.intDiv,h3],.int _ _⟩
    case rem => obtain ⟨h3, h4⟩ := chk_some h2
                have h3:yv≠0:=by simpa using h3
                exact ⟨_,_,h4,by simp [hg,binOp,Op.intDiv,h3],.int _ _⟩
    case and=>exact ⟨_,_,h2,by simp [hg,binOp,Op.intBits],.int _ _⟩
    case or=>exact ⟨_,_,h2,by simp [hg,binOp,Op.intBits],.int _ _⟩
    case xor=>exact ⟨_,_,h2,by simp [hg,binOp,Op.intBits],.int _ _⟩
    all_goals (split at h2
               · rename_i b hb'
                 first
                   | (simp [absCmp] at hb'; done)
                   | exact ⟨_,_,h2,by simp only [Sem.run_bind,hg,Result.andThen_ok,binOp]; simp; exact absCmp_run hb',.bool _⟩
               · cases h2)
  · rename_i s s'
    cases hx; cases hy
    have hg:=str s s' _ _ rfl rfl
    have e1:(⟨s.toArray⟩:ByteArray).toList=s:=by rw [Lib.toList_data]
    have e2:(⟨s'.toArray⟩:ByteArray).toList=s':=by rw [Lib.toList_data]
    cases op<;>dsimp only at h
    case add =>
      obtain ⟨h1,h2⟩:=chk_some h
      have h1:s.length+s'.length≤9223372036854775807:=by simpa [nle] using h1
      have hz:¬ ((((⟨s.toArray⟩:ByteArray).size+(⟨s'.toArray⟩:ByteArray).size:Nat):Int) > IntKind.i64.max):=by
        simp [ByteArray.size,IntKind.max,IntKind.signed,IntKind.bits]; omega
      exact ⟨_,_,h2,by simp only [Sem.run_bind,hg,Result.andThen_ok,binOp,Op.stringOp,if_neg hz,str_app,Sem.run_pure],.str _⟩
    all_goals first
      | (cases h; done)
      | exact ⟨_,_,h,by simp only [Sem.run_bind,hg,Result.andThen_ok,binOp,Op.stringOp,e1,e2,slt,Sem.run_pure],.bool _⟩
  · rename_i b b'
    cases hx; cases hy
    have hu:=hb b' rfl
    have he:=run_equalIn_bool' (P:=P) w 9999 ty b b' hu
    cases op<;>dsimp only at h
    case eql=>exact ⟨_,_,h,by simp only [Sem.run_bind,show (eqGuard .eql ty xo yo (.bool b) (.bool b')).run P w = .ok () w from by simp [eqGuard],Result.andThen_ok]; exact run_eqlB rfl he,.bool _⟩
    case neq=>exact ⟨_,_,h,by simp only [Sem.run_bind,show (eqGuard .neq ty xo yo (.bool b) (.bool b')).run P w = .ok () w from by simp [eqGuard],Result.andThen_ok]; exact run_neqB rfl he,.bool _⟩
    all_goals cases h
  · rename_i cx cy
    cases hx with
    | agg _ ax hlx hax =>
      cases hy with
      | agg _ ay hly hay =>
        have key:∀ b,eGet X.eqs ty≠[]→cellsEq (eGet X.eqs ty) cx cy=some b→(Op.equalIn 10000 ty (.agg ax) (.agg ay)).run P w = .ok b w∧(eqGuard op ty xo yo (.agg ax) (.agg ay)).run P w = .ok () w:=by
          intro b hne hb
          have hxv:∀ (i:Nat) c,cx[i]? = some c→∃ v,ax[0+i]? = some v∧Rel X.E S ρ w c v:=fun i c hc=>by
            have hj:i < ax.size:=by rw [hlx]; exact (List.getElem?_eq_some_iff.1 hc).1
            exact ⟨_,by rw [Nat.zero_add]; exact Array.getElem?_eq_getElem hj,hax i c _ hc (Array.getElem?_eq_getElem hj)⟩
          have hyv:∀ (i:Nat) c,cy[i]? = some c→∃ v,ay[0+i]? = some v∧Rel X.E S ρ w c v:=fun i c hc=>by
            have hj:i < ay.size:=by rw [hly]; exact (List.getElem?_eq_some_iff.1 hc).1
            exact ⟨_,by rw [Nat.zero_add]; exact Array.getElem?_eq_getElem hj,hay i c _ hc (Array.getElem?_eq_getElem hj)⟩
          rcases hX.eq ty hne with ⟨fields,hu,hst,heq,hlen,hf⟩ | ⟨n,e,ie,k,hu,hi,hce,heq,hts,hk⟩
          case inr =>
            refine ⟨?_,run_eqGuard_agg w op ty xo yo ax ay heq⟩
            rw [show (10000:Nat)=9999+1 from rfl,run_equalIn_array w 9999 ax ay hu hi,hce,List.range_eq_range']
            rw [hts] at hb
            exact cellsEqA_run hk n cx cy 0 ax ay b hxv hyv hb 9998
          have hfo:P.fieldsOf ty=fields:=by simp [Program.fieldsOf,hu]
          refine ⟨?_,run_eqGuard_agg w op ty xo yo ax ay heq⟩
          rw [show (10000:Nat)=9999+1 from rfl,run_equalIn_agg w 9999 ty ax ay (by rw [hfo]; exact hu) hst,hfo]
          have:=cellsEq_run (X:=X) (P:=P) (S:=S) (ρ:=ρ) (w:=w) (ty:=ty) (eGet X.eqs ty) cx cy 0 fields.toList ax ay b (fun i f k' h1 h2=>by have:=hf i f k' h1 h2; simpa using this) hlen
            (fun i c hc=>by
              have hj:i < ax.size:=by rw [hlx]; exact (List.getElem?_eq_some_iff.1 hc).1
              exact ⟨_,by rw [Nat.zero_add]; exact Array.getElem?_eq_getElem hj,hax i c _ hc (Array.getElem?_eq_getElem hj)⟩)
            (fun i c hc=>by
              have hj:i < ay.size:=by rw [hly]; exact (List.getElem?_eq_some_iff.1 hc).1
              exact ⟨_,by rw [Nat.zero_add]; exact Array.getElem?_eq_getElem hj,hay i c _ hc (Array.getElem?_eq_getElem hj)⟩) hb 9998
          exact this
        split at h
        · cases hemp : (eGet X.eqs ty).isEmpty with
          | true=>rw [hemp] at h; cases h
          | false =>
            rw [hemp] at h
            simp only [cond] at h
            split at h
            · rename_i b hb
              obtain ⟨k1,k2⟩:=key b (by intro e; rw [e] at hemp; cases hemp) hb
              exact ⟨_,_,h,by simp only [Sem.run_bind,k2,Result.andThen_ok]; rw [run_eql_struct,k1]; rfl,.bool _⟩
            · cases h
        · cases hemp : (eGet X.eqs ty).isEmpty with
          | true=>rw [hemp] at h; cases h
          | false =>
            rw [hemp] at h
            simp only [cond] at h
            split at h
            · rename_i b hb
              obtain ⟨k1,k2⟩:=key b (by intro e; rw [e] at hemp; cases hemp) hb
              exact ⟨_,_,h,by simp only [Sem.run_bind,k2,Result.andThen_ok]; rw [run_neq_struct,k1]; rfl,.bool _⟩
            · cases h
        · cases h
  · obtain ⟨e, hu⟩ := hp rfl
    cases hx; cases hy
    cases op<;>dsimp only at h
    case eql=>exact ⟨_,_,h,by simp only [Sem.run_bind,show (eqGuard .eql ty xo yo (.pointer none) (.pointer none)).run P w = .ok () w from by simp [eqGuard],Result.andThen_ok]; exact run_eqlB rfl (eqIn_nn _ hu),.bool _⟩
    case neq=>exact ⟨_,_,h,by simp only [Sem.run_bind,show (eqGuard .neq ty xo yo (.pointer none) (.pointer none)).run P w = .ok () w from by simp [eqGuard],Result.andThen_ok]; exact run_neqB rfl (eqIn_nn _ hu),.bool _⟩
    all_goals cases h
  · obtain ⟨e, hu⟩ := hp rfl
    cases hx; cases hy
    cases op<;>dsimp only at h
    case eql=>exact ⟨_,_,h,by simp only [Sem.run_bind,show ∀ a,(eqGuard .eql ty xo yo (.pointer (some a)) (.pointer none)).run P w = .ok () w from fun a=>by simp [eqGuard],Result.andThen_ok]; exact run_eqlB rfl (eqIn_pn _ _ hu),.bool _⟩
    case neq=>exact ⟨_,_,h,by simp only [Sem.run_bind,show ∀ a,(eqGuard .neq ty xo yo (.pointer (some a)) (.pointer none)).run P w = .ok () w from fun a=>by simp [eqGuard],Result.andThen_ok]; exact run_neqB rfl (eqIn_pn _ _ hu),.bool _⟩
    all_goals cases h
  · obtain ⟨e, hu⟩ := hp rfl
    cases hx; cases hy
    cases op<;>dsimp only at h
    case eql=>exact ⟨_,_,h,by simp only [Sem.run_bind,show ∀ a,(eqGuard .eql ty xo yo (.pointer (some a)) (.pointer none)).run P w = .ok () w from fun a=>by simp [eqGuard],Result.andThen_ok]; exact run_eqlB rfl (eqIn_pn _ _ hu),.bool _⟩
    case neq=>exact ⟨_,_,h,by simp only [Sem.run_bind,show ∀ a,(eqGuard .neq ty xo yo (.pointer (some a)) (.pointer none)).run P w = .ok () w from fun a=>by simp [eqGuard],Result.andThen_ok]; exact run_neqB rfl (eqIn_pn _ _ hu),.bool _⟩
    all_goals cases h
  · obtain ⟨e, hu⟩ := hp rfl
    cases hx; cases hy
    cases op<;>dsimp only at h
    case eql=>exact ⟨_,_,h,by simp only [Sem.run_bind,show ∀ a,(eqGuard .eql ty xo yo (.pointer (some a)) (.pointer none)).run P w = .ok () w from fun a=>by simp [eqGuard],Result.andThen_ok]; exact run_eqlB rfl (eqIn_pn _ _ hu),.bool _⟩
    case neq=>exact ⟨_,_,h,by simp only [Sem.run_bind,show ∀ a,(eqGuard .neq ty xo yo (.pointer (some a)) (.pointer none)).run P w = .ok () w from fun a=>by simp [eqGuard],Result.andThen_ok]; exact run_neqB rfl (eqIn_pn _ _ hu),.bool _⟩
    all_goals cases h
  · obtain ⟨e, hu⟩ := hi rfl
    obtain ⟨cv,rfl⟩:=hc rfl
    cases hx; cases hy
    cases op<;>dsimp only at h
    case eql=>exact ⟨_,_,h,by simp only [Sem.run_bind,show (eqGuard .eql ty xo (.const cv) .nilIface .nilIface).run P w = .ok () w from by simp [eqGuard],Result.andThen_ok]; exact run_eqlB rfl (eqIn_ii _ hu),.bool _⟩
    case neq=>exact ⟨_,_,h,by simp only [Sem.run_bind,show (eqGuard .neq ty xo (.const cv) .nilIface .nilIface).run P w = .ok () w from by simp [eqGuard],Result.andThen_ok]; exact run_neqB rfl (eqIn_ii _ hu),.bool _⟩
    all_goals cases h
  · obtain ⟨e, hu⟩ := hi rfl
    cases hx; cases hy
    cases op<;>dsimp only at h
    case eql=>exact ⟨_,_,h,by simp only [Sem.run_bind,show ∀ t v,(eqGuard .eql ty xo yo (.iface t v) .nilIface).run P w = .ok () w from fun t v=>by simp [eqGuard],Result.andThen_ok]; exact run_eqlB rfl (eqIn_vi _ _ _ hu),.bool _⟩
    case neq=>exact ⟨_,_,h,by simp only [Sem.run_bind,show ∀ t v,(eqGuard .neq ty xo yo (.iface t v) .nilIface).run P w = .ok () w from fun t v=>by simp [eqGuard],Result.andThen_ok]; exact run_neqB rfl (eqIn_vi _ _ _ hu),.bool _⟩
    all_goals cases h
  · obtain ⟨e, hu⟩ := hsl rfl
    rename_i u xs
    have key:∀ (ne:0 < xs.length),∃ ao n c,vx = .slice (some ao) n c:=fun ne=>by
      cases hx with
      | lstE=>simp at ne
      | lst _ _ b off cap=>exact ⟨_,_,_,rfl⟩
    cases hy
    cases op<;>dsimp only at h
    case eql =>
      obtain ⟨hl,h⟩:=chk_some h
      obtain ⟨ao,n,c,rfl⟩:=key (by simpa [nlt] using hl)
      exact ⟨_,_,h,by simp only [Sem.run_bind,show (eqGuard .eql ty xo yo (.slice (some ao) n c) (.slice none 0 0)).run P w = .ok () w from by simp [eqGuard],Result.andThen_ok]; exact run_eqlB rfl (eqIn_sn _ ao n c hu),.bool _⟩
    case neq =>
      obtain ⟨hl,h⟩:=chk_some h
      obtain ⟨ao,n,c,rfl⟩:=key (by simpa [nlt] using hl)
      exact ⟨_,_,h,by simp only [Sem.run_bind,show (eqGuard .neq ty xo yo (.slice (some ao) n c) (.slice none 0 0)).run P w = .ok () w from by simp [eqGuard],Result.andThen_ok]; exact run_neqB rfl (eqIn_sn _ ao n c hu),.bool _⟩
    all_goals cases h
  · cases h
end
end Go.Proofs.Ytkeplmpcijigaaa
