/- Kinds of keys of maps: plain ones, and structs of plain cells. -/
import Derived.Test.YtkeplmpcijigaaaLP
import Derived.WideKeyRuns
namespace Go.Proofs.Ytkeplmpcijigaaa
set_option linter.unusedVariables false
set_option linter.unusedSectionVars false
set_option linter.unusedSimpArgs false
open Go.RowKit
section
variable {U:Type} {El:U→Type} {P:Program} {E:Univ U El} {S:Nat→Prop} {ρ:Rho} {w:World} [Drw]
theorem cells_one {ts : List Nat} : ∀ {cx cy : List (AV U El)} {ax ay : List Value}, cellsEq ts cx cy = some true → ax.length = cx.length → ay.length = cy.length → (∀ (i : Nat) c v, cx[i]? = some c → ax[i]? = some v → Rel E S ρ w c v) → (∀ (i : Nat) c v, cy[i]? = some c → ay[i]? = some v → Rel E S ρ w c v) →
    ax=ay∧∀ v∈ax,∀ n,Instr.sameBits n v v=true:=by
  induction ts with
  | nil =>
    intro cx cy ax ay h h1 h2 _ _
    unfold cellsEq at h
    split at h<;>simp_all
  | cons k ts ih =>
    intro cx cy ax ay h h1 h2 hx hy
    have step:∀ (c c':AV U El) (x y:List (AV U El)),cx=c :: x→cy=c' :: y→∃ v vs v' vs',ax=v :: vs∧ay=v' :: vs'∧Rel E S ρ w c v∧Rel E S ρ w c' v'∧(cellsEq ts x y=some true→vs=vs'∧∀ v∈vs,∀ n,Instr.sameBits n v v=true):=by
      intro c c' x y e1 e2
      subst e1 e2
      cases ax with
      | nil=>simp at h1
      | cons v vs =>
        cases ay with
        | nil=>simp at h2
        | cons v' vs' =>
          exact ⟨v,vs,v',vs',rfl,rfl,hx 0 c v rfl rfl,hy 0 c' v' rfl rfl,fun h=>ih h (by simpa using h1) (by simpa using h2) (fun i c v hc hv=>hx (i+1) c v (by simpa using hc) (by simpa using hv)) (fun i c v hc hv=>hy (i+1) c v (by simpa using hc) (by simpa using hv))⟩
    unfold cellsEq at h
    split at h
    · cases ‹k :: ts=[]›
    · rename_i ts' ka av x kb bv y e
      cases e
      obtain ⟨v,vs,v',vs',rfl,rfl,r1,r2,hs⟩:=step _ _ _ _ rfl rfl
      cases r1; cases r2
      cases hd:decide (ka=kb) with
      | false=>rw [hd] at h; cases h
      | true =>
        rw [hd] at h
        have hk:ka=kb:=by simpa using hd
        subst hk
        simp only [cond_true] at h
        split at h
        · rename_i r hr
          simp only [Option.some.injEq,Bool.and_eq_true,beq_iff_eq] at h
          obtain ⟨rfl,rfl⟩:=h
          obtain ⟨g1,g2⟩:=hs hr
          subst g1
          refine ⟨rfl,fun v hv n => ?_⟩
          rcases List.mem_cons.1 hv with rfl | hv
          · cases n<;>simp [Instr.sameBits]
          · exact g2 v hv n
        · cases h
    · rename_i ts' av x bv y e
      cases e
      obtain ⟨v,vs,v',vs',rfl,rfl,r1,r2,hs⟩:=step _ _ _ _ rfl rfl
      cases r1; cases r2
      split at h
      · rename_i r hr
        simp only [Option.some.injEq,Bool.and_eq_true,beq_iff_eq] at h
        obtain ⟨rfl,rfl⟩:=h
        obtain ⟨g1,g2⟩:=hs hr
        subst g1
        refine ⟨rfl,fun v hv n => ?_⟩
        rcases List.mem_cons.1 hv with rfl | hv
        · cases n<;>simp [Instr.sameBits]
        · exact g2 v hv n
      · cases h
    · rename_i ts' av x bv y e
      cases e
      obtain ⟨v,vs,v',vs',rfl,rfl,r1,r2,hs⟩:=step _ _ _ _ rfl rfl
      cases r1; cases r2
      split at h
      · rename_i r hr
        simp only [Option.some.injEq,Bool.and_eq_true,beq_iff_eq] at h
        obtain ⟨rfl,rfl⟩:=h
        obtain ⟨g1,g2⟩:=hs hr
        subst g1
        refine ⟨rfl,fun v hv n => ?_⟩
        rcases List.mem_cons.1 hv with rfl | hv
        · exact MapKept.sameBits_self (d := .string) (k := .string _) trivial n
        · exact g2 v hv n
      · cases h
    · cases h
theorem run_checkFields {cs : Array Value} {n : Nat} {em : Bool} : ∀ (fs : List Field), (∀ f ∈ fs, f.name ≠ "_" ∧ (∃ k, KindOk P f.type k) ∧ ∃ v, cs[f.offset]? = some v) →
    (forIn (m:=Sem) fs PUnit.unit fun f _=>do
      if f.name ≠ "_" then Instr.checkKey em (n + 1) f.type (← part f.type cs f.offset)
      pure (ForInStep.yield PUnit.unit)).run P w = .ok PUnit.unit w:=by
  intro fs
  induction fs with
  | nil=>intro _; simp
  | cons f fs ih =>
    intro h
    obtain ⟨h1,⟨k,hk⟩,v,hv⟩:=h f (by simp)
    have hp:∀ {d:TypeDesc},P.underlying f.type=some d→agD d=false→(part f.type cs f.offset).run P w = .ok v w:=fun hu ha=>by simp [part,run_isAgg hu,ha,hv]
    have hc:(Instr.checkKey em (n+1) f.type v).run P w = .ok () w∧(part f.type cs f.offset).run P w = .ok v w:=by
      match k,hk with
      | 0,⟨kd,hu⟩=>exact ⟨by unfold Instr.checkKey; simp only [Sem.run_bind,run_underlying hu,Result.andThen_ok]; cases v<;>rfl,hp hu rfl⟩
      | 1,hu=>exact ⟨by unfold Instr.checkKey; simp only [Sem.run_bind,run_underlying (show P.underlying f.type=some .bool from hu),Result.andThen_ok]; cases v<;>rfl,hp hu rfl⟩
      | k+2,hu=>exact ⟨by unfold Instr.checkKey; simp only [Sem.run_bind,run_underlying (show P.underlying f.type=some .string from hu),Result.andThen_ok]; cases v<;>rfl,hp hu rfl⟩
    simp only [List.forIn_cons,Sem.run_bind,h1,ne_eq,not_false_eq_true,if_true,hc.1,hc.2,Result.andThen_ok,Sem.run_pure]
    exact ih fun f hf=>h f (by simp [hf])
theorem eqKey_run [DecidableEq U] {X:Ctx U El} {t:TypeId} {ts:List Nat} {cx cy:List (AV U El)} {ax ay:Array Value} {b:Bool} (hX:X.E=E) (hk:EqOkS P t ts) (hx:RelL E S ρ w cx ax) (hy:RelL E S ρ w cy ay) (h:cellsEq ts cx cy=some b):(Op.equal t (.agg ax) (.agg ay)).run P w = .ok b w:=by
  subst hX
  obtain ⟨fields,hu,hst,heq,hl,hf⟩:=hk
  have hfo:P.fieldsOf t=fields:=by simp [Program.fieldsOf,hu]
  show (Op.equalIn (9999+1) t (.agg ax) (.agg ay)).run P w = .ok b w
  rw [run_equalIn_agg w 9999 t ax ay (by rw [hfo]; exact hu) hst,hfo]
  exact cellsEq_run (X:=X) (P:=P) (S:=S) (ρ:=ρ) (w:=w) (ty:=t) ts cx cy 0 fields.toList ax ay b (fun i f k hf1 hk1=>by simpa using hf i f k hf1 hk1) hl (fun i c hc=>by
      have hi:i < ax.size:=by rw [hx.1]; exact (List.getElem?_eq_some_iff.1 hc).1
      exact ⟨ax[i],by simp [hi],hx.2 i c _ hc (Array.getElem?_eq_getElem hi)⟩) (fun i c hc=>by
      have hi:i < ay.size:=by rw [hy.1]; exact (List.getElem?_eq_some_iff.1 hc).1
      exact ⟨ay[i],by simp [hi],hy.2 i c _ hc (Array.getElem?_eq_getElem hi)⟩) h 9998
theorem keyOk_struct [DecidableEq U] {u : U} {ts : List Nat} (ha : E.agg u = true) (hk : EqOkS P (E.tid u) ts) (hsz : ts.length = E.sz u) (hlen : ∀ x, (E.enc u x).length = E.sz u) (hq : ∀ x y, cellsEq ts (E.enc u x) (E.enc u y) = some (E.keq u x y)) : KeyOk P E u := by
  have hag:∀ {S:Nat→Prop} {ρ:Rho} {w:World} {x:El u} {v:Value},ERel E S ρ w u x v→∃ vs,v = .agg vs∧RelL E S ρ w (E.enc u x) vs:=fun h=>by
    unfold ERel at h
    rwa [if_pos ha] at h
  refine ⟨fun {S ρ w x v} em h => ?_,fun {S ρ w x v} es xs hx hl hes => ?_,fun {S ρ w x y v v'} hx hy h => ?_⟩
  · obtain ⟨vs, rfl, hr⟩ := hag h
    obtain ⟨fields,hu,hst,heq,hl,hf⟩:=hk
    rw [show (10000:Nat)=9998+1+1 from rfl,Instr.checkKey]
    simp only [Sem.run_bind,run_underlying hu,Result.andThen_ok]
    have:=run_checkFields (P:=P) (w:=w) (cs:=vs) (n:=9998) (em:=em) fields.toList (fun f hfm=>by
      obtain ⟨i,hi⟩:=List.getElem?_of_mem hfm
      have hil:i < ts.length:=by rw [← hl]; exact (List.getElem?_eq_some_iff.1 hi).1
      obtain ⟨g1,g2,g3⟩:=hf i f _ hi (List.getElem?_eq_getElem hil)
      have hv:i < vs.size:=by rw [hr.1,hlen,← hsz]; exact hil
      exact ⟨g1,⟨_,g3⟩,vs[i],by rw [g2]; simp [hv]⟩)
    simp only [← Array.forIn_toList]
    simp at this ⊢
    simp [this]
  · obtain ⟨vs, rfl, hr⟩ := hag hx
    have hwide:(match P.underlying (E.tid u) with | some (.array _ _) | some (.struct _)=>true | _=>false)=true:=by
      obtain ⟨fields,hu,_⟩:=hk
      rw [hu]
    rw [run_findKey_eq _ hwide]
    have key:∀ (es:List MapEntry) (xs:List (El u)) (n:Nat),es.length=xs.length→(∀ (i:Nat) e y,es[i]? = some e→xs[i]? = some y→ERel E S ρ w u y e.key) →
        (Instr.findAsking (E.tid u) (.agg vs) es n).run P w = .ok ((midx (E.keq u) xs x).bind fun i=>(es[i]?).map fun e=>(n+i,e.val)) w:=by
      intro es
      induction es with
      | nil =>
        intro xs n hl _
        have:xs=[]:=List.eq_nil_of_length_eq_zero (by simpa using hl.symm)
        subst this; simp [Instr.findAsking,midx]
      | cons e es ih =>
        intro xs n hl hes
        cases xs with
        | nil=>simp at hl
        | cons y xs =>
          obtain ⟨ws,hwe,hwr⟩:=hag (hes 0 e y rfl rfl)
          have he:=eqKey_run (X:=⟨E,[],[],[],fun _ _ _=>none,0,0,fun _=>none,fun _=>none,fun _=>none⟩) rfl hk hr hwr (hq x y)
          simp only [Instr.findAsking,Sem.run_bind,hwe,he,Result.andThen_ok,midx]
          cases hh:E.keq u x y with
          | true=>simp
          | false =>
            simp only [Bool.false_eq_true,if_false,cond_false]
            rw [ih xs (n+1) (by simpa using hl) (fun i e y he hy=>hes (i+1) e y (by simpa using he) (by simpa using hy))]
            cases midx (E.keq u) xs x with
            | none=>rfl
            | some i=>simp [Nat.add_assoc,Nat.add_comm 1 i]
    have:=key es xs 0 hl hes
    simpa using this
  · obtain ⟨vs, rfl, hr⟩ := hag hx
    obtain ⟨ws,rfl,hr'⟩:=hag hy
    have hq':=hq x y
    rw [h] at hq'
    obtain ⟨g1,g2⟩:=cells_one (ax:=vs.toList) (ay:=ws.toList) hq' (by simpa using hr.1) (by simpa using hr'.1) (fun i c v hc hv=>hr.2 i c v hc (by simpa using hv)) (fun i c v hc hv=>hr'.2 i c v hc (by simpa using hv))
    have:vs=ws:=Array.ext' g1
    subst this
    have hs:Instr.sameBits 10000 (.agg vs) (.agg vs)=true:=by
      show (vs.size == vs.size&&(vs.toList.zip vs.toList).all fun (x,y)=>Instr.sameBits 9999 x y)=true
      simp only [beq_self_eq_true,Bool.true_and,List.all_eq_true]
      rintro ⟨a,b⟩ hab
      have hab':a=b∧a∈vs.toList:=by
        obtain ⟨i,hi⟩:=List.getElem?_of_mem hab
        rw [List.getElem?_zip_eq_some] at hi
        obtain ⟨h1,h2⟩:=hi
        rw [h1] at h2; cases h2
        exact ⟨rfl,List.mem_of_getElem? h1⟩
      obtain ⟨rfl,hm⟩:=hab'
      exact g2 a hm 9999
    simp [Instr.keyThatStays,hs]
theorem eqOkS_of {t:TypeId} {ts:List Nat} (h:eqChk P t ts=true) (hs:(match P.underlying t with | some (.struct _)=>true | _=>false)=true):EqOkS P t ts:=by
  rcases eqChk_ok h with h | ⟨n,e,i,k,hu,_⟩
  · exact h
  · rw [hu] at hs; cases hs
theorem valOk_one {u:U} {c:AV U El} {i:TypeInfo} {z:Value} (ha:E.agg u=false) (hi:P.info? (E.tid u)=some i) (hz:i.zero=some z) (he:E.enc u (E.dflt u)=[c]) (hr:∀ S ρ w,Rel E S ρ w c z):ValOk P E u :=
  ⟨i,z,hi,hz,fun S ρ w=>by
    unfold ERel
    rw [if_neg (by simp [ha])]
    exact ⟨c,he,hr S ρ w⟩⟩
end
end Go.Proofs.Ytkeplmpcijigaaa
