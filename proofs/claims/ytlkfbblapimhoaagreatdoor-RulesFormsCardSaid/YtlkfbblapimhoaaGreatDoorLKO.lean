import Derived.Test.YtlkfbblapimhoaaGreatDoorLP
import Derived.WideKeyRuns
namespace Go.Proofs.YtlkfbblapimhoaaGreatDoor
set_option linter.all false
open Go.RowKit
section
variable {U:Type} {El:U→Type} {P:Program} {E:Univ U El} {S:Nat→Prop} {ρ:Rho} {w:World} [Drw]
theorem keyOk_plain {u : U} {d : TypeDesc} (ha : E.agg u = false) (hd : P.underlying (E.tid u) = some d) (hk : ∀ {S : Nat → Prop} {ρ : Rho} {w : World} {x : El u} {v : Value}, ERel E S ρ w u x v → MapKept.IsKey d v)
    (hq:∀ {S:Nat→Prop} {ρ:Rho} {w:World} {x y:El u} {v v':Value},ERel E S ρ w u x v→ERel E S ρ w u y v'→(v=v'↔E.keq u x y=true)):KeyOk P E u where
  check:=fun em h=>MapKept.run_checkKey hd (hk h) em 9999
  find := fun {S ρ w x v} es xs hx hl hes => by
    have key:∀ (es:List MapEntry) (xs:List (El u)) (n:Nat),es.length=xs.length→(∀ (i:Nat) e y,es[i]? = some e→xs[i]? = some y→ERel E S ρ w u y e.key) →
        Instr.findNow d v es n=some ((midx (E.keq u) xs x).bind fun i=>(es[i]?).map fun e=>(n+i,e.val)):=by
      intro es
      induction es with
      | nil =>
        intro xs n hl _
        have:xs=[]:=List.eq_nil_of_length_eq_zero (by simpa using hl.symm)
        subst this; rfl
      | cons e es ih =>
        intro xs n hl hes
        cases xs with
        | nil=>simp at hl
        | cons y xs =>
          have hy:=hes 0 e y rfl rfl
          obtain ⟨r,hr,hiff⟩:=MapKept.sameNow_of_keys (hk hx) (hk hy)
          have hq':=hq hx hy
          simp only [Instr.findNow,hr,midx]
          cases r with
          | true =>
            rw [hq'.1 (hiff.1 rfl)]
            simp
          | false =>
            have:E.keq u x y=false:=by
              cases h:E.keq u x y
              · rfl
              · have:=hiff.2 (hq'.2 h); cases this
            rw [this]
            simp only [cond_false]
            rw [ih xs (n+1) (by simpa using hl) (fun i e y he hy=>hes (i+1) e y (by simpa using he) (by simpa using hy))]
            cases midx (E.keq u) xs x with
            | none=>rfl
            | some i=>simp [Nat.add_assoc,Nat.add_comm 1 i]
    have:=key es xs 0 hl hes
    simp only [Nat.zero_add] at this
    exact MapKept.run_findKey hd this
  stays:=fun {S ρ w x y v v'} hx hy h=>by
    have:=(hq hx hy).2 h
    subst this
    exact MapKept.run_keyThatStays (hk hx)
theorem erel_one {u:U} {c:AV U El} {x:El u} {v:Value} (ha:E.agg u=false) (he:E.enc u x=[c]) (h:ERel E S ρ w u x v):Rel E S ρ w c v:=by
 unfold ERel at h
 rw [if_neg (by simp [ha])] at h
 obtain ⟨c',h1,h2⟩:=h
 rw [he] at h1
 cases h1
 exact h2
theorem keyOk_str {u:U} (f:El u→List UInt8) (ha:E.agg u=false) (hd:P.underlying (E.tid u)=some .string) (he:∀ x,E.enc u x=[.str (f x)]) (hq:∀ x y,E.keq u x y=(f x == f y)):KeyOk P E u :=
 keyOk_plain ha hd (fun h=>by cases erel_one ha (he _) h; trivial) (fun {S ρ w x y v v'} h h'=>by
  have h1:=erel_one ha (he _) h
  have h2:=erel_one ha (he _) h'
  cases h1; cases h2
  rw [hq]
  constructor
  ·intro e
   injection e with e
   injection e with e
   have:f x=f y:=by simpa using congrArg Array.toList e
   simp [this]
  ·intro e
   rw [eq_of_beq e])
theorem valOk_one {u:U} {c:AV U El} {i:TypeInfo} {z:Value} (ha:E.agg u=false) (hi:P.info? (E.tid u)=some i) (hz:i.zero=some z) (he:E.enc u (E.dflt u)=[c]) (hr:∀ S ρ w,Rel E S ρ w c z):ValOk P E u :=
 ⟨i,z,hi,hz,fun S ρ w=>by
  unfold ERel
  rw [if_neg (by simp [ha])]
  exact ⟨c,he,hr S ρ w⟩⟩
end
end Go.Proofs.YtlkfbblapimhoaaGreatDoor
