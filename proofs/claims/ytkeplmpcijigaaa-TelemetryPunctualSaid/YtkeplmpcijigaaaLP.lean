/- Append of a string's bytes to a row of bytes of the call's own; contracts that change blocks, laid beside one another. -/
import Derived.Test.YtkeplmpcijigaaaLO
import Derived.Lib.AppendStr
import Derived.Lib.UnsafeStr
import Derived.Lib.LaidTab
import Derived.Lib.ItoaNum
namespace Go.Proofs.Ytkeplmpcijigaaa
set_option linter.unusedVariables false
set_option linter.unusedSectionVars false
set_option linter.unusedSimpArgs false
open Go.RowKit Go.Lib
section
variable {U:Type} {El:U→Type} {P:Program} {X:Ctx U El} {S S0:Nat→Prop} {ρ:Rho} {w w0:World} [DecidableEq U] [Drw]
variable {a:Act} {st:St U El} {B:Bd} {d:Nat} {r:Fin U El}
structure ByteU (E:Univ U El) (u:U) (mk:List UInt8→List (El u)) (un:List (El u)→List UInt8):Prop where
  sz:E.sz u=1
  by_:E.by_ u=1
  len:∀ s,(mk s).length=s.length
  enc:∀ (s:List UInt8) (i:Nat),i < s.length→∃ y,(mk s)[i]? = some y∧E.enc u y=[.int .u8 (s.getD i 0).toNat]
  lenU:∀ xs,(un xs).length=xs.length
  encU:∀ (xs:List (El u)) (i:Nat) (y:El u),xs[i]? = some y→∃ b:UInt8,(un xs)[i]? = some b∧E.enc u y=[.int .u8 b.toNat]
abbrev SpM (U:Type) (El:U→Type):=Nat→List (AV U El)→St U El→(AV U El→St U El→Option (Fin U El))→Option (Fin U El)
def mspecOf:List (FuncId×SpM U El)→FuncId→Option (SpM U El)
  | [],_=>none
  | (g,sp) :: l,f=>bif Nat.beq g f then some sp else mspecOf l f
theorem mspecOf_ok:∀ (l:List (FuncId×SpM U El)),(∀ p∈l,SpMOk P X p.1 p.2)→∀ g sp,mspecOf l g=some sp→SpMOk P X g sp:=by
  intro l
  induction l with
  | nil=>intro _ g sp h; cases h
  | cons p l ih =>
    intro h g sp hg
    obtain ⟨f,q⟩:=p
    simp only [mspecOf] at hg
    by_cases e:f=g
    · subst e; rw [Nat.beq_refl] at hg; cases hg; exact h (f,sp) (by simp)
    · rw [nbeq_ne e] at hg; exact ih (fun p hp=>h p (by simp [hp])) g sp hg
structure SameBut (g:Option Nat) (w w':World):Prop where
  os:w'.os=w.os
  tape:w'.tape=w.tape
  output:w'.output=w.output
  size:w'.heap.size=w.heap.size
  drawn:Drw.on→w.drawn≤w'.drawn
  block:∀ k,some k≠g→w'.heap[k]? = w.heap[k]?
theorem SameBut.drew (w:World) (g:Option Nat):SameBut g w w.drew:=⟨rfl,rfl,rfl,rfl,fun _=>Nat.le_succ _,fun _ _=>rfl⟩
structure SameAt (Q:Nat→Prop) (w w':World):Prop where
  os:w'.os=w.os
  tape:w'.tape=w.tape
  output:w'.output=w.output
  size:w.heap.size≤w'.heap.size
  drawn:Drw.on→w.drawn≤w'.drawn
  block:∀ k,k < w.heap.size→¬ Q k→w'.heap[k]? = w.heap[k]?
theorem SameBut.mono {g:Option Nat} {Q:Nat→Prop} {w':World} (h:SameBut g w w') (hq:∀ k,some k=g→Q k):SameAt Q w w' :=
  ⟨h.os,h.tape,h.output,Nat.le_of_eq h.size.symm,h.drawn,fun k _ hk=>h.block k (fun e=>hk (hq k e))⟩
theorem Inv.add {s : Nat} {u : U} {xs : List (El u)} {l : Loc} (hi : Inv X B S0 w0 S ρ st a w) (hs : ρ s = none) (hb : ∀ ρ', BlkRel X.E S ρ' w B l (.rows u xs))
    (hsep:∀ j b l',hget st.h j=some b→ρ j=some l'→l'.n≠0→l.n≠0→l'.b≠l.b):Inv X B S0 w0 S (ρ.set s l) ⟨st.t,(s,.rows u xs) :: st.h⟩ a w:=by
  have e1:(ρ.set s l) s=some l:=by simp [Rho.set]
  have hext:∀ j l',ρ j=some l'→(ρ.set s l) j=some l':=fun j l' h=>by
    by_cases e:j=s
    · subst e; rw [hs] at h; cases h
    · simp [Rho.set,e,h]
  refine ⟨hi.defers,hi.size,hi.below,hi.hB,hi.s0,hi.s1,hi.g0,fun i=>(hi.tmps i).mono (fun _ h=>h) (fun _ _=>rfl) hext,⟨fun j b hg => ?_,fun i j b b' l1 l2 hgi hgj hne hli hlj hn1 hn2 => ?_,hi.heap.lt⟩⟩
  · simp only [hget] at hg
    by_cases e:s=j
    · subst e; rw [Nat.beq_refl] at hg; cases hg; exact ⟨l,e1,hb _⟩
    · rw [nbeq_ne e] at hg
      obtain ⟨l',h1,h2⟩:=hi.heap.get j b hg
      exact ⟨l',hext j l' h1,h2.mono (fun _ h=>h) (fun _ _=>rfl) hext (fun hn=>⟨rfl,(h2.lt hn).2.2⟩)⟩
  · simp only [hget] at hgi hgj
    by_cases ei:s=i
    · subst ei
      rw [e1] at hli; cases hli
      rw [nbeq_ne hne] at hgj
      have hlj':ρ j=some l2:=by simpa [Rho.set,Ne.symm hne] using hlj
      exact (hsep j b' l2 hgj hlj' hn2 hn1).symm
    · rw [nbeq_ne ei] at hgi
      have hli':ρ i=some l1:=by simpa [Rho.set,Ne.symm ei] using hli
      by_cases ej:s=j
      · subst ej
        rw [e1] at hlj; cases hlj
        exact hsep i b l1 hgi hli' hn1 hn2
      · rw [nbeq_ne ej] at hgj
        have hlj':ρ j=some l2:=by simpa [Rho.set,Ne.symm ej] using hlj
        exact hi.heap.inj i j b b' l1 l2 hgi hgj hne hli' hlj' hn1 hn2
end
end Go.Proofs.Ytkeplmpcijigaaa
