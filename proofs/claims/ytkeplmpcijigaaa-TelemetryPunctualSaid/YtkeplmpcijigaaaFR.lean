/- The frame of a law: its arguments opened to lists and structs. -/
import Derived.Test.YtkeplmpcijigaaaV
import Derived.Test.YtkeplmpcijigaaaRows
import Derived.ProofKit
import Derived.OpenShut
import Derived.Stop.Joined
import Derived.Carry
import Derived.Deep.Slices
import Derived.Deep.Fields
import Derived.ChangeSame
import Derived.ChangeMaps5
namespace Go.Proofs.Ytkeplmpcijigaaa
variable [Drw]
set_option linter.unusedSectionVars false
set_option linter.unusedSimpArgs false
set_option linter.unusedVariables false
set_option maxRecDepth 100000
open Go.ChangeShapes Go.WideShapes Go.Deep Go.RowKit Go.ChangeMaps
theorem own:ownKnob Try.prog.godebug=none:=by kernel_rfl
theorem laidOut:laidOutB Try.prog=true:=by kernel_rfl
theorem list_of {α : Type} {Q : Nat → α → Prop} : ∀ n, (∀ i, i < n → ∃ x, Q i x) → ∃ l : List α, l.length = n ∧ ∀ (i : Nat) x, l[i]? = some x → Q i x := by
  intro n
  induction n with
  | zero=>intro _; exact ⟨[],rfl,by simp⟩
  | succ n ih =>
    intro h
    obtain ⟨l,hl,hq⟩:=ih (fun i hi=>h i (by omega))
    obtain ⟨x,hx⟩:=h n (by omega)
    refine ⟨l++[x],by simp [hl],fun i y hy => ?_⟩
    by_cases hi:i < n
    · rw [List.getElem?_append_left (by omega)] at hy
      exact hq i y hy
    · rw [List.getElem?_append_right (by omega)] at hy
      have:i=n:=by
        have:=(List.getElem?_eq_some_iff.1 hy).1
        simp at this
        omega
      subst this
      simp [hl] at hy
      subst hy
      exact hx
theorem cell_lt' {w:World} {a:Addr} {v:Value} (h:w.cell? a=some v):a.block < w.heap.size:=by
  rcases Nat.lt_or_ge a.block w.heap.size with h' | h'
  · exact h'
  · simp [World.cell?,Array.getElem?_eq_none h'] at h
theorem lst_of {u : U} {w : World} {a : Addr} {len cap : Nat} (hcap : len ≤ cap) (hsz : 0 < E.sz u) (hlen0 : ∀ x, (E.enc u x).length = E.sz u)
    (key:∀ i,i < len→∃ x:El u,∀ (j:Nat) c,(E.enc u x)[j]? = some c→∃ v,w.cell? (a.add (i * E.sz u+j))=some v∧Rel E (fun b=>b < w.heap.size) (fun _=>none) w c v) :
    ∃ l:List (El u),Rel E (fun b=>b < w.heap.size) (fun _=>none) w (.lst u l) (.slice (some a) len cap):=by
  obtain ⟨l,hlen,hq⟩:=list_of len key
  by_cases h0:len=0
  · subst h0
    have:l=[]:=List.eq_nil_of_length_eq_zero hlen
    subst this
    exact ⟨[],.lstE _ _ _⟩
  · have h0l : 0 < l.length := by omega
    have h1l:0 < (E.enc u l[0]).length:=by rw [hlen0 l[0]]; exact hsz
    have hc0':=List.getElem?_eq_getElem h1l
    obtain ⟨v0,hc0,_⟩:=hq 0 l[0] (List.getElem?_eq_getElem (by omega)) 0 _ hc0'
    have hlt:a.block < w.heap.size:=by have:=cell_lt' hc0; simpa [Addr.add] using this
    have hspot:a.spot=none:=by have:=World.cell?_spot hc0; simpa [Addr.add] using this
    obtain ⟨b,off,spot⟩:=a
    simp only at hspot
    subst hspot
    refine ⟨l,?_⟩
    rw [← hlen]
    have hv:∀ i j,∃ v,∀ x c,l[i]? = some x→(E.enc u x)[j]? = some c→w.cell? ⟨b,off+i * E.sz u+j,none⟩=some v∧Rel E (fun b=>b < w.heap.size) (fun _=>none) w c v:=fun i j=>by
      cases hx:l[i]? with
      | none=>exact ⟨undef,fun x c h=>by cases h⟩
      | some x =>
        cases hc:(E.enc u x)[j]? with
        | none=>exact ⟨undef,fun x' c h h'=>by cases h; rw [hc] at h'; cases h'⟩
        | some c =>
          obtain ⟨v,h5,h6⟩:=hq i x hx j c hc
          refine ⟨v,fun x' c' h h' => ?_⟩
          cases h
          rw [hc] at h'; cases h'
          refine ⟨?_,h6⟩
          rw [addr_add,← Nat.add_assoc] at h5
          exact h5
    refine .lst _ _ b off cap (fun i j=>Classical.choose (hv i j)) hlt (Nat.le_trans (Nat.le_of_eq hlen) hcap) (fun i x j c hx hc=>(Classical.choose_spec (hv i j) x c hx hc).1) (fun i x j c hx hc=>(Classical.choose_spec (hv i j) x c hx hc).2)
def Reads (u:U) (t:TypeId):Prop:=∀ (H:Type) (enc:TypeId×Value→H) (w:World) (base:Nat) (spare:Nat→Bool) (held:Bool) (fuel:Nat) (cs:List Value) (x:DataW H×List MemPlace),
  DataW.trod enc Try.prog w base spare held fuel t cs=some x→∃ y:El u,∀ (j:Nat) c,(E.enc u y)[j]? = some c→∃ v,cs[j]? = some v∧Rel E (fun b=>b < w.heap.size) (fun _=>none) w c v
theorem lst_reads {u:U} {t e:TypeId} (hu:Reads u e) (hsz:0 < E.sz u) (hlen:∀ x,(E.enc u x).length=E.sz u) (ht:Try.prog.underlying t=some (.slice e)) (hc:Try.prog.cellsOf e=E.sz u) {H:Type} {enc:TypeId×Value→H} {w:World} {base:Nat} {spare:Nat→Bool} {held:Bool} {fuel:Nat} {cs:List Value} {x:DataW H×List MemPlace}
    (h:DataW.trod enc Try.prog w base spare held fuel t cs=some x):∃ (l:List (El u)) (v:Value),cs=[v]∧Rel E (fun b=>b < w.heap.size) (fun _=>none) w (.lst u l) v:=by
  rcases open_slice ht h with h0 | ⟨a,len,cap,m,n,D,Pl,hcs,hb,hl,hm,hmm,hx,hi⟩
  · exact ⟨[],_,h0.1,.lstE _ _ _⟩
  · rw [hc] at hi
    obtain ⟨l,hr⟩:=lst_of (u:=u) (w:=w) (a:=a) hl hsz hlen fun i hil=>by
      obtain ⟨cs',hc',ht'⟩:=hi i (by rw [hmm]; split<;>omega)
      obtain ⟨y,hy⟩:=hu _ _ _ _ _ _ _ _ _ ht'
      refine ⟨y,fun j c hj => ?_⟩
      obtain ⟨v,hv,hr⟩:=hy j c hj
      refine ⟨v,?_,hr⟩
      obtain ⟨_,hcl,hat⟩:=World.cells?_some hc'
      have hjl:j < E.sz u:=by rw [← hlen y]; exact (List.getElem?_eq_some_iff.1 hj).1
      rw [← Go.Deep.add_add,hat j hjl,hv]
    exact ⟨l,_,hcs,hr⟩
theorem flds {t:TypeId} {fs:Array Field} {L:List (TypeId×Nat×Nat)} (ht:Try.prog.underlying t=some (.struct fs)) (hm:fs.toList.map (fun f=>(f.type,f.offset,Try.prog.cellsOf f.type))=L) {H:Type} {enc:TypeId×Value→H} {w:World} {base:Nat} {spare:Nat→Bool} {held:Bool} {fuel:Nat} {cs:List Value} {x:DataW H×List MemPlace}
    (h:DataW.trod enc Try.prog w base spare held fuel t cs=some x):∃ n:Nat,∀ (i:Nat) ft off sz,L[i]? = some (ft,off,sz)→∃ y,DataW.trod enc Try.prog w base spare held n ft ((cs.drop off).take sz)=some y:=by
  obtain ⟨xs,n,_,_,_,hx,hf⟩:=DataW.trod_struct ht h
  refine ⟨n,fun i ft off sz hi => ?_⟩
  rw [← hm,List.getElem?_map,Option.map_eq_some_iff] at hi
  obtain ⟨f,h1,h2⟩:=hi
  simp only [Prod.mk.injEq] at h2
  obtain ⟨rfl,rfl,rfl⟩:=h2
  have hl:i < xs.length:=by
    have:=(List.getElem?_eq_some_iff.1 h1).1
    rw [hx]; simpa using this
  exact ⟨_,(hf i f (by simpa using h1)).trans (List.getElem?_eq_getElem hl)⟩
theorem at1 {cs:List Value} {off:Nat} {v:Value} (h:(cs.drop off).take 1=[v]):cs[off]? = some v:=by
  have:=congrArg (fun l=>l[0]?) h
  simpa using this
theorem openL {u:U} {t e:TypeId} (hu:Reads u e) (hsz:0 < E.sz u) (hlen:∀ x,(E.enc u x).length=E.sz u) (ht:Try.prog.underlying t=some (.slice e)) (hc:Try.prog.cellsOf e=E.sz u) {H:Type} {enc:TypeId×Value→H} {w:World} {base:Nat} {spare:Nat→Bool} {held:Bool} {v:Value} {d:DataW H} {p:List MemPlace} {r:Reach} {b0:Nat}
    (hv:Value.okWide Try.prog w r b0 t v) (h:DataW.Trod enc Try.prog w base spare held t v d p):∃ l:List (El u),Rel E (fun b=>b < w.heap.size) (fun _=>none) w (.lst u l) v:=by
  obtain ⟨ao,len,cap,rfl⟩:=okWide_slice ht hv
  obtain ⟨fuel,hf⟩:=h
  obtain ⟨l,v,hcs,hr⟩:=lst_reads hu hsz hlen ht hc hf
  simp only [Value.cells,List.cons.injEq,and_true] at hcs
  subst hcs
  exact ⟨l,hr⟩
theorem reads_msg:Reads .msg 33:=fun H enc w base spare held fuel cs x h=>by
  obtain ⟨n0,f0⟩:=flds (L:=[(9,0,1),(3,1,1),(3,2,1),(3,3,1),(3,4,1)]) Try.underlying33 (by kernel_rfl) h
  obtain ⟨y0_0,g0_0⟩:=f0 0 9 0 1 rfl
  obtain ⟨z0,e0,_⟩:=DataW.trod_string Try.underlying9 g0_0
  obtain ⟨y0_1,g0_1⟩:=f0 1 3 1 1 rfl
  obtain ⟨z1,e1,_,hw1⟩:=DataW.trod_int Try.underlying3 g0_1
  obtain ⟨y0_2,g0_2⟩:=f0 2 3 2 1 rfl
  obtain ⟨z2,e2,_,hw2⟩:=DataW.trod_int Try.underlying3 g0_2
  obtain ⟨y0_3,g0_3⟩:=f0 3 3 3 1 rfl
  obtain ⟨z3,e3,_,hw3⟩:=DataW.trod_int Try.underlying3 g0_3
  obtain ⟨y0_4,g0_4⟩:=f0 4 3 4 1 rfl
  obtain ⟨z4,e4,_,hw4⟩:=DataW.trod_int Try.underlying3 g0_4
  refine ⟨⟨z0.data.toList,z1,z2,z3,z4⟩,fun j c hc => ?_⟩
  match j,hc with
  | 0,hc=>cases hc; exact ⟨_,(at1 e0),.str _⟩
  | 1,hc=>cases hc; exact ⟨_,(at1 e1),.int _ _⟩
  | 2,hc=>cases hc; exact ⟨_,(at1 e2),.int _ _⟩
  | 3,hc=>cases hc; exact ⟨_,(at1 e3),.int _ _⟩
  | 4,hc=>cases hc; exact ⟨_,(at1 e4),.int _ _⟩
theorem openInt {H:Type} {enc:TypeId×Value→H} {w:World} {base:Nat} {spare:Nat→Bool} {held:Bool} {v:Value} {d:DataW H} {p:List MemPlace} {t:TypeId} {k:IntKind} (ht:Try.prog.underlying t=some (.int k)) {r:Reach} {b0:Nat} (hv:Value.okWide Try.prog w r b0 t v) (h:DataW.Trod enc Try.prog w base spare held t v d p) :
    ∃ n:Int,v = .int k n∧(Lit.int k n).wf=true:=by
  obtain ⟨n,rfl,_,_,hw⟩:=open_int ht hv h
  exact ⟨n,rfl,hw⟩
end Go.Proofs.Ytkeplmpcijigaaa
