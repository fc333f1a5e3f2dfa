/- The frame of a law: its arguments opened to lists and structs. -/
import Derived.Test.YtlkfbblapimhoaaGreatDoorV
import Derived.Test.YtlkfbblapimhoaaGreatDoorRows
import Derived.ProofKit
import Derived.OpenShut
import Derived.Stop.Joined
import Derived.Carry
import Derived.Deep.Slices
import Derived.Deep.Fields
import Derived.ChangeSame
import Derived.ChangeMaps5
import Derived.Test.YtlkfbblapimhoaaGreatDoorTie
import Derived.Test.YtlkfbblapimhoaaGreatDoorCards
import Derived.LaidMore
import Derived.SevenTiedAt
namespace Go.Proofs.YtlkfbblapimhoaaGreatDoor
set_option linter.unusedSectionVars false
set_option linter.unusedSimpArgs false
set_option linter.unusedVariables false
set_option maxRecDepth 100000
open Go.ChangeShapes Go.WideShapes Go.Deep Go.RowKit Go.ChangeMaps
theorem own:ownKnob Tryz.prog.godebug=none:=by kernel_rfl
theorem laidOut:laidOutB Tryz.prog=true:=by kernel_rfl
theorem list_of {α : Type} {Q : Nat → α → Prop} : ∀ n, (∀ i, i < n → ∃ x, Q i x) → ∃ l : List α, l.length = n ∧ ∀ (i : Nat) x, l[i]? = some x → Q i x := by
  intro n
  induction n with
  | zero=>intro _; exact ⟨[],rfl,by simp⟩
  | succ n ih =>
    intro h
    obtain ⟨l,hl,hq⟩:=ih (fun i hi=>h i (by omega))
    obtain ⟨x,hx⟩:=h n (by omega)
    refine ⟨l++[x],by simp [hl],fun i y hy => ?_⟩
    by_cases hi:i < n
    · rw [List.getElem?_append_left (by omega)] at hy
      exact hq i y hy
    · rw [List.getElem?_append_right (by omega)] at hy
      have:i=n:=by
        have:=(List.getElem?_eq_some_iff.1 hy).1
        simp at this
        omega
      subst this
      simp [hl] at hy
      subst hy
      exact hx
theorem cell_lt' {w:World} {a:Addr} {v:Value} (h:w.cell? a=some v):a.block < w.heap.size:=by
  rcases Nat.lt_or_ge a.block w.heap.size with h' | h'
  · exact h'
  · simp [World.cell?,Array.getElem?_eq_none h'] at h
theorem lst_of {u : U} {Z : El u → Prop} {w : World} {a : Addr} {len cap : Nat} (hcap : len ≤ cap) (hsz : 0 < E.sz u) (hlen0 : ∀ x, (E.enc u x).length = E.sz u)
    (key:∀ i,i < len→∃ x:El u,(∀ (j:Nat) c,(E.enc u x)[j]? = some c→∃ v,w.cell? (a.add (i * E.sz u+j))=some v∧Rel E (fun b=>b < w.heap.size) (fun _=>none) w c v)∧Z x) :
    ∃ l:List (El u),Rel E (fun b=>b < w.heap.size) (fun _=>none) w (.lst u l) (.slice (some a) len cap)∧l.length=len∧∀ x∈l,Z x:=by
  obtain ⟨l,hlen,hq⟩:=list_of len key
  by_cases h0:len=0
  · subst h0
    have:l=[]:=List.eq_nil_of_length_eq_zero hlen
    subst this
    exact ⟨[],.lstE _ _ _,rfl,by simp⟩
  · have h0l : 0 < l.length := by omega
    have h1l:0 < (E.enc u l[0]).length:=by rw [hlen0 l[0]]; exact hsz
    have hc0':=List.getElem?_eq_getElem h1l
    obtain ⟨v0,hc0,_⟩:=(hq 0 l[0] (List.getElem?_eq_getElem (by omega))).1 0 _ hc0'
    have hlt:a.block < w.heap.size:=by have:=cell_lt' hc0; simpa [Addr.add] using this
    have hspot:a.spot=none:=by have:=World.cell?_spot hc0; simpa [Addr.add] using this
    obtain ⟨b,off,spot⟩:=a
    simp only at hspot
    subst hspot
    refine ⟨l,?_,hlen,fun x hx=>by obtain ⟨i,hi,e⟩:=List.getElem_of_mem hx; exact (hq i x (by rw [List.getElem?_eq_getElem hi,e])).2⟩
    rw [← hlen]
    have hv:∀ i j,∃ v,∀ x c,l[i]? = some x→(E.enc u x)[j]? = some c→w.cell? ⟨b,off+i * E.sz u+j,none⟩=some v∧Rel E (fun b=>b < w.heap.size) (fun _=>none) w c v:=fun i j=>by
      cases hx:l[i]? with
      | none=>exact ⟨undef,fun x c h=>by cases h⟩
      | some x =>
        cases hc:(E.enc u x)[j]? with
        | none=>exact ⟨undef,fun x' c h h'=>by cases h; rw [hc] at h'; cases h'⟩
        | some c =>
          obtain ⟨v,h5,h6⟩:=(hq i x hx).1 j c hc
          refine ⟨v,fun x' c' h h' => ?_⟩
          cases h
          rw [hc] at h'; cases h'
          refine ⟨?_,h6⟩
          rw [addr_add,← Nat.add_assoc] at h5
          exact h5
    refine .lst _ _ b off cap (fun i j=>Classical.choose (hv i j)) hlt (Nat.le_trans (Nat.le_of_eq hlen) hcap) (fun i x j c hx hc=>(Classical.choose_spec (hv i j) x c hx hc).1) (fun i x j c hx hc=>(Classical.choose_spec (hv i j) x c hx hc).2)
def zok_cnd (y:Cnd):Prop:=True
def zok_rule (y:Rule):Prop:=y.rw.length≤9223372036854775807∧(∀ x∈y.rw,zok_cnd x)
def zok_knot (y:Knot):Prop:=True
def zok_node (y:Node):Prop:=y.nh.length≤9223372036854775807∧(∀ x∈y.nh,zok_knot x)
def zok_link (y:Lnk):Prop:=y.lv.length≤9223372036854775807∧(∀ x∈y.lv,zok_knot x)
def zok_net (y:Net):Prop:=y.nds.length≤9223372036854775807∧(∀ x∈y.nds,zok_node x)∧y.lks.length≤9223372036854775807∧(∀ x∈y.lks,zok_link x)
def zok_int (y:Int):Prop:=True
def zok:(u:U)→El u→Prop
  | .cnd,y=>zok_cnd y
  | .rule,y=>zok_rule y
  | .knot,y=>zok_knot y
  | .node,y=>zok_node y
  | .link,y=>zok_link y
  | .net,y=>zok_net y
  | .int,y=>zok_int y
  | _,_=>True
def Reads (u:U) (t:TypeId):Prop:=∀ (H:Type) (enc:TypeId×Value→H) (w:World) (base:Nat) (spare:Nat→Bool) (held:Bool) (fuel:Nat) (cs:List Value) (x:DataW H×List MemPlace),
  DataW.trod enc Tryz.prog w base spare held fuel t cs=some x→∃ y:El u,(∀ (j:Nat) c,(E.enc u y)[j]? = some c→∃ v,cs[j]? = some v∧Rel E (fun b=>b < w.heap.size) (fun _=>none) w c v)∧zok u y
theorem lst_reads {u:U} {t e:TypeId} (hu:Reads u e) (hsz:0 < E.sz u) (hlen:∀ x,(E.enc u x).length=E.sz u) (ht:Tryz.prog.underlying t=some (.slice e)) (hc:Tryz.prog.cellsOf e=E.sz u) {H:Type} {enc:TypeId×Value→H} {w:World} {base:Nat} {spare:Nat→Bool} {held:Bool} {fuel:Nat} {cs:List Value} {x:DataW H×List MemPlace}
    (h:DataW.trod enc Tryz.prog w base spare held fuel t cs=some x):∃ (l:List (El u)) (v:Value),cs=[v]∧Rel E (fun b=>b < w.heap.size) (fun _=>none) w (.lst u l) v∧l.length≤9223372036854775807∧∀ x∈l,zok u x:=by
  rcases open_slice ht h with h0 | ⟨a,len,cap,m,n,D,Pl,hcs,hb,hl,hm,hmm,hx,hi⟩
  · exact ⟨[],_,h0.1,.lstE _ _ _,by simp,by simp⟩
  · rw [hc] at hi
    obtain ⟨l,hr,hll,hz⟩:=lst_of (u:=u) (Z:=zok u) (w:=w) (a:=a) hl hsz hlen fun i hil=>by
      obtain ⟨cs',hc',ht'⟩:=hi i (by rw [hmm]; split<;>omega)
      obtain ⟨y,hy,hzy⟩:=hu _ _ _ _ _ _ _ _ _ ht'
      refine ⟨y,fun j c hj => ?_,hzy⟩
      obtain ⟨v,hv,hr⟩:=hy j c hj
      refine ⟨v,?_,hr⟩
      obtain ⟨_,hcl,hat⟩:=World.cells?_some hc'
      have hjl:j < E.sz u:=by rw [← hlen y]; exact (List.getElem?_eq_some_iff.1 hj).1
      rw [← Go.Deep.add_add,hat j hjl,hv]
    exact ⟨l,_,hcs,hr,(by have:maxLen=9223372036854775807:=(by decide); omega),hz⟩
theorem flds {t:TypeId} {fs:Array Field} {L:List (TypeId×Nat×Nat)} (ht:Tryz.prog.underlying t=some (.struct fs)) (hm:fs.toList.map (fun f=>(f.type,f.offset,Tryz.prog.cellsOf f.type))=L) {H:Type} {enc:TypeId×Value→H} {w:World} {base:Nat} {spare:Nat→Bool} {held:Bool} {fuel:Nat} {cs:List Value} {x:DataW H×List MemPlace}
    (h:DataW.trod enc Tryz.prog w base spare held fuel t cs=some x):∃ n:Nat,∀ (i:Nat) ft off sz,L[i]? = some (ft,off,sz)→∃ y,DataW.trod enc Tryz.prog w base spare held n ft ((cs.drop off).take sz)=some y:=by
  obtain ⟨xs,n,_,_,_,hx,hf⟩:=DataW.trod_struct ht h
  refine ⟨n,fun i ft off sz hi => ?_⟩
  rw [← hm,List.getElem?_map,Option.map_eq_some_iff] at hi
  obtain ⟨f,h1,h2⟩:=hi
  simp only [Prod.mk.injEq] at h2
  obtain ⟨rfl,rfl,rfl⟩:=h2
  have hl:i < xs.length:=by
    have:=(List.getElem?_eq_some_iff.1 h1).1
    rw [hx]; simpa using this
  exact ⟨_,(hf i f (by simpa using h1)).trans (List.getElem?_eq_getElem hl)⟩
theorem at1 {cs:List Value} {off:Nat} {v:Value} (h:(cs.drop off).take 1=[v]):cs[off]? = some v:=by
  have:=congrArg (fun l=>l[0]?) h
  simpa using this
theorem at2 {cs:List Value} {off n j:Nat} {v:Value} (h:((cs.drop off).take n)[j]? = some v):cs[off+j]? = some v:=by
  rw [List.getElem?_take] at h
  split at h
  · rw [List.getElem?_drop] at h; exact h
  · cases h
theorem at0 {cs:List Value} {v:Value} (h:cs=[v]):cs[0]? = some v:=by rw [h]; rfl
theorem openL {u:U} {t e:TypeId} (hu:Reads u e) (hsz:0 < E.sz u) (hlen:∀ x,(E.enc u x).length=E.sz u) (ht:Tryz.prog.underlying t=some (.slice e)) (hc:Tryz.prog.cellsOf e=E.sz u) {H:Type} {enc:TypeId×Value→H} {w:World} {base:Nat} {spare:Nat→Bool} {held:Bool} {v:Value} {d:DataW H} {p:List MemPlace} {r:Reach} {b0:Nat}
    (hv:Value.okWide Tryz.prog w r b0 t v) (h:DataW.Trod enc Tryz.prog w base spare held t v d p):∃ l:List (El u),Rel E (fun b=>b < w.heap.size) (fun _=>none) w (.lst u l) v:=by
  obtain ⟨ao,len,cap,rfl⟩:=okWide_slice ht hv
  obtain ⟨fuel,hf⟩:=h
  obtain ⟨l,v,hcs,hr,_,_⟩:=lst_reads hu hsz hlen ht hc hf
  simp only [Value.cells,List.cons.injEq,and_true] at hcs
  subst hcs
  exact ⟨l,hr⟩
theorem openS {u:U} {t:TypeId} {fs:Array Field} (hu:Reads u t) (hlen:∀ x,(E.enc u x).length=E.sz u) (ht:Tryz.prog.underlying t=some (.struct fs)) (hc:Tryz.prog.cellsOf t=E.sz u) {H:Type} {enc:TypeId×Value→H} {w:World} {base:Nat} {spare:Nat→Bool} {held:Bool} {v:Value} {d:DataW H} {p:List MemPlace} {r:Reach} {b0:Nat}
    (hv:Value.okWide Tryz.prog w r b0 t v) (h:DataW.Trod enc Tryz.prog w base spare held t v d p):∃ y:El u,Rel E (fun b=>b < w.heap.size) (fun _=>none) w (.agg (E.enc u y)) v∧zok u y:=by
  obtain ⟨cs,rfl,hs⟩:=okWide_struct ht hv
  obtain ⟨fuel,hf⟩:=h
  obtain ⟨y,hy,hzy⟩:=hu _ _ _ _ _ _ _ _ _ hf
  refine ⟨y,.agg _ cs (by rw [hlen,hs,hc]) fun i c v hi hv => ?_,hzy⟩
  obtain ⟨v',h1,hr⟩:=hy i c hi
  have:v'=v:=by
    have h2:(Value.cells (.agg cs)).toList[i]? = cs[i]? := by simp [Value.cells]
    rw [h2,hv] at h1
    cases h1; rfl
  exact this ▸ hr
theorem reads_cnd:Reads .cnd 78:=fun H enc w base spare held fuel cs x h=>by
  obtain ⟨n0,f0⟩:=flds (L:=[(9,0,1),(4,1,1),(3,2,1)]) Tryz.underlying78 (by kernel_rfl) h
  obtain ⟨y0_0,g0_0⟩:=f0 0 9 0 1 rfl
  obtain ⟨z0,e0,_⟩:=DataW.trod_string Tryz.underlying9 g0_0
  obtain ⟨y0_1,g0_1⟩:=f0 1 4 1 1 rfl
  obtain ⟨z1,e1,_⟩:=DataW.trod_bool Tryz.underlying4 g0_1
  obtain ⟨y0_2,g0_2⟩:=f0 2 3 2 1 rfl
  obtain ⟨z2,e2,_,hw2⟩:=DataW.trod_int Tryz.underlying3 g0_2
  refine ⟨⟨z0.data.toList,z1,z2⟩,fun j c hc => ?_,trivial⟩
  match j,hc with
  | 0,hc=>cases hc; exact ⟨_,(at1 e0),.str _⟩
  | 1,hc=>cases hc; exact ⟨_,(at1 e1),.bool _⟩
  | 2,hc=>cases hc; exact ⟨_,(at1 e2),.int _ _⟩
theorem reads_rule:Reads .rule 51:=fun H enc w base spare held fuel cs x h=>by
  obtain ⟨n0,f0⟩:=flds (L:=[(9,0,1),(49,1,1),(9,2,1),(3,3,1)]) Tryz.underlying51 (by kernel_rfl) h
  obtain ⟨y0_0,g0_0⟩:=f0 0 9 0 1 rfl
  obtain ⟨z0,e0,_⟩:=DataW.trod_string Tryz.underlying9 g0_0
  obtain ⟨y0_1,g0_1⟩:=f0 1 49 1 1 rfl
  obtain ⟨z1,v1,e1,r1,m1,k1⟩:=lst_reads reads_cnd (by decide) (fun _=>rfl) Tryz.underlying49 (by kernel_rfl) g0_1
  obtain ⟨y0_2,g0_2⟩:=f0 2 9 2 1 rfl
  obtain ⟨z2,e2,_⟩:=DataW.trod_string Tryz.underlying9 g0_2
  obtain ⟨y0_3,g0_3⟩:=f0 3 3 3 1 rfl
  obtain ⟨z3,e3,_,hw3⟩:=DataW.trod_int Tryz.underlying3 g0_3
  refine ⟨⟨z0.data.toList,z1,z2.data.toList,z3⟩,fun j c hc => ?_,⟨m1,k1⟩⟩
  match j,hc with
  | 0,hc=>cases hc; exact ⟨_,(at1 e0),.str _⟩
  | 1,hc=>cases hc; exact ⟨_,(at1 e1),r1⟩
  | 2,hc=>cases hc; exact ⟨_,(at1 e2),.str _⟩
  | 3,hc=>cases hc; exact ⟨_,(at1 e3),.int _ _⟩
theorem reads_knot:Reads .knot 172:=fun H enc w base spare held fuel cs x h=>by
  obtain ⟨n0,f0⟩:=flds (L:=[(3,0,1),(3,1,1)]) Tryz.underlying172 (by kernel_rfl) h
  obtain ⟨y0_0,g0_0⟩:=f0 0 3 0 1 rfl
  obtain ⟨z0,e0,_,hw0⟩:=DataW.trod_int Tryz.underlying3 g0_0
  obtain ⟨y0_1,g0_1⟩:=f0 1 3 1 1 rfl
  obtain ⟨z1,e1,_,hw1⟩:=DataW.trod_int Tryz.underlying3 g0_1
  refine ⟨⟨z0,z1⟩,fun j c hc => ?_,trivial⟩
  match j,hc with
  | 0,hc=>cases hc; exact ⟨_,(at1 e0),.int _ _⟩
  | 1,hc=>cases hc; exact ⟨_,(at1 e1),.int _ _⟩
theorem reads_node:Reads .node 119:=fun H enc w base spare held fuel cs x h=>by
  obtain ⟨n0,f0⟩:=flds (L:=[(9,0,1),(3,1,1),(117,2,2),(3,4,1),(3,5,1),(71,6,1),(4,7,1),(3,8,1)]) Tryz.underlying119 (by kernel_rfl) h
  obtain ⟨y0_0,g0_0⟩:=f0 0 9 0 1 rfl
  obtain ⟨z0,e0,_⟩:=DataW.trod_string Tryz.underlying9 g0_0
  obtain ⟨y0_1,g0_1⟩:=f0 1 3 1 1 rfl
  obtain ⟨z1,e1,_,hw1⟩:=DataW.trod_int Tryz.underlying3 g0_1
  obtain ⟨y0_2,g0_2⟩:=f0 2 117 2 2 rfl
  obtain ⟨n1,f1⟩:=flds (L:=[(3,0,1),(3,1,1)]) Tryz.underlying117 (by kernel_rfl) g0_2
  obtain ⟨y1_0,g1_0⟩:=f1 0 3 0 1 rfl
  obtain ⟨z2,e2,_,hw2⟩:=DataW.trod_int Tryz.underlying3 g1_0
  obtain ⟨y1_1,g1_1⟩:=f1 1 3 1 1 rfl
  obtain ⟨z3,e3,_,hw3⟩:=DataW.trod_int Tryz.underlying3 g1_1
  obtain ⟨y0_3,g0_3⟩:=f0 3 3 4 1 rfl
  obtain ⟨z4,e4,_,hw4⟩:=DataW.trod_int Tryz.underlying3 g0_3
  obtain ⟨y0_4,g0_4⟩:=f0 4 3 5 1 rfl
  obtain ⟨z5,e5,_,hw5⟩:=DataW.trod_int Tryz.underlying3 g0_4
  obtain ⟨y0_5,g0_5⟩:=f0 5 71 6 1 rfl
  obtain ⟨z6,v6,e6,r6,m6,k6⟩:=lst_reads reads_knot (by decide) (fun _=>rfl) Tryz.underlying71 (by kernel_rfl) g0_5
  obtain ⟨y0_6,g0_6⟩:=f0 6 4 7 1 rfl
  obtain ⟨z7,e7,_⟩:=DataW.trod_bool Tryz.underlying4 g0_6
  obtain ⟨y0_7,g0_7⟩:=f0 7 3 8 1 rfl
  obtain ⟨z8,e8,_,hw8⟩:=DataW.trod_int Tryz.underlying3 g0_7
  refine ⟨⟨z0.data.toList,z1,z2,z3,z4,z5,z6,z7,z8⟩,fun j c hc => ?_,⟨m6,k6⟩⟩
  match j,hc with
  | 0,hc=>cases hc; exact ⟨_,(at1 e0),.str _⟩
  | 1,hc=>cases hc; exact ⟨_,(at1 e1),.int _ _⟩
  | 2,hc=>cases hc; exact ⟨_,(at2 (at1 e2)),.int _ _⟩
  | 3,hc=>cases hc; exact ⟨_,(at2 (at1 e3)),.int _ _⟩
  | 4,hc=>cases hc; exact ⟨_,(at1 e4),.int _ _⟩
  | 5,hc=>cases hc; exact ⟨_,(at1 e5),.int _ _⟩
  | 6,hc=>cases hc; exact ⟨_,(at1 e6),r6⟩
  | 7,hc=>cases hc; exact ⟨_,(at1 e7),.bool _⟩
  | 8,hc=>cases hc; exact ⟨_,(at1 e8),.int _ _⟩
theorem reads_link:Reads .link 73:=fun H enc w base spare held fuel cs x h=>by
  obtain ⟨n0,f0⟩:=flds (L:=[(9,0,1),(9,1,1),(9,2,1),(3,3,1),(3,4,1),(3,5,1),(3,6,1),(9,7,1),(3,8,1),(3,9,1),(71,10,1)]) Tryz.underlying73 (by kernel_rfl) h
  obtain ⟨y0_0,g0_0⟩:=f0 0 9 0 1 rfl
  obtain ⟨z0,e0,_⟩:=DataW.trod_string Tryz.underlying9 g0_0
  obtain ⟨y0_1,g0_1⟩:=f0 1 9 1 1 rfl
  obtain ⟨z1,e1,_⟩:=DataW.trod_string Tryz.underlying9 g0_1
  obtain ⟨y0_2,g0_2⟩:=f0 2 9 2 1 rfl
  obtain ⟨z2,e2,_⟩:=DataW.trod_string Tryz.underlying9 g0_2
  obtain ⟨y0_3,g0_3⟩:=f0 3 3 3 1 rfl
  obtain ⟨z3,e3,_,hw3⟩:=DataW.trod_int Tryz.underlying3 g0_3
  obtain ⟨y0_4,g0_4⟩:=f0 4 3 4 1 rfl
  obtain ⟨z4,e4,_,hw4⟩:=DataW.trod_int Tryz.underlying3 g0_4
  obtain ⟨y0_5,g0_5⟩:=f0 5 3 5 1 rfl
  obtain ⟨z5,e5,_,hw5⟩:=DataW.trod_int Tryz.underlying3 g0_5
  obtain ⟨y0_6,g0_6⟩:=f0 6 3 6 1 rfl
  obtain ⟨z6,e6,_,hw6⟩:=DataW.trod_int Tryz.underlying3 g0_6
  obtain ⟨y0_7,g0_7⟩:=f0 7 9 7 1 rfl
  obtain ⟨z7,e7,_⟩:=DataW.trod_string Tryz.underlying9 g0_7
  obtain ⟨y0_8,g0_8⟩:=f0 8 3 8 1 rfl
  obtain ⟨z8,e8,_,hw8⟩:=DataW.trod_int Tryz.underlying3 g0_8
  obtain ⟨y0_9,g0_9⟩:=f0 9 3 9 1 rfl
  obtain ⟨z9,e9,_,hw9⟩:=DataW.trod_int Tryz.underlying3 g0_9
  obtain ⟨y0_10,g0_10⟩:=f0 10 71 10 1 rfl
  obtain ⟨z10,v10,e10,r10,m10,k10⟩:=lst_reads reads_knot (by decide) (fun _=>rfl) Tryz.underlying71 (by kernel_rfl) g0_10
  refine ⟨⟨z0.data.toList,z1.data.toList,z2.data.toList,z3,z4,z5,z6,z7.data.toList,z8,z9,z10⟩,fun j c hc => ?_,⟨m10,k10⟩⟩
  match j,hc with
  | 0,hc=>cases hc; exact ⟨_,(at1 e0),.str _⟩
  | 1,hc=>cases hc; exact ⟨_,(at1 e1),.str _⟩
  | 2,hc=>cases hc; exact ⟨_,(at1 e2),.str _⟩
  | 3,hc=>cases hc; exact ⟨_,(at1 e3),.int _ _⟩
  | 4,hc=>cases hc; exact ⟨_,(at1 e4),.int _ _⟩
  | 5,hc=>cases hc; exact ⟨_,(at1 e5),.int _ _⟩
  | 6,hc=>cases hc; exact ⟨_,(at1 e6),.int _ _⟩
  | 7,hc=>cases hc; exact ⟨_,(at1 e7),.str _⟩
  | 8,hc=>cases hc; exact ⟨_,(at1 e8),.int _ _⟩
  | 9,hc=>cases hc; exact ⟨_,(at1 e9),.int _ _⟩
  | 10,hc=>cases hc; exact ⟨_,(at1 e10),r10⟩
theorem reads_net:Reads .net 40:=fun H enc w base spare held fuel cs x h=>by
  obtain ⟨n0,f0⟩:=flds (L:=[(37,0,1),(38,1,1)]) Tryz.underlying40 (by kernel_rfl) h
  obtain ⟨y0_0,g0_0⟩:=f0 0 37 0 1 rfl
  obtain ⟨z0,v0,e0,r0,m0,k0⟩:=lst_reads reads_node (by decide) (fun _=>rfl) Tryz.underlying37 (by kernel_rfl) g0_0
  obtain ⟨y0_1,g0_1⟩:=f0 1 38 1 1 rfl
  obtain ⟨z1,v1,e1,r1,m1,k1⟩:=lst_reads reads_link (by decide) (fun _=>rfl) Tryz.underlying38 (by kernel_rfl) g0_1
  refine ⟨⟨z0,z1⟩,fun j c hc => ?_,⟨m0,k0,m1,k1⟩⟩
  match j,hc with
  | 0,hc=>cases hc; exact ⟨_,(at1 e0),r0⟩
  | 1,hc=>cases hc; exact ⟨_,(at1 e1),r1⟩
theorem reads_int:Reads .int 3:=fun H enc w base spare held fuel cs x h=>by
  obtain ⟨z0,e0,_,hw0⟩:=DataW.trod_int Tryz.underlying3 h
  refine ⟨z0,fun j c hc => ?_,trivial⟩
  match j,hc with
  | 0,hc=>cases hc; exact ⟨_,(at0 e0),.int _ _⟩
noncomputable def gChk : Bool := match Tryz.prog.globalNamed "internal/strconv.uint64pow10" with
  | some g => match (Tryz.prog.globals[g]?).map (·.type) with
    | some t => match Tryz.prog.underlying t with
      | some (.array n e)=>(match Tryz.prog.underlying e with | some (.int .u64)=>true | _=>false)&&Nat.beq (Tryz.prog.cellsOf e) 1&&Nat.beq (Tryz.prog.cellsOf t) n
      | _=>false
    | none=>false
  | none=>false
theorem gOk (h : gChk = true) : ∃ g, Tryz.prog.globalNamed "internal/strconv.uint64pow10" = some g ∧ ∃ t, (Tryz.prog.globals[g]?).map (·.type) = some t ∧ ∃ n e, Tryz.prog.underlying t = some (.array n e) ∧ Tryz.prog.underlying e = some (.int .u64) ∧ Tryz.prog.cellsOf e = 1 ∧ Tryz.prog.cellsOf t = n := by
  unfold gChk at h
  split at h
  · rename_i g hg
    split at h
    · rename_i t ht
      split at h
      · rename_i n e hu
        simp only [Bool.and_eq_true] at h
        obtain ⟨⟨h1,h2⟩,h3⟩:=h
        split at h1
        · rename_i he
          exact ⟨g,hg,t,ht,n,e,hu,he,Nat.eq_of_beq_eq_true h2,Nat.eq_of_beq_eq_true h3⟩
        · cases h1
      · cases h
    · cases h
  · cases h
abbrev laidAll : List (String × DataW Unit) := [("math/bits.deBruijn32tab", Rows.laid_math_bits_deBruijn32tab), ("math/bits.deBruijn64tab", Rows.laid_math_bits_deBruijn64tab), ("internal/strconv.uint64pow10", Rows.laid_internal_strconv_uint64pow10), ("strconv.ErrRange", Rows.laid_strconv_ErrRange), ("strconv.ErrSyntax", Rows.laid_strconv_ErrSyntax)]
theorem of_laid {W:World} (h:laidMetH Tryz.prog laidAll W):E.G W:=by
  rw [MakeChecks.laidMetH_plain _ _ _ (by kernel_rfl)] at h
  obtain ⟨ps,⟨g0,t0,cs0,f0,p0,q0,hg0,ht0,hv0,hd0,⟨g1,t1,cs1,f1,p1,q1,hg1,ht1,hv1,hd1,⟨g2,t2,cs2,f2,p2,q2,hg2,ht2,hv2,hd2,_,_⟩,_⟩,_⟩,_⟩:=h
  obtain ⟨g,hg,t,ht,n,e,hu,he,hce,hct⟩:=gOk (by kernel_rfl)
  obtain rfl:=Option.some.inj (hg.symm.trans hg2)
  obtain rfl:=Option.some.inj (ht.symm.trans ht2)
  show Lib.TabIs Tryz.prog W "internal/strconv.uint64pow10" .u64 Lib.pow10Tab
  unfold Lib.TabIs
  have hdd:(Rows.laid_internal_strconv_uint64pow10:DataW Unit)=Lib.tabData .u64 Lib.pow10Tab:=by rfl
  rw [hdd] at hd2
  rw [hv2,← Lib.cells_of_tab hu he hce hct hd2]
end Go.Proofs.YtlkfbblapimhoaaGreatDoor
