/- The opening of a list of small integers: each of them is in its range. -/
import Derived.Test.YtnofdcckddfooaaDoorFR
import Derived.Test.YtnofdcckddfooaaDoorVK
namespace Go.Proofs.YtnofdcckddfooaaDoor
set_option linter.unusedSectionVars false
set_option linter.unusedSimpArgs false
set_option linter.unusedVariables false
set_option maxRecDepth 100000
open Go.ChangeShapes Go.WideShapes Go.Deep Go.RowKit Go.ChangeMaps
theorem openI16 {t e : TypeId} (ht : Tryd.prog.underlying t = some (.slice e)) (he : Tryd.prog.underlying e = some (.int .i16)) (hu : Reads .i16 e) (hc : Tryd.prog.cellsOf e = E.sz .i16) {H : Type} {enc : TypeId × Value → H} {w : World} {base : Nat} {spare : Nat → Bool} {held : Bool} {v : Value} {d : DataW H} {p : List MemPlace} {r : Reach} {b0 : Nat}
    (hv:Value.okWide Tryd.prog w r b0 t v) (h:DataW.Trod enc Tryd.prog w base spare held t v d p):∃ l:List (El .i16),Rel E (fun b=>b < w.heap.size) (fun _=>none) w (.lst .i16 l) v∧List.all l i16B=true:=by
  obtain ⟨ao,len,cap,rfl⟩:=okWide_slice ht hv
  obtain ⟨fuel,hf⟩:=h
  rcases open_slice ht hf with h0 | ⟨a,len',cap',m,n,D,Pl,hcs,hb,hl,hm,hmm,hx,hi⟩
  · have h1 := h0.1
    simp only [Value.cells,List.cons.injEq,and_true] at h1
    rw [h1]
    exact ⟨[],.lstE _ _ _,rfl⟩
  · simp only [Value.cells, List.cons.injEq, and_true] at hcs
    rw [hcs]
    rw [hc] at hi
    obtain ⟨l,hr⟩:=lst_of (u := .i16) (w:=w) (a:=a) hl (by decide) (fun _=>rfl) fun i hil=>by
      obtain ⟨cs',hc',ht'⟩:=hi i (by rw [hmm]; split<;>omega)
      obtain ⟨y,hy⟩:=hu _ _ _ _ _ _ _ _ _ ht'
      refine ⟨y,fun j c hj => ?_⟩
      obtain ⟨v,hv,hr⟩:=hy j c hj
      refine ⟨v,?_,hr⟩
      obtain ⟨_,hcl,hat⟩:=World.cells?_some hc'
      have hjl:j < E.sz .i16:=(List.getElem?_eq_some_iff.1 hj).1
      rw [← Go.Deep.add_add,hat j hjl,hv]
    refine ⟨l,hr,List.all_eq_true.2 fun x hx => ?_⟩
    obtain ⟨i,hil,hix⟩:=List.getElem_of_mem (a:=(x:El .i16)) (l:=l) hx
    have hi? : l[i]? = some x:=by rw [List.getElem?_eq_getElem hil,hix]
    cases hr with
    | lstE=>cases hil
    | lst _ _ b off _ val hS hcp hcell hrel =>
      have h1:=hcell i x 0 (.int .i16 x) hi? rfl
      have h2:=hrel i x 0 (.int .i16 x) hi? rfl
      generalize val i 0=q at h1 h2
      cases h2
      obtain ⟨cs',hc',ht'⟩:=hi i (by rw [hmm]; split<;>omega)
      obtain ⟨z,e0,_,hw⟩:=DataW.trod_int he ht'
      obtain ⟨_,hcl,hat⟩:=World.cells?_some hc'
      have h3:=hat 0 (by decide)
      rw [e0,Go.Deep.add_add,Nat.add_zero,addr_add] at h3
      have h4:w.cell? ⟨b,off+i * E.sz .i16,none⟩=some (.int .i16 z):=h3
      rw [Nat.add_zero] at h1
      rw [h4] at h1
      cases h1
      simp only [Lit.wf,Bool.and_eq_true,decide_eq_true_eq] at hw
      have key:∀ y:Int,IntKind.i16.min≤y∧y≤IntKind.i16.max→i16B y=true:=fun y hy=>by
        have k1:(-32768:Int)≤y:=hy.1
        have k2:y≤(32767:Int):=hy.2
        unfold i16B
        rw [ileT k1,ileT k2]
        rfl
      exact key _ hw
end Go.Proofs.YtnofdcckddfooaaDoor
