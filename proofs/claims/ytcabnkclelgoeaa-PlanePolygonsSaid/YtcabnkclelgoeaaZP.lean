/- The law PlanePolygons: for any arguments whatever it returns true, and its arguments read as they did. Conditions: none. -/
import Derived.Test.YtcabnkclelgoeaaVP
import Derived.Test.YtcabnkclelgoeaaFR
namespace Go.Proofs.Ytcabnkclelgoeaa.planePolygons
set_option linter.unusedSectionVars false
set_option linter.unusedSimpArgs false
set_option linter.unusedVariables false
open Go.ChangeShapes Go.WideShapes Go.ChangeAt Go.RowKit
theorem walk (v0:Value) (l0:List (El .pt)) (v1:Value) (l1:El .pt) (W:World) (s0:Rel E (fun b=>b < W.heap.size) (fun _=>none) W (.lst .pt l0) v0) (s1:Rel E (fun b=>b < W.heap.size) (fun _=>none) W (.agg (E.enc .pt l1)) v1) :
    Calls Try.prog 7 #[v0,v1] W fun e W'=>e = .returned (.bool true)∧Below W.heap.size W W':=by
  refine ((lawPoly.spec l0 l1).2.2 (fun b=>b < W.heap.size) W _ (fun _ h=>h) trivial ⟨rfl,fun i c v hc hv => ?_⟩).mono ?_
  · match i, hc, hv with
    | 0,hc,hv=>cases hc; cases hv; exact s0
    | 1,hc,hv=>cases hc; cases hv; exact s1
  · rintro e w' ⟨v, S', ρ', rfl, hst, _, hr⟩
    cases hr
    exact ⟨rfl,hst.below⟩
set_option maxRecDepth 100000 in
theorem lifted (os:Os) (started:os.Started) (H:Type) (enc:TypeId×Value→H) :
    ReturnsInHanded {} Try.checked os 7 .any (Rows.planePolygonsSpec.pre6 enc Try.prog Try.f7 Rows.planePolygonsRow.domain false) (Rows.planePolygonsSpec.post enc Try.prog Try.f7 false true false false):=by
  refine returnsInHanded_of_change (C:=Try.checked) own started (by kernel_rfl) Try.func7
    (ChangeSpec.witness6 (enc:=enc) (C:=Try.checked) false ⟨#[],#[.slice none 0 0,.agg #[.int .i64 0,.int .i64 0]],[]⟩ 8 (by kernel_rfl) (by kernel_rfl) (by kernel_rfl) (by kernel_rfl)) ?_
  intro W base args ds gs before hval0 hW hcnd _
  have hval:∀ (j:Nat) t v,Try.f7.params[j]? = some t→args[j]? = some v→Value.okWide Try.prog W .any base t v:=hval0
  have hW':=hW
  obtain ⟨p,q,hA0,hV,rfl,hfz,hnd⟩:=hW
  have hA:DataW.TrodAll enc Try.prog W 0 (fun _=>true) true Try.f7.params.toList args.toList ds p:=hA0
  rw [Try.params7] at hA hval
  obtain ⟨v0,vs0,d0,ds0,p0,q0,hargs,rfl,rfl,h0,r0⟩:=trodAll_cons hA
  obtain ⟨v1,vs1,d1,ds1,p1,q1,rfl,rfl,rfl,h1,r1⟩:=trodAll_cons r0
  obtain ⟨rfl,rfl,rfl⟩:=trodAll_nil r1
  obtain rfl:args=#[v0,v1]:=by cases args; simp_all
  obtain ⟨rfl,rfl⟩:=trodVars_none hV
  obtain ⟨l0,s0⟩:=openL reads_pt (by decide) (fun _=>rfl) Try.underlying33 (by kernel_rfl) (hval 0 33 v0 rfl rfl) h0
  obtain ⟨l1,s1⟩:=openS reads_pt (fun _=>rfl) Try.underlying23 (by kernel_rfl) (hval 1 23 v1 rfl rfl) h1
  clear hA0 hval0
  simp only [List.append_nil] at hW'
  have hlt:∀ x∈p0++p1,x.block < W.heap.size:=fun x hx=>by simpa using hW'.lt x (by simpa using hx)
  refine (walk v0 l0 v1 l1 W s0 s1).mono fun e W' ⟨he,hB⟩ => ?_
  subst he
  refine ⟨_,rfl,_,_,_,[],_,[],hW',trodAll_mk1 (shut_bool Try.underlying4 _),trodAll_cons_mk (Below.trod laidOut (by kernel_rfl) (of_decide_eq_true (by kernel_rfl)) h0 hB (fun x hx=>hlt x (by simp [hx]))) (trodAll_cons_mk (Below.trod laidOut (by kernel_rfl) (of_decide_eq_true (by kernel_rfl)) h1 hB (fun x hx=>hlt x (by simp [hx]))) (trodAll_mk0)),rfl,hB.frame _,fun h=>by cases h⟩
theorem over:Rows.planePolygonsRow.holds Try.pinned (OpenSpec.ofChange Rows.planePolygonsSpec) :=
  OpenClaim.holds_of_wide 7 Try.f7 rfl rfl rfl rfl rfl rfl rfl ⟨rfl,rfl,rfl,rfl,rfl⟩ rfl rfl rfl rfl rfl (by kernel_rfl) Try.func7 (by kernel_rfl)
    (of_decide_eq_true (by kernel_rfl)) (by unfold Func.isWrapper; rw [if_neg (of_decide_eq_false (by kernel_rfl))]; exact ⟨rfl,rfl⟩)
    (fun os started H enc _=>lifted os started H enc)
theorem proved:Rows.PlanePolygonsSaid :=
  over
#print axioms proved
end Go.Proofs.Ytcabnkclelgoeaa.planePolygons
