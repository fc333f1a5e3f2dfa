/- The law PlaneHulls: for any arguments whatever it returns true, and its arguments read as they did. Conditions: none. -/
import Derived.Test.YtcabnkclelgoeaaVH
import Derived.Test.YtcabnkclelgoeaaFR
namespace Go.Proofs.Ytcabnkclelgoeaa.planeHulls
set_option linter.unusedSectionVars false
set_option linter.unusedSimpArgs false
set_option linter.unusedVariables false
open Go.ChangeShapes Go.WideShapes Go.ChangeAt Go.RowKit
theorem walk (v0:Value) (l0:List (El .pt)) (W:World) (s0:Rel E (fun b=>b < W.heap.size) (fun _=>none) W (.lst .pt l0) v0) :
    Calls Try.prog 8 #[v0] W fun e W'=>e = .returned (.bool true)∧Below W.heap.size W W':=by
  refine ((lawHulls.spec l0).2.2 (fun b=>b < W.heap.size) W _ (fun _ h=>h) trivial ⟨rfl,fun i c v hc hv => ?_⟩).mono ?_
  · match i, hc, hv with
    | 0,hc,hv=>cases hc; cases hv; exact s0
  · rintro e w' ⟨v, S', ρ', rfl, hst, _, hr⟩
    cases hr
    exact ⟨rfl,hst.below⟩
set_option maxRecDepth 100000 in
theorem lifted (os:Os) (started:os.Started) (H:Type) (enc:TypeId×Value→H) :
    ReturnsInHanded {} Try.checked os 8 .any (Rows.planeHullsSpec.pre6 enc Try.prog Try.f8 Rows.planeHullsRow.domain false) (Rows.planeHullsSpec.post enc Try.prog Try.f8 false true false false):=by
  refine returnsInHanded_of_change (C:=Try.checked) own started (by kernel_rfl) Try.func8
    (ChangeSpec.witness6 (enc:=enc) (C:=Try.checked) false ⟨#[],#[.slice none 0 0],[]⟩ 8 (by kernel_rfl) (by kernel_rfl) (by kernel_rfl) (by kernel_rfl)) ?_
  intro W base args ds gs before hval0 hW hcnd _
  have hval:∀ (j:Nat) t v,Try.f8.params[j]? = some t→args[j]? = some v→Value.okWide Try.prog W .any base t v:=hval0
  have hW':=hW
  obtain ⟨p,q,hA0,hV,rfl,hfz,hnd⟩:=hW
  have hA:DataW.TrodAll enc Try.prog W 0 (fun _=>true) true Try.f8.params.toList args.toList ds p:=hA0
  rw [Try.params8] at hA hval
  obtain ⟨v0,vs0,d0,ds0,p0,q0,hargs,rfl,rfl,h0,r0⟩:=trodAll_cons hA
  obtain ⟨rfl,rfl,rfl⟩:=trodAll_nil r0
  obtain rfl:args=#[v0]:=by cases args; simp_all
  obtain ⟨rfl,rfl⟩:=trodVars_none hV
  obtain ⟨l0,s0⟩:=openL reads_pt (by decide) (fun _=>rfl) Try.underlying33 (by kernel_rfl) (hval 0 33 v0 rfl rfl) h0
  clear hA0 hval0
  simp only [List.append_nil] at hW'
  have hlt:∀ x∈p0,x.block < W.heap.size:=fun x hx=>by simpa using hW'.lt x (by simpa using hx)
  refine (walk v0 l0 W s0).mono fun e W' ⟨he,hB⟩ => ?_
  subst he
  refine ⟨_,rfl,_,_,_,[],_,[],hW',trodAll_mk1 (shut_bool Try.underlying4 _),trodAll_cons_mk (Below.trod laidOut (by kernel_rfl) (of_decide_eq_true (by kernel_rfl)) h0 hB (fun x hx=>hlt x (by simp [hx]))) (trodAll_mk0),rfl,hB.frame _,fun h=>by cases h⟩
theorem over:Rows.planeHullsRow.holds Try.pinned (OpenSpec.ofChange Rows.planeHullsSpec) :=
  OpenClaim.holds_of_wide 8 Try.f8 rfl rfl rfl rfl rfl rfl rfl ⟨rfl,rfl,rfl,rfl,rfl⟩ rfl rfl rfl rfl rfl (by kernel_rfl) Try.func8 (by kernel_rfl)
    (of_decide_eq_true (by kernel_rfl)) (by unfold Func.isWrapper; rw [if_neg (of_decide_eq_false (by kernel_rfl))]; exact ⟨rfl,rfl⟩)
    (fun os started H enc _=>lifted os started H enc)
theorem proved:Rows.PlaneHullsSaid :=
  over
#print axioms proved
end Go.Proofs.Ytcabnkclelgoeaa.planeHulls
