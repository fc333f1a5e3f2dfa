/- The law TelemetryPunctual: for any arguments whatever it returns true, and its arguments read as they did. Conditions: none. -/
import Derived.Test.YtkeplmpcijigaaaVP
import Derived.Test.YtkeplmpcijigaaaFR
namespace Go.Proofs.Ytkeplmpcijigaaa.telemetryPunctual
set_option linter.unusedSectionVars false
set_option linter.unusedSimpArgs false
set_option linter.unusedVariables false
instance drwZ:Drw:=drwT
open Go.ChangeShapes Go.WideShapes Go.ChangeAt Go.RowKit
theorem walk (n0:Int) (w0:(Lit.int .u16 n0).wf=true) (v1:Value) (l1:List (El .msg)) (W:World) (s1:Rel E (fun b=>b < W.heap.size) (fun _=>none) W (.lst .msg l1) v1) :
    Calls Try.prog 6 #[.int .u16 n0,v1] W fun e W'=>e = .returned (.bool true)∧Below W.heap.size W W':=by
  refine ((lawPunct.spec n0 l1 w0).2.2 (fun b=>b < W.heap.size) W _ (fun _ h=>h) trivial ⟨rfl,fun i c v hc hv => ?_⟩).mono ?_
  · match i, hc, hv with
    | 0,hc,hv=>cases hc; cases hv; exact .int _ _
    | 1,hc,hv=>cases hc; cases hv; exact s1
  · rintro e w' ⟨v, S', ρ', rfl, hst, _, hr⟩
    cases hr
    exact ⟨rfl,hst.below⟩
set_option maxRecDepth 100000 in
theorem lifted (os:Os) (started:os.Started) (H:Type) (enc:TypeId×Value→H) :
    ReturnsInHanded {} Try.checked os 6 .any (Rows.telemetryPunctualSpec.pre6 enc Try.prog Try.f6 Rows.telemetryPunctualRow.domain false) (Rows.telemetryPunctualSpec.post enc Try.prog Try.f6 false true false false):=by
  refine returnsInHanded_of_change (C:=Try.checked) own started (by kernel_rfl) Try.func6
    (ChangeSpec.witness6 (enc:=enc) (C:=Try.checked) false ⟨#[],#[.int .u16 0,.slice none 0 0],[]⟩ 8 (by kernel_rfl) (by kernel_rfl) (by kernel_rfl) (by kernel_rfl)) ?_
  intro W base args ds gs before hval0 hW hcnd _
  have hval:∀ (j:Nat) t v,Try.f6.params[j]? = some t→args[j]? = some v→Value.okWide Try.prog W .any base t v:=hval0
  have hW':=hW
  obtain ⟨p,q,hA0,hV,rfl,hfz,hnd⟩:=hW
  have hA:DataW.TrodAll enc Try.prog W 0 (fun _=>true) true Try.f6.params.toList args.toList ds p:=hA0
  rw [Try.params6] at hA hval
  obtain ⟨v0,vs0,d0,ds0,p0,q0,hargs,rfl,rfl,h0,r0⟩:=trodAll_cons hA
  obtain ⟨v1,vs1,d1,ds1,p1,q1,rfl,rfl,rfl,h1,r1⟩:=trodAll_cons r0
  obtain ⟨rfl,rfl,rfl⟩:=trodAll_nil r1
  obtain rfl:args=#[v0,v1]:=by cases args; simp_all
  obtain ⟨rfl,rfl⟩:=trodVars_none hV
  obtain ⟨n0,rfl,w0⟩:=openInt Try.underlying48 (hval 0 48 v0 rfl rfl) h0
  obtain ⟨l1,s1⟩:=openL reads_msg (by decide) (fun _=>rfl) Try.underlying22 (by kernel_rfl) (hval 1 22 v1 rfl rfl) h1
  clear hA0 hval0
  simp only [List.append_nil] at hW'
  have hlt:∀ x∈p0++p1,x.block < W.heap.size:=fun x hx=>by simpa using hW'.lt x (by simpa using hx)
  refine (walk n0 w0 v1 l1 W s1).mono fun e W' ⟨he,hB⟩ => ?_
  subst he
  refine ⟨_,rfl,_,_,_,[],_,[],hW',trodAll_mk1 (shut_bool Try.underlying4 _),trodAll_cons_mk (Below.trod laidOut (by kernel_rfl) (of_decide_eq_true (by kernel_rfl)) h0 hB (fun x hx=>hlt x (by simp [hx]))) (trodAll_cons_mk (Below.trod laidOut (by kernel_rfl) (of_decide_eq_true (by kernel_rfl)) h1 hB (fun x hx=>hlt x (by simp [hx]))) (trodAll_mk0)),rfl,hB.frame _,fun h=>by cases h⟩
theorem over:Rows.telemetryPunctualRow.holds Try.pinned (OpenSpec.ofChange Rows.telemetryPunctualSpec) :=
  OpenClaim.holds_of_wide 6 Try.f6 rfl rfl rfl rfl rfl rfl rfl ⟨rfl,rfl,rfl,rfl,rfl⟩ rfl rfl rfl rfl rfl (by kernel_rfl) Try.func6 (by kernel_rfl)
    (of_decide_eq_true (by kernel_rfl)) (by unfold Func.isWrapper; rw [if_neg (of_decide_eq_false (by kernel_rfl))]; exact ⟨rfl,rfl⟩)
    (fun os started H enc _=>lifted os started H enc)
theorem proved:Rows.TelemetryPunctualSaid :=
  over
#print axioms proved
end Go.Proofs.Ytkeplmpcijigaaa.telemetryPunctual
