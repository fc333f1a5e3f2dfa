/- The law TelemetryShuffled: for any arguments whatever it returns true, and its arguments read as they did. Conditions: none. -/
import Derived.Test.YtkeplmpcijigaaaVWl
import Derived.Test.YtkeplmpcijigaaaFR
namespace Go.Proofs.Ytkeplmpcijigaaa.telemetryShuffled
set_option linter.unusedSectionVars false
set_option linter.unusedSimpArgs false
set_option linter.unusedVariables false
open Go.ChangeShapes Go.WideShapes Go.ChangeAt Go.RowKit

theorem walk (v0 : Value) (l0 : List (El .msg)) (v1 : Value) (l1 : List (El .u8)) (v2 : Value) (l2 : List UInt8) (n3 : Int) (n4 : Int) (n5 : Int) (n6 : Int) (W : World) (s0 : Rel E (fun b => b < W.heap.size) (fun _ => none) W (.lst .msg l0) v0) (s1 : Rel E (fun b => b < W.heap.size) (fun _ => none) W (.lst .u8 l1) v1) (s2 : Rel E (fun b => b < W.heap.size) (fun _ => none) W (.str l2) v2) :
    Calls Try.prog 7 #[v0, v1, v2, .int .i64 n3, .int .i64 n4, .int .i64 n5, .int .i64 n6] W fun e W' => e = .returned (.bool true) ∧ Below W.heap.size W W' := by
  refine ((lawShuf.spec l0 l1 l2 n3 n4 n5 n6).2.2 (fun b => b < W.heap.size) W _ (fun _ h => h) trivial ⟨rfl, fun i c v hc hv => ?_⟩).mono ?_
  · match i, hc, hv with
    | 0, hc, hv => cases hc; cases hv; exact s0
    | 1, hc, hv => cases hc; cases hv; exact s1
    | 2, hc, hv => cases hc; cases hv; exact s2
    | 3, hc, hv => cases hc; cases hv; exact .int _ _
    | 4, hc, hv => cases hc; cases hv; exact .int _ _
    | 5, hc, hv => cases hc; cases hv; exact .int _ _
    | 6, hc, hv => cases hc; cases hv; exact .int _ _
  · rintro e w' ⟨v, S', ρ', rfl, hst, _, hr⟩
    cases hr
    exact ⟨rfl, hst.below⟩

set_option maxRecDepth 100000 in
theorem lifted (os : Os) (started : os.Started) (H : Type) (enc : TypeId × Value → H) :
    ReturnsInHanded {} Try.checked os 7 .any (Rows.telemetryShuffledSpec.pre6 enc Try.prog Try.f7 Rows.telemetryShuffledRow.domain false) (Rows.telemetryShuffledSpec.post enc Try.prog Try.f7 false true false false) := by
  refine returnsInHanded_of_change (C := Try.checked) own started (by kernel_rfl) Try.func7
    (ChangeSpec.witness6 (enc := enc) (C := Try.checked) false ⟨#[], #[.slice none 0 0, .slice none 0 0, .string ⟨#[]⟩, .int .i64 0, .int .i64 0, .int .i64 0, .int .i64 0], []⟩ 8 (by kernel_rfl) (by kernel_rfl) (by kernel_rfl) (by kernel_rfl)) ?_
  intro W base args ds gs before hval0 hW hcnd _
  have hval : ∀ (j : Nat) t v, Try.f7.params[j]? = some t → args[j]? = some v → Value.okWide Try.prog W .any base t v := hval0
  have hW' := hW
  obtain ⟨p, q, hA0, hV, rfl, hfz, hnd⟩ := hW
  have hA : DataW.TrodAll enc Try.prog W 0 (fun _ => true) true Try.f7.params.toList args.toList ds p := hA0
  rw [Try.params7] at hA hval
  obtain ⟨v0, vs0, d0, ds0, p0, q0, hargs, rfl, rfl, h0, r0⟩ := trodAll_cons hA
  obtain ⟨v1, vs1, d1, ds1, p1, q1, rfl, rfl, rfl, h1, r1⟩ := trodAll_cons r0
  obtain ⟨v2, vs2, d2, ds2, p2, q2, rfl, rfl, rfl, h2, r2⟩ := trodAll_cons r1
  obtain ⟨v3, vs3, d3, ds3, p3, q3, rfl, rfl, rfl, h3, r3⟩ := trodAll_cons r2
  obtain ⟨v4, vs4, d4, ds4, p4, q4, rfl, rfl, rfl, h4, r4⟩ := trodAll_cons r3
  obtain ⟨v5, vs5, d5, ds5, p5, q5, rfl, rfl, rfl, h5, r5⟩ := trodAll_cons r4
  obtain ⟨v6, vs6, d6, ds6, p6, q6, rfl, rfl, rfl, h6, r6⟩ := trodAll_cons r5
  obtain ⟨rfl, rfl, rfl⟩ := trodAll_nil r6
  obtain rfl : args = #[v0, v1, v2, v3, v4, v5, v6] := by cases args; simp_all
  obtain ⟨rfl, rfl⟩ := trodVars_none hV
  obtain ⟨l0, s0⟩ := open_msg (hval 0 22 v0 rfl rfl) h0
  obtain ⟨l1, s1⟩ := open_u8 (hval 1 55 v1 rfl rfl) h1
  obtain ⟨l2, s2⟩ := openStr Try.underlying9 (hval 2 9 v2 rfl rfl) h2
  obtain ⟨n3, rfl, w3⟩ := openInt Try.underlying3 (hval 3 3 v3 rfl rfl) h3
  obtain ⟨n4, rfl, w4⟩ := openInt Try.underlying3 (hval 4 3 v4 rfl rfl) h4
  obtain ⟨n5, rfl, w5⟩ := openInt Try.underlying3 (hval 5 3 v5 rfl rfl) h5
  obtain ⟨n6, rfl, w6⟩ := openInt Try.underlying3 (hval 6 3 v6 rfl rfl) h6
  clear hA0 hval0
  simp only [List.append_nil] at hW'
  have hlt : ∀ x ∈ p0 ++ (p1 ++ (p2 ++ (p3 ++ (p4 ++ (p5 ++ p6))))), x.block < W.heap.size := fun x hx => by simpa using hW'.lt x (by simpa using hx)
  refine (walk v0 l0 v1 l1 v2 l2 n3 n4 n5 n6 W s0 s1 s2).mono fun e W' ⟨he, hB⟩ => ?_
  subst he
  refine ⟨_, rfl, _, _, _, [], _, [], hW', trodAll_mk1 (shut_bool Try.underlying4 _), trodAll_cons_mk (Below.trod laidOut (by kernel_rfl) (of_decide_eq_true (by kernel_rfl)) h0 hB (fun x hx => hlt x (by simp [hx]))) (trodAll_cons_mk (Below.trod laidOut (by kernel_rfl) (of_decide_eq_true (by kernel_rfl)) h1 hB (fun x hx => hlt x (by simp [hx]))) (trodAll_cons_mk (Below.trod laidOut (by kernel_rfl) (of_decide_eq_true (by kernel_rfl)) h2 hB (fun x hx => hlt x (by simp [hx]))) (trodAll_cons_mk (Below.trod laidOut (by kernel_rfl) (of_decide_eq_true (by kernel_rfl)) h3 hB (fun x hx => hlt x (by simp [hx]))) (trodAll_cons_mk (Below.trod laidOut (by kernel_rfl) (of_decide_eq_true (by kernel_rfl)) h4 hB (fun x hx => hlt x (by simp [hx]))) (trodAll_cons_mk (Below.trod laidOut (by kernel_rfl) (of_decide_eq_true (by kernel_rfl)) h5 hB (fun x hx => hlt x (by simp [hx]))) (trodAll_cons_mk (Below.trod laidOut (by kernel_rfl) (of_decide_eq_true (by kernel_rfl)) h6 hB (fun x hx => hlt x (by simp [hx]))) (trodAll_mk0))))))), rfl, hB.frame _, fun h => by cases h⟩

theorem over : Rows.telemetryShuffledRow.holds Try.pinned (OpenSpec.ofChange Rows.telemetryShuffledSpec) :=
  OpenClaim.holds_of_wide 7 Try.f7 rfl rfl rfl rfl rfl rfl rfl ⟨rfl, rfl, rfl, rfl, rfl⟩ rfl rfl rfl rfl rfl (by kernel_rfl) Try.func7 (by kernel_rfl)
    (of_decide_eq_true (by kernel_rfl)) (by unfold Func.isWrapper; rw [if_neg (of_decide_eq_false (by kernel_rfl))]; exact ⟨rfl, rfl⟩)
    (fun os started H enc _ => lifted os started H enc)

theorem proved : Rows.TelemetryShuffledSaid :=
  over
#print axioms proved
end Go.Proofs.Ytkeplmpcijigaaa.telemetryShuffled
