/- The law RulesSimpler: for any arguments whatever it returns true, and its arguments read as they did. Conditions: none beyond the card's own (the tables of the standard library read as their initialisers lay them). -/
import Derived.Test.YtlkfbblapimhoaaDoorVSm
import Derived.Test.YtlkfbblapimhoaaDoorFR
namespace Go.Proofs.YtlkfbblapimhoaaDoor.rulesSimpler
set_option linter.unusedSectionVars false
set_option linter.unusedSimpArgs false
set_option linter.unusedVariables false
open Go.ChangeShapes Go.WideShapes Go.ChangeAt Go.RowKit
theorem walk (v0:Value) (l0:El .rule) (v1:Value) (l1:List (El .str)) (v2:Value) (l2:List (El .int)) (W:World) (hG:E.G W) (s0:Rel E (fun b=>b < W.heap.size) (fun _=>none) W (.agg (E.enc .rule l0)) v0) (s1:Rel E (fun b=>b < W.heap.size) (fun _=>none) W (.lst .str l1) v1) (s2:Rel E (fun b=>b < W.heap.size) (fun _=>none) W (.lst .int l2) v2) :
    Calls Tryd.prog 3 #[v0,v1,v2] W fun e W'=>e = .returned (.bool true)∧Below W.heap.size W W':=by
  refine ((lawSimpler.spec l0 l1 l2).2.2 (fun b=>b < W.heap.size) W _ (fun _ h=>h) hG ⟨rfl,fun i c v hc hv => ?_⟩).mono ?_
  · match i, hc, hv with
    | 0,hc,hv=>cases hc; cases hv; exact s0
    | 1,hc,hv=>cases hc; cases hv; exact s1
    | 2,hc,hv=>cases hc; cases hv; exact s2
  · rintro e w' ⟨v, S', ρ', rfl, hst, _, hr⟩
    cases hr
    exact ⟨rfl,hst.below⟩
theorem door_met (os:Os) (args:Array Value):laidMetH Tryd.prog laidAll ((World.doorLaid Tryd.prog 400 os).forCall (fun _ _=>0) ⟨#[],args,[]⟩).memory :=
  laidMetH_of_parts3 (fuel:=8) (laidMet_of_run' 8 (by kernel_rfl) (by kernel_rfl)) (by kernel_rfl) (by kernel_rfl)
set_option maxRecDepth 100000 in
theorem lifted (os:Os) (started:os.Started) (H:Type) (enc:TypeId×Value→H) :
    ReturnsInHanded {} Tryd.checked os 3 .any (fun w args=>(Rows.rulesSimplerSpec.pre enc Tryd.prog Tryd.f3 [] false w args∧laidMetH Tryd.prog laidAll w)∧sizedMet enc Tryd.prog Tryd.f3 (OpenSpec.ofChange Rows.rulesSimplerSpec) false w args)
      (Rows.rulesSimplerSpec.post enc Tryd.prog Tryd.f3 false true false false):=by
  refine returnsInHanded_of_change_and (C:=Tryd.checked) (X:=fun w _=>laidMetH Tryd.prog laidAll w) (fun _ _ _ hh h=>h.of_heap hh) own started (by kernel_rfl) Tryd.func3
    (ChangeSpec.witness_shaped (enc:=enc) (C:=Tryd.checked) (os:=os) (X:=fun w _=>laidMetH Tryd.prog laidAll w) false (World.doorLaid Tryd.prog 400 os) #[.agg #[.string ⟨#[]⟩,.slice none 0 0,.string ⟨#[]⟩,.int .i64 0],.slice none 0 0,.slice none 0 0] 8 rfl (World.shaped_of_RefB (by kernel_rfl) (by kernel_rfl)) (by kernel_rfl) (by kernel_rfl) (by kernel_rfl) (door_met os _)) ?_
  intro W base args ds gs before hval0 hW _ _ hL _
  have hval:∀ (j:Nat) t v,Tryd.f3.params[j]? = some t→args[j]? = some v→Value.okWide Tryd.prog W .any base t v:=hval0
  have hW':=hW
  obtain ⟨p,q,hA0,hV,rfl,hfz,hnd⟩:=hW
  have hA:DataW.TrodAll enc Tryd.prog W 0 (fun _=>true) true Tryd.f3.params.toList args.toList ds p:=hA0
  rw [Tryd.params3] at hA hval
  obtain ⟨v0,vs0,d0,ds0,p0,q0,hargs,rfl,rfl,h0,r0⟩:=trodAll_cons hA
  obtain ⟨v1,vs1,d1,ds1,p1,q1,rfl,rfl,rfl,h1,r1⟩:=trodAll_cons r0
  obtain ⟨v2,vs2,d2,ds2,p2,q2,rfl,rfl,rfl,h2,r2⟩:=trodAll_cons r1
  obtain ⟨rfl,rfl,rfl⟩:=trodAll_nil r2
  obtain rfl:args=#[v0,v1,v2]:=by cases args; simp_all
  obtain ⟨rfl,rfl⟩:=trodVars_none hV
  obtain ⟨l0,s0⟩:=openS reads_rule (fun _=>rfl) Tryd.underlying24 (by kernel_rfl) (hval 0 24 v0 rfl rfl) h0
  obtain ⟨l1,s1⟩:=openL reads_str (by decide) (fun _=>rfl) Tryd.underlying25 (by kernel_rfl) (hval 1 25 v1 rfl rfl) h1
  obtain ⟨l2,s2⟩:=openL reads_int (by decide) (fun _=>rfl) Tryd.underlying26 (by kernel_rfl) (hval 2 26 v2 rfl rfl) h2
  clear hA0 hval0
  simp only [List.append_nil] at hW'
  have hlt:∀ x∈p0++(p1++p2),x.block < W.heap.size:=fun x hx=>by simpa using hW'.lt x (by simpa using hx)
  refine (walk v0 l0 v1 l1 v2 l2 W (of_laid hL) s0 s1 s2).mono fun e W' ⟨he,hB⟩ => ?_
  subst he
  refine ⟨_,rfl,_,_,_,[],_,[],hW',trodAll_mk1 (shut_bool Tryd.underlying4 _),trodAll_cons_mk (Below.trod laidOut (by kernel_rfl) (of_decide_eq_true (by kernel_rfl)) h0 hB (fun x hx=>hlt x (by simp [hx]))) (trodAll_cons_mk (Below.trod laidOut (by kernel_rfl) (of_decide_eq_true (by kernel_rfl)) h1 hB (fun x hx=>hlt x (by simp [hx]))) (trodAll_cons_mk (Below.trod laidOut (by kernel_rfl) (of_decide_eq_true (by kernel_rfl)) h2 hB (fun x hx=>hlt x (by simp [hx]))) (trodAll_mk0))),rfl,hB.frame _,fun h=>by cases h⟩
theorem over:Rows.RulesSimplerSaid :=
  OpenClaim.holds_of_wide 3 Tryd.f3 rfl rfl rfl rfl rfl rfl rfl ⟨rfl,rfl,rfl,rfl,rfl⟩ rfl rfl rfl rfl rfl (by kernel_rfl) Tryd.func3 (by kernel_rfl)
    (of_decide_eq_true (by kernel_rfl)) (by unfold Func.isWrapper; rw [if_neg (of_decide_eq_false (by kernel_rfl))]; exact ⟨rfl,rfl⟩)
    (fun os started H enc _=>lifted os started H enc)
theorem proved : Rows.RulesSimplerCardSaid :=
  Claim7.holds_tied_plain_at .later [] [.data, .data, .data, .sentinel, .sentinel] true (true, "88b41780ecc95b33fa3d9354759bbc45c08f2a5f34fd624a320a5cecb8257ee2") true
    over (fun _ h=>by cases h) (by kernel_rfl) (fun _ h=>by cases h) rulesSimpler_row_tie rfl ⟨rfl,rfl⟩ (by kernel_rfl) rfl
    (fun f fn hf hfn=>by
      obtain rfl : f = 3 := Option.some.inj ((show Tryd.prog.funcNamed "sewershed/sewershedlaw41.RulesSimpler" = some 3 by kernel_rfl).symm.trans hf) |>.symm
      obtain rfl:fn=Tryd.f3:=(Option.some.inj (Tryd.func3.symm.trans hfn)).symm
      exact ⟨by kernel_rfl,fun j t ht=>by
        rw [Tryd.params3] at ht
        have hall:(Tryd.f3.params.toList.all fun u => !Tryd.prog.wantsStandIn u)=true:=by kernel_rfl
        rw [Tryd.params3] at hall
        have hm:=Array.mem_of_getElem? ht
        exact (show Tryd.prog.wantsStandIn t=false by simpa using List.all_eq_true.1 hall t (by simpa using hm))⟩)
    (by kernel_rfl)
#print axioms proved
end Go.Proofs.YtlkfbblapimhoaaDoor.rulesSimpler
