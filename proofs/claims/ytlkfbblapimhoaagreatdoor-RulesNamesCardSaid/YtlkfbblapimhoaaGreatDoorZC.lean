/- The law RulesNames: for any arguments whatever it returns true, and its arguments read as they did. Conditions: none beyond the card's own (the tables of the standard library read as their initialisers lay them). -/
import Derived.Test.YtlkfbblapimhoaaGreatDoorVNm
import Derived.Test.YtlkfbblapimhoaaGreatDoorFR
namespace Go.Proofs.YtlkfbblapimhoaaGreatDoor.rulesNames
set_option linter.unusedSectionVars false
set_option linter.unusedSimpArgs false
set_option linter.unusedVariables false
open Go.ChangeShapes Go.WideShapes Go.ChangeAt Go.RowKit
theorem walk (v0:Value) (l0:List (El .rule)) (v1:Value) (l1:List UInt8) (v2:Value) (l2:List UInt8) (v3:Value) (l3:El .rule) (W:World) (hG:E.G W) (s0:Rel E (fun b=>b < W.heap.size) (fun _=>none) W (.lst .rule l0) v0) (s1:Rel E (fun b=>b < W.heap.size) (fun _=>none) W (.str l1) v1) (s2:Rel E (fun b=>b < W.heap.size) (fun _=>none) W (.str l2) v2) (s3:Rel E (fun b=>b < W.heap.size) (fun _=>none) W (.agg (E.enc .rule l3)) v3) :
    Calls Tryz.prog 5 #[v0,v1,v2,v3] W fun e W'=>e = .returned (.bool true)∧Below W.heap.size W W':=by
  refine ((lawNames.spec l0 l1 l2 l3).2.2 (fun b=>b < W.heap.size) W _ (fun _ h=>h) hG ⟨rfl,fun i c v hc hv => ?_⟩).mono ?_
  · match i, hc, hv with
    | 0,hc,hv=>cases hc; cases hv; exact s0
    | 1,hc,hv=>cases hc; cases hv; exact s1
    | 2,hc,hv=>cases hc; cases hv; exact s2
    | 3,hc,hv=>cases hc; cases hv; exact s3
  · rintro e w' ⟨v, S', ρ', rfl, hst, _, hr⟩
    cases hr
    exact ⟨rfl,hst.below⟩
theorem door_met (os:Os) (args:Array Value):laidMetH Tryz.prog laidAll ((World.doorLaid Tryz.prog 400 os).forCall (fun _ _=>0) ⟨#[],args,[]⟩).memory :=
  laidMetH_of_parts3 (fuel:=8) (laidMet_of_run' 8 (by kernel_rfl) (by kernel_rfl)) (by kernel_rfl) (by kernel_rfl)
set_option maxRecDepth 100000 in
theorem lifted (os:Os) (started:os.Started) (H:Type) (enc:TypeId×Value→H) :
    ReturnsInHanded {} Tryz.checked os 5 .any (fun w args=>(Rows.rulesNamesSpec.pre enc Tryz.prog Tryz.f5 [] false w args∧laidMetH Tryz.prog laidAll w)∧sizedMet enc Tryz.prog Tryz.f5 (OpenSpec.ofChange Rows.rulesNamesSpec) false w args)
      (Rows.rulesNamesSpec.post enc Tryz.prog Tryz.f5 false true false false):=by
  refine returnsInHanded_of_change_and (C:=Tryz.checked) (X:=fun w _=>laidMetH Tryz.prog laidAll w) (fun _ _ _ hh h=>h.of_heap hh) own started (by kernel_rfl) Tryz.func5
    (ChangeSpec.witness_shaped (enc:=enc) (C:=Tryz.checked) (os:=os) (X:=fun w _=>laidMetH Tryz.prog laidAll w) false (World.doorLaid Tryz.prog 400 os) #[.slice none 0 0,.string ⟨#[]⟩,.string ⟨#[]⟩,.agg #[.string ⟨#[]⟩,.slice none 0 0,.string ⟨#[]⟩,.int .i64 0]] 8 rfl (World.shaped_of_RefB (by kernel_rfl) (by kernel_rfl)) (by kernel_rfl) (by kernel_rfl) (by kernel_rfl) (door_met os _)) ?_
  intro W base args ds gs before hval0 hW _ _ hL _
  have hval:∀ (j:Nat) t v,Tryz.f5.params[j]? = some t→args[j]? = some v→Value.okWide Tryz.prog W .any base t v:=hval0
  have hW':=hW
  obtain ⟨p,q,hA0,hV,rfl,hfz,hnd⟩:=hW
  have hA:DataW.TrodAll enc Tryz.prog W 0 (fun _=>true) true Tryz.f5.params.toList args.toList ds p:=hA0
  rw [Tryz.params5] at hA hval
  obtain ⟨v0,vs0,d0,ds0,p0,q0,hargs,rfl,rfl,h0,r0⟩:=trodAll_cons hA
  obtain ⟨v1,vs1,d1,ds1,p1,q1,rfl,rfl,rfl,h1,r1⟩:=trodAll_cons r0
  obtain ⟨v2,vs2,d2,ds2,p2,q2,rfl,rfl,rfl,h2,r2⟩:=trodAll_cons r1
  obtain ⟨v3,vs3,d3,ds3,p3,q3,rfl,rfl,rfl,h3,r3⟩:=trodAll_cons r2
  obtain ⟨rfl,rfl,rfl⟩:=trodAll_nil r3
  obtain rfl:args=#[v0,v1,v2,v3]:=by cases args; simp_all
  obtain ⟨rfl,rfl⟩:=trodVars_none hV
  obtain ⟨l0,s0⟩:=openL reads_rule (by decide) (fun _=>rfl) Tryz.underlying22 (by kernel_rfl) (hval 0 22 v0 rfl rfl) h0
  obtain ⟨l1,s1⟩:=openStr Tryz.underlying9 (hval 1 9 v1 rfl rfl) h1
  obtain ⟨l2,s2⟩:=openStr Tryz.underlying9 (hval 2 9 v2 rfl rfl) h2
  obtain ⟨l3,s3⟩:=openS reads_rule (fun _=>rfl) Tryz.underlying51 (by kernel_rfl) (hval 3 51 v3 rfl rfl) h3
  clear hA0 hval0
  simp only [List.append_nil] at hW'
  have hlt:∀ x∈p0++(p1++(p2++p3)),x.block < W.heap.size:=fun x hx=>by simpa using hW'.lt x (by simpa using hx)
  refine (walk v0 l0 v1 l1 v2 l2 v3 l3 W (of_laid hL) s0 s1 s2 s3).mono fun e W' ⟨he,hB⟩ => ?_
  subst he
  refine ⟨_,rfl,_,_,_,[],_,[],hW',trodAll_mk1 (shut_bool Tryz.underlying4 _),trodAll_cons_mk (Below.trod laidOut (by kernel_rfl) (of_decide_eq_true (by kernel_rfl)) h0 hB (fun x hx=>hlt x (by simp [hx]))) (trodAll_cons_mk (Below.trod laidOut (by kernel_rfl) (of_decide_eq_true (by kernel_rfl)) h1 hB (fun x hx=>hlt x (by simp [hx]))) (trodAll_cons_mk (Below.trod laidOut (by kernel_rfl) (of_decide_eq_true (by kernel_rfl)) h2 hB (fun x hx=>hlt x (by simp [hx]))) (trodAll_cons_mk (Below.trod laidOut (by kernel_rfl) (of_decide_eq_true (by kernel_rfl)) h3 hB (fun x hx=>hlt x (by simp [hx]))) (trodAll_mk0)))),rfl,hB.frame _,fun h=>by cases h⟩
theorem over:Rows.RulesNamesSaid :=
  OpenClaim.holds_of_wide 5 Tryz.f5 rfl rfl rfl rfl rfl rfl rfl ⟨rfl,rfl,rfl,rfl,rfl⟩ rfl rfl rfl rfl rfl (by kernel_rfl) Tryz.func5 (by kernel_rfl)
    (of_decide_eq_true (by kernel_rfl)) (by unfold Func.isWrapper; rw [if_neg (of_decide_eq_false (by kernel_rfl))]; exact ⟨rfl,rfl⟩)
    (fun os started H enc _=>lifted os started H enc)
theorem proved : Rows.RulesNamesCardSaid :=
  Claim7.holds_tied_plain_at .later [] [.data, .data, .data, .sentinel, .sentinel] true (true, "71bc5218e2188cf4e2c43f3dee66cf351f41eb86a9ce3ac25994e80b75f41de6") true
    over (fun _ h=>by cases h) (by kernel_rfl) (fun _ h=>by cases h) rulesNames_row_tie rfl ⟨rfl,rfl⟩ (by kernel_rfl) rfl
    (fun f fn hf hfn=>by
      obtain rfl : f = 5 := Option.some.inj ((show Tryz.prog.funcNamed "sewershed/sewershedlaw41.RulesNames" = some 5 by kernel_rfl).symm.trans hf) |>.symm
      obtain rfl:fn=Tryz.f5:=(Option.some.inj (Tryz.func5.symm.trans hfn)).symm
      exact ⟨by kernel_rfl,fun j t ht=>by
        rw [Tryz.params5] at ht
        have hall:(Tryz.f5.params.toList.all fun u => !Tryz.prog.wantsStandIn u)=true:=by kernel_rfl
        rw [Tryz.params5] at hall
        have hm:=Array.mem_of_getElem? ht
        exact (show Tryz.prog.wantsStandIn t=false by simpa using List.all_eq_true.1 hall t (by simpa using hm))⟩)
    (by kernel_rfl)
#print axioms proved
end Go.Proofs.YtlkfbblapimhoaaGreatDoor.rulesNames
