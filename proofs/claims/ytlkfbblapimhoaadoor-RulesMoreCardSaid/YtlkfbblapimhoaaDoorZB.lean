/- The law RulesMore: for any arguments whatever it returns true, and its arguments read as they did. Conditions: none beyond the card's own (the tables of the standard library read as their initialisers lay them). -/
import Derived.Test.YtlkfbblapimhoaaDoorVE
import Derived.Test.YtlkfbblapimhoaaDoorFR
namespace Go.Proofs.YtlkfbblapimhoaaDoor.rulesMore
set_option linter.unusedSectionVars false
set_option linter.unusedSimpArgs false
set_option linter.unusedVariables false
open Go.ChangeShapes Go.WideShapes Go.ChangeAt Go.RowKit
theorem walk (v0:Value) (l0:List (El .rule)) (v1:Value) (l1:El .rule) (v2:Value) (l2:El .cnd) (v3:Value) (l3:List (El .str)) (v4:Value) (l4:List (El .int)) (v5:Value) (l5:List UInt8) (v6:Value) (l6:List UInt8) (W:World) (hG:E.G W) (s0:Rel E (fun b=>b < W.heap.size) (fun _=>none) W (.lst .rule l0) v0) (s1:Rel E (fun b=>b < W.heap.size) (fun _=>none) W (.agg (E.enc .rule l1)) v1) (s2:Rel E (fun b=>b < W.heap.size) (fun _=>none) W (.agg (E.enc .cnd l2)) v2) (s3:Rel E (fun b=>b < W.heap.size) (fun _=>none) W (.lst .str l3) v3) (s4:Rel E (fun b=>b < W.heap.size) (fun _=>none) W (.lst .int l4) v4) (s5:Rel E (fun b=>b < W.heap.size) (fun _=>none) W (.str l5) v5) (s6:Rel E (fun b=>b < W.heap.size) (fun _=>none) W (.str l6) v6) :
    Calls Tryd.prog 5 #[v0,v1,v2,v3,v4,v5,v6] W fun e W'=>e = .returned (.bool true)∧Below W.heap.size W W':=by
  refine ((lawMore.spec l0 l1 l2 l3 l4 l5 l6).2.2 (fun b=>b < W.heap.size) W _ (fun _ h=>h) hG ⟨rfl,fun i c v hc hv => ?_⟩).mono ?_
  · match i, hc, hv with
    | 0,hc,hv=>cases hc; cases hv; exact s0
    | 1,hc,hv=>cases hc; cases hv; exact s1
    | 2,hc,hv=>cases hc; cases hv; exact s2
    | 3,hc,hv=>cases hc; cases hv; exact s3
    | 4,hc,hv=>cases hc; cases hv; exact s4
    | 5,hc,hv=>cases hc; cases hv; exact s5
    | 6,hc,hv=>cases hc; cases hv; exact s6
  · rintro e w' ⟨v, S', ρ', rfl, hst, _, hr⟩
    cases hr
    exact ⟨rfl,hst.below⟩
theorem door_met (os:Os) (args:Array Value):laidMetH Tryd.prog laidAll ((World.doorLaid Tryd.prog 400 os).forCall (fun _ _=>0) ⟨#[],args,[]⟩).memory :=
  laidMetH_of_parts3 (fuel:=8) (laidMet_of_run' 8 (by kernel_rfl) (by kernel_rfl)) (by kernel_rfl) (by kernel_rfl)
set_option maxRecDepth 100000 in
theorem lifted (os:Os) (started:os.Started) (H:Type) (enc:TypeId×Value→H) :
    ReturnsInHanded {} Tryd.checked os 5 .any (fun w args=>(Rows.rulesMoreSpec.pre enc Tryd.prog Tryd.f5 [] false w args∧laidMetH Tryd.prog laidAll w)∧sizedMet enc Tryd.prog Tryd.f5 (OpenSpec.ofChange Rows.rulesMoreSpec) false w args)
      (Rows.rulesMoreSpec.post enc Tryd.prog Tryd.f5 false true false false):=by
  refine returnsInHanded_of_change_and (C:=Tryd.checked) (X:=fun w _=>laidMetH Tryd.prog laidAll w) (fun _ _ _ hh h=>h.of_heap hh) own started (by kernel_rfl) Tryd.func5
    (ChangeSpec.witness_shaped (enc:=enc) (C:=Tryd.checked) (os:=os) (X:=fun w _=>laidMetH Tryd.prog laidAll w) false (World.doorLaid Tryd.prog 400 os) #[.slice none 0 0,.agg #[.string ⟨#[]⟩,.slice none 0 0,.string ⟨#[]⟩,.int .i64 0],.agg #[.string ⟨#[]⟩,.bool false,.int .i64 0],.slice none 0 0,.slice none 0 0,.string ⟨#[]⟩,.string ⟨#[]⟩] 8 rfl (World.shaped_of_RefB (by kernel_rfl) (by kernel_rfl)) (by kernel_rfl) (by kernel_rfl) (by kernel_rfl) (door_met os _)) ?_
  intro W base args ds gs before hval0 hW _ _ hL _
  have hval:∀ (j:Nat) t v,Tryd.f5.params[j]? = some t→args[j]? = some v→Value.okWide Tryd.prog W .any base t v:=hval0
  have hW':=hW
  obtain ⟨p,q,hA0,hV,rfl,hfz,hnd⟩:=hW
  have hA:DataW.TrodAll enc Tryd.prog W 0 (fun _=>true) true Tryd.f5.params.toList args.toList ds p:=hA0
  rw [Tryd.params5] at hA hval
  obtain ⟨v0,vs0,d0,ds0,p0,q0,hargs,rfl,rfl,h0,r0⟩:=trodAll_cons hA
  obtain ⟨v1,vs1,d1,ds1,p1,q1,rfl,rfl,rfl,h1,r1⟩:=trodAll_cons r0
  obtain ⟨v2,vs2,d2,ds2,p2,q2,rfl,rfl,rfl,h2,r2⟩:=trodAll_cons r1
  obtain ⟨v3,vs3,d3,ds3,p3,q3,rfl,rfl,rfl,h3,r3⟩:=trodAll_cons r2
  obtain ⟨v4,vs4,d4,ds4,p4,q4,rfl,rfl,rfl,h4,r4⟩:=trodAll_cons r3
  obtain ⟨v5,vs5,d5,ds5,p5,q5,rfl,rfl,rfl,h5,r5⟩:=trodAll_cons r4
  obtain ⟨v6,vs6,d6,ds6,p6,q6,rfl,rfl,rfl,h6,r6⟩:=trodAll_cons r5
  obtain ⟨rfl,rfl,rfl⟩:=trodAll_nil r6
  obtain rfl:args=#[v0,v1,v2,v3,v4,v5,v6]:=by cases args; simp_all
  obtain ⟨rfl,rfl⟩:=trodVars_none hV
  obtain ⟨l0,s0⟩:=openL reads_rule (by decide) (fun _=>rfl) Tryd.underlying40 (by kernel_rfl) (hval 0 40 v0 rfl rfl) h0
  obtain ⟨l1,s1⟩:=openS reads_rule (fun _=>rfl) Tryd.underlying24 (by kernel_rfl) (hval 1 24 v1 rfl rfl) h1
  obtain ⟨l2,s2⟩:=openS reads_cnd (fun _=>rfl) Tryd.underlying38 (by kernel_rfl) (hval 2 38 v2 rfl rfl) h2
  obtain ⟨l3,s3⟩:=openL reads_str (by decide) (fun _=>rfl) Tryd.underlying25 (by kernel_rfl) (hval 3 25 v3 rfl rfl) h3
  obtain ⟨l4,s4⟩:=openL reads_int (by decide) (fun _=>rfl) Tryd.underlying26 (by kernel_rfl) (hval 4 26 v4 rfl rfl) h4
  obtain ⟨l5,s5⟩:=openStr Tryd.underlying9 (hval 5 9 v5 rfl rfl) h5
  obtain ⟨l6,s6⟩:=openStr Tryd.underlying9 (hval 6 9 v6 rfl rfl) h6
  clear hA0 hval0
  simp only [List.append_nil] at hW'
  have hlt:∀ x∈p0++(p1++(p2++(p3++(p4++(p5++p6))))),x.block < W.heap.size:=fun x hx=>by simpa using hW'.lt x (by simpa using hx)
  refine (walk v0 l0 v1 l1 v2 l2 v3 l3 v4 l4 v5 l5 v6 l6 W (of_laid hL) s0 s1 s2 s3 s4 s5 s6).mono fun e W' ⟨he,hB⟩ => ?_
  subst he
  refine ⟨_,rfl,_,_,_,[],_,[],hW',trodAll_mk1 (shut_bool Tryd.underlying4 _),trodAll_cons_mk (Below.trod laidOut (by kernel_rfl) (of_decide_eq_true (by kernel_rfl)) h0 hB (fun x hx=>hlt x (by simp [hx]))) (trodAll_cons_mk (Below.trod laidOut (by kernel_rfl) (of_decide_eq_true (by kernel_rfl)) h1 hB (fun x hx=>hlt x (by simp [hx]))) (trodAll_cons_mk (Below.trod laidOut (by kernel_rfl) (of_decide_eq_true (by kernel_rfl)) h2 hB (fun x hx=>hlt x (by simp [hx]))) (trodAll_cons_mk (Below.trod laidOut (by kernel_rfl) (of_decide_eq_true (by kernel_rfl)) h3 hB (fun x hx=>hlt x (by simp [hx]))) (trodAll_cons_mk (Below.trod laidOut (by kernel_rfl) (of_decide_eq_true (by kernel_rfl)) h4 hB (fun x hx=>hlt x (by simp [hx]))) (trodAll_cons_mk (Below.trod laidOut (by kernel_rfl) (of_decide_eq_true (by kernel_rfl)) h5 hB (fun x hx=>hlt x (by simp [hx]))) (trodAll_cons_mk (Below.trod laidOut (by kernel_rfl) (of_decide_eq_true (by kernel_rfl)) h6 hB (fun x hx=>hlt x (by simp [hx]))) (trodAll_mk0))))))),rfl,hB.frame _,fun h=>by cases h⟩
theorem over:Rows.RulesMoreSaid :=
  OpenClaim.holds_of_wide 5 Tryd.f5 rfl rfl rfl rfl rfl rfl rfl ⟨rfl,rfl,rfl,rfl,rfl⟩ rfl rfl rfl rfl rfl (by kernel_rfl) Tryd.func5 (by kernel_rfl)
    (of_decide_eq_true (by kernel_rfl)) (by unfold Func.isWrapper; rw [if_neg (of_decide_eq_false (by kernel_rfl))]; exact ⟨rfl,rfl⟩)
    (fun os started H enc _=>lifted os started H enc)
theorem proved : Rows.RulesMoreCardSaid :=
  Claim7.holds_tied_plain_at .later [] [.data, .data, .data, .sentinel, .sentinel] true (true, "88b41780ecc95b33fa3d9354759bbc45c08f2a5f34fd624a320a5cecb8257ee2") true
    over (fun _ h=>by cases h) (by kernel_rfl) (fun _ h=>by cases h) rulesMore_row_tie rfl ⟨rfl,rfl⟩ (by kernel_rfl) rfl
    (fun f fn hf hfn=>by
      obtain rfl : f = 5 := Option.some.inj ((show Tryd.prog.funcNamed "sewershed/sewershedlaw41.RulesMore" = some 5 by kernel_rfl).symm.trans hf) |>.symm
      obtain rfl:fn=Tryd.f5:=(Option.some.inj (Tryd.func5.symm.trans hfn)).symm
      exact ⟨by kernel_rfl,fun j t ht=>by
        rw [Tryd.params5] at ht
        have hall:(Tryd.f5.params.toList.all fun u => !Tryd.prog.wantsStandIn u)=true:=by kernel_rfl
        rw [Tryd.params5] at hall
        have hm:=Array.mem_of_getElem? ht
        exact (show Tryd.prog.wantsStandIn t=false by simpa using List.all_eq_true.1 hall t (by simpa using hm))⟩)
    (by kernel_rfl)
#print axioms proved
end Go.Proofs.YtlkfbblapimhoaaDoor.rulesMore
