import Derived.Test.YtlkfbblapimhoaaGreatDoorLWF
import Derived.Test.YtlkfbblapimhoaaGreatDoorFR
import Derived.Lay
import Derived.LaidLaws
import Derived.FnData
namespace Go.Proofs.YtlkfbblapimhoaaGreatDoor.rulesForms
set_option linter.all false
open Go.ChangeShapes Go.WideShapes Go.ChangeAt Go.RowKit
abbrev laidAll : List (String × DataW Unit) := [("math/bits.deBruijn32tab", Rows.laid_math_bits_deBruijn32tab), ("math/bits.deBruijn64tab", Rows.laid_math_bits_deBruijn64tab), ("internal/strconv.uint64pow10", Rows.laid_internal_strconv_uint64pow10), ("strconv.ErrRange", Rows.laid_strconv_ErrRange), ("strconv.ErrSyntax", Rows.laid_strconv_ErrSyntax)]
theorem ev_of {W:World} {n:String} {g g':Nat} {t:TypeId} {cs:Array Value} {fuel:Nat} {p:List MemPlace} {nm:String} {d:DataW Unit} (hgn:Tryz.prog.globalNamed n=some g) (htn:(Tryz.prog.globals[g]?).map (·.type)=some 86) (hg:Tryz.prog.globalNamed n=some g') (ht:(Tryz.prog.globals[g']?).map (·.type)=some t) (hv:W.var? Tryz.prog n=some cs) (hd:DataW.trod (fun _=>()) Tryz.prog W 0 (fun _=>true) false fuel t cs.toList=some (.iface nm d,p)):∃ ev,W.cell? ⟨g,0,none⟩=some ev∧(ev=.nilIface∨∃ te pe,ev=.iface te pe):=by
 obtain rfl:=Option.some.inj (hgn.symm.trans hg)
 obtain rfl:=Option.some.inj (htn.symm.trans ht)
 obtain ⟨fu,u,v,hcs,_,_⟩:=iface_of_trod Tryz.underlying86 hd
 refine ⟨.iface u v,?_,.inr ⟨u,v,rfl⟩⟩
 rw [World.var?_cell hgn hv 0]
 have e:cs[0]? = cs.toList[0]?:=by simp
 rw [e,hcs]
 rfl
theorem of_laid {W:World} (h:laidMetH Tryz.prog laidAll W) (hs:W.ShapedOpen Tryz.prog):E.G W:=by
 rw [MakeChecks.laidMetH_plain _ _ _ (by kernel_rfl)] at h
 obtain ⟨ps,⟨g0,t0,cs0,f0,p0,q0,hg0,ht0,hv0,hd0,⟨g1,t1,cs1,f1,p1,q1,hg1,ht1,hv1,hd1,⟨g2,t2,cs2,f2,p2,q2,hg2,ht2,hv2,hd2,⟨g3,t3,cs3,f3,p3,q3,hg3,ht3,hv3,hd3,⟨g4,t4,cs4,f4,p4,q4,hg4,ht4,hv4,hd4,_,_⟩,_⟩,_⟩,_⟩,_⟩,_⟩:=h
 refine ⟨?_,cell_of_shapedOpen_int (P:=Tryz.prog) (g:=0) (t:=3) (zero:=#[.int .i64 0]) hs (of_decide_eq_true (by kernel_rfl)) (by kernel_rfl) rfl (by kernel_rfl) (by kernel_rfl) Tryz.underlying3,ev_of (by kernel_rfl) (by kernel_rfl) hg4 ht4 hv4 hd4,ev_of (by kernel_rfl) (by kernel_rfl) hg3 ht3 hv3 hd3⟩
 obtain ⟨g,hg,t,ht,n,e,hu,he,hce,hct⟩:=gOk (by kernel_rfl)
 obtain rfl:=Option.some.inj (hg.symm.trans hg2)
 obtain rfl:=Option.some.inj (ht.symm.trans ht2)
 unfold Lib.TabIs
 have hdd:(Rows.laid_internal_strconv_uint64pow10:DataW Unit)=Lib.tabData .u64 Lib.pow10Tab:=by rfl
 rw [hdd] at hd2
 rw [hv2,← Lib.cells_of_tab hu he hce hct hd2]
theorem walk (v0:Value) (l0:List (El .rule)) (v1:Value) (l1:List UInt8) (W:World) (hG:E.G W) (s0:Rel E (fun b=>b < W.heap.size) (fun _=>none) W (.lst .rule l0) v0) (s1:Rel E (fun b=>b < W.heap.size) (fun _=>none) W (.str l1) v1) :
  Calls Tryz.prog 3 #[v0,v1] W fun e W'=>e=.returned (.bool true)∧Below W.heap.size W W':=by
 refine ((lawForms.spec l0 l1).2.2 (fun b=>b < W.heap.size) W _ (fun _ h=>h) hG ⟨rfl,fun i c v hc hv=>?_⟩).mono ?_
 ·match i,hc,hv with
  | 0,hc,hv=>cases hc; cases hv; exact s0
  | 1,hc,hv=>cases hc; cases hv; exact s1
 ·rintro e w' ⟨v,S',ρ',rfl,hst,_,hr⟩
  cases hr
  exact ⟨rfl,hst.below⟩
theorem door_met (os:Os) (args:Array Value):laidMetH Tryz.prog laidAll ((World.laidAll Tryz.prog os laidAll).forCall (fun _ _=>0) ⟨#[],args,[]⟩).memory:=by
 rw [MakeChecks.laidMetH_plain _ _ _ (by kernel_rfl)]
 exact laidMet_laidAll _ (by kernel_rfl) (by kernel_rfl)
set_option maxRecDepth 100000 in
theorem lifted (os:Os) (started:os.Started) (H:Type) (enc:TypeId×Value→H) :
  ReturnsInHanded {} Tryz.checked os 3 .any (fun w args=>(Rows.rulesFormsSpec.pre enc Tryz.prog Tryz.f3 [] false w args∧laidMetH Tryz.prog laidAll w)∧sizedMet enc Tryz.prog Tryz.f3 (OpenSpec.ofChange Rows.rulesFormsSpec) false w args)
   (Rows.rulesFormsSpec.post enc Tryz.prog Tryz.f3 false true false false):=by
 refine change_and_shaped (C:=Tryz.checked) (X:=fun w _=>laidMetH Tryz.prog laidAll w) (fun _ _ _ hh h=>h.of_heap hh) own started (by kernel_rfl) Tryz.func3
  (ChangeSpec.witness_shaped (enc:=enc) (C:=Tryz.checked) (os:=os) (X:=fun w _=>laidMetH Tryz.prog laidAll w) false (World.laidAll Tryz.prog os laidAll) #[.slice none 0 0,.string ⟨#[]⟩] 8 (World.laidAll_os _ _ _) (World.shaped_of_ZipB (by kernel_rfl) (by kernel_rfl)) (by kernel_rfl) (by kernel_rfl) (by kernel_rfl) (door_met os _)) ?_
 intro W base args ds gs before hval0 hW _ _ hL hS _
 have hval:∀ (j:Nat) t v,Tryz.f3.params[j]? = some t→args[j]? = some v→Value.okWide Tryz.prog W .any base t v:=hval0
 have hW':=hW
 obtain ⟨p,q,hA0,hV,rfl,hfz,hnd⟩:=hW
 have hA:DataW.TrodAll enc Tryz.prog W 0 (fun _=>true) true Tryz.f3.params.toList args.toList ds p:=hA0
 rw [Tryz.params3] at hA hval
 obtain ⟨v0,vs0,d0,ds0,p0,q0,hargs,rfl,rfl,h0,r0⟩:=trodAll_cons hA
 obtain ⟨v1,vs1,d1,ds1,p1,q1,rfl,rfl,rfl,h1,r1⟩:=trodAll_cons r0
 obtain ⟨rfl,rfl,rfl⟩:=trodAll_nil r1
 obtain rfl:args=#[v0,v1]:=by cases args; simp_all
 obtain ⟨rfl,rfl⟩:=trodVars_none hV
 obtain ⟨l0,s0⟩:=openL reads_rule (by decide) (fun _=>rfl) Tryz.underlying22 (by kernel_rfl) (hval 0 22 v0 rfl rfl) h0
 obtain ⟨l1,s1⟩:=openStr Tryz.underlying9 (hval 1 9 v1 rfl rfl) h1
 clear hA0 hval0
 simp only [List.append_nil] at hW'
 have hlt:∀ x∈p0++p1,x.block < W.heap.size:=fun x hx=>by simpa using hW'.lt x (by simpa using hx)
 refine (walk v0 l0 v1 l1 W (of_laid hL hS) s0 s1).mono fun e W' ⟨he,hB⟩=>?_
 subst he
 refine ⟨_,rfl,_,_,_,[],_,[],hW',trodAll_mk1 (shut_bool Tryz.underlying4 _),trodAll_cons_mk (Below.trod laidOut (by kernel_rfl) (of_decide_eq_true (by kernel_rfl)) h0 hB (fun x hx=>hlt x (by simp [hx]))) (trodAll_cons_mk (Below.trod laidOut (by kernel_rfl) (of_decide_eq_true (by kernel_rfl)) h1 hB (fun x hx=>hlt x (by simp [hx]))) (trodAll_mk0)),rfl,hB.frame _,fun h=>by cases h⟩
theorem over:Rows.RulesFormsSaid :=
 OpenClaim.holds_of_wide 3 Tryz.f3 rfl rfl rfl rfl rfl rfl rfl ⟨rfl,rfl,rfl,rfl,rfl⟩ rfl rfl rfl rfl rfl (by kernel_rfl) Tryz.func3 (by kernel_rfl)
  (of_decide_eq_true (by kernel_rfl)) (by unfold Func.isWrapper; rw [if_neg (of_decide_eq_false (by kernel_rfl))]; exact ⟨rfl,rfl⟩)
  (fun os started H enc _=>lifted os started H enc)
theorem proved : Rows.RulesFormsCardSaid :=
  Claim7.holds_tied_plain_at .later [] [.data, .data, .data, .sentinel, .sentinel] true (true, "71bc5218e2188cf4e2c43f3dee66cf351f41eb86a9ce3ac25994e80b75f41de6") true
    over (fun _ h=>by cases h) (by kernel_rfl) (fun _ h=>by cases h) rulesForms_row_tie rfl ⟨rfl,rfl⟩ (by kernel_rfl) rfl
    (fun f fn hf hfn=>by
      obtain rfl : f = 3 := Option.some.inj ((show Tryz.prog.funcNamed "sewershed/sewershedlaw41.RulesForms" = some 3 by kernel_rfl).symm.trans hf) |>.symm
      obtain rfl:fn=Tryz.f3:=(Option.some.inj (Tryz.func3.symm.trans hfn)).symm
      exact ⟨by kernel_rfl,fun j t ht=>by
        rw [Tryz.params3] at ht
        have hall:(Tryz.f3.params.toList.all fun u => !Tryz.prog.wantsStandIn u)=true:=by kernel_rfl
        rw [Tryz.params3] at hall
        have hm:=Array.mem_of_getElem? ht
        exact (show Tryz.prog.wantsStandIn t=false by simpa using List.all_eq_true.1 hall t (by simpa using hm))⟩)
    (by kernel_rfl)
#print axioms proved
end Go.Proofs.YtlkfbblapimhoaaGreatDoor.rulesForms
