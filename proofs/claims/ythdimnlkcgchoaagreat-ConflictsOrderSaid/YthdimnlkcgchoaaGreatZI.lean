import Derived.Test.YthdimnlkcgchoaaGreatXP
import Derived.Test.YthdimnlkcgchoaaGreatFR
namespace Go.Proofs.YthdimnlkcgchoaaGreat.conflictsOrder
set_option linter.all false
open Go.ChangeShapes Go.WideShapes Go.ChangeAt Go.RowKit
theorem walk (v0:Value) (l0:List (El .rule)) (v1:Value) (l1:El .net) (n2:Int) (w2:(Lit.int .u8 n2).wf=true) (W:World) (s0:Rel E (fun b=>b < W.heap.size) (fun _=>none) W (.lst .rule l0) v0) (s1:Rel E (fun b=>b < W.heap.size) (fun _=>none) W (.agg (E.enc .net l1)) v1) :
  Calls Tryz.prog 6 #[v0,v1,.int .u8 n2] W fun e W'=>e=.returned (.bool true)∧Below W.heap.size W W':=by
 refine ((lawOrder.spec l0 l1 n2 w2).2.2 (fun b=>b < W.heap.size) W _ (fun _ h=>h) trivial ⟨rfl,fun i c v hc hv=>?_⟩).mono ?_
 ·match i,hc,hv with
  | 0,hc,hv=>cases hc; cases hv; exact s0
  | 1,hc,hv=>cases hc; cases hv; exact s1
  | 2,hc,hv=>cases hc; cases hv; exact .int _ _
 ·rintro e w' ⟨v,S',ρ',rfl,hst,_,hr⟩
  cases hr
  exact ⟨rfl,hst.below⟩
set_option maxRecDepth 100000 in
theorem lifted (os:Os) (started:os.Started) (H:Type) (enc:TypeId×Value→H) :
  ReturnsInHanded {} Tryz.checked os 6 .any (Rows.conflictsOrderSpec.pre6 enc Tryz.prog Tryz.f6 Rows.conflictsOrderRow.domain false) (Rows.conflictsOrderSpec.post enc Tryz.prog Tryz.f6 false true false false):=by
 refine returnsInHanded_of_change (C:=Tryz.checked) own started (by kernel_rfl) Tryz.func6
  (ChangeSpec.witness6 (enc:=enc) (C:=Tryz.checked) false ⟨#[],#[.slice none 0 0,.agg #[.slice none 0 0,.slice none 0 0],.int .u8 0],[]⟩ 8 (by kernel_rfl) (by kernel_rfl) (by kernel_rfl) (by kernel_rfl)) ?_
 intro W base args ds gs before hval0 hW hcnd _
 have hval:∀ (j:Nat) t v,Tryz.f6.params[j]? = some t→args[j]? = some v→Value.okWide Tryz.prog W .any base t v:=hval0
 have hW':=hW
 obtain ⟨p,q,hA0,hV,rfl,hfz,hnd⟩:=hW
 have hA:DataW.TrodAll enc Tryz.prog W 0 (fun _=>true) true Tryz.f6.params.toList args.toList ds p:=hA0
 rw [Tryz.params6] at hA hval
 obtain ⟨v0,vs0,d0,ds0,p0,q0,hargs,rfl,rfl,h0,r0⟩:=trodAll_cons hA
 obtain ⟨v1,vs1,d1,ds1,p1,q1,rfl,rfl,rfl,h1,r1⟩:=trodAll_cons r0
 obtain ⟨v2,vs2,d2,ds2,p2,q2,rfl,rfl,rfl,h2,r2⟩:=trodAll_cons r1
 obtain ⟨rfl,rfl,rfl⟩:=trodAll_nil r2
 obtain rfl:args=#[v0,v1,v2]:=by cases args; simp_all
 obtain ⟨rfl,rfl⟩:=trodVars_none hV
 obtain ⟨l0,s0⟩:=openL reads_rule (by decide) (fun _=>rfl) Tryz.underlying22 (by kernel_rfl) (hval 0 22 v0 rfl rfl) h0
 obtain ⟨l1,s1⟩:=openS reads_net (fun _=>rfl) Tryz.underlying26 (by kernel_rfl) (hval 1 26 v1 rfl rfl) h1
 obtain ⟨n2,rfl,w2⟩:=openInt Tryz.underlying5 (hval 2 5 v2 rfl rfl) h2
 clear hA0 hval0
 simp only [List.append_nil] at hW'
 have hlt:∀ x∈p0++(p1++p2),x.block < W.heap.size:=fun x hx=>by simpa using hW'.lt x (by simpa using hx)
 refine (walk v0 l0 v1 l1 n2 w2 W s0 s1).mono fun e W' ⟨he,hB⟩=>?_
 subst he
 refine ⟨_,rfl,_,_,_,[],_,[],hW',trodAll_mk1 (shut_bool Tryz.underlying4 _),trodAll_cons_mk (Below.trod laidOut (by kernel_rfl) (of_decide_eq_true (by kernel_rfl)) h0 hB (fun x hx=>hlt x (by simp [hx]))) (trodAll_cons_mk (Below.trod laidOut (by kernel_rfl) (of_decide_eq_true (by kernel_rfl)) h1 hB (fun x hx=>hlt x (by simp [hx]))) (trodAll_cons_mk (Below.trod laidOut (by kernel_rfl) (of_decide_eq_true (by kernel_rfl)) h2 hB (fun x hx=>hlt x (by simp [hx]))) (trodAll_mk0))),rfl,hB.frame _,fun h=>by cases h⟩
theorem over:Rows.conflictsOrderRow.holds Tryz.pinned (OpenSpec.ofChange Rows.conflictsOrderSpec) :=
 OpenClaim.holds_of_wide 6 Tryz.f6 rfl rfl rfl rfl rfl rfl rfl ⟨rfl,rfl,rfl,rfl,rfl⟩ rfl rfl rfl rfl rfl (by kernel_rfl) Tryz.func6 (by kernel_rfl)
  (of_decide_eq_true (by kernel_rfl)) (by unfold Func.isWrapper; rw [if_neg (of_decide_eq_false (by kernel_rfl))]; exact ⟨rfl,rfl⟩)
  (fun os started H enc _=>lifted os started H enc)
theorem proved:Rows.ConflictsOrderSaid :=
 over
#print axioms proved
end Go.Proofs.YthdimnlkcgchoaaGreat.conflictsOrder
