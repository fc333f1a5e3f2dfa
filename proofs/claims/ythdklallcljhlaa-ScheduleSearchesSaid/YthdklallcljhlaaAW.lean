/- The example of the chapter: awake, by the whole run of its functions in their places. -/
import Derived.Test.YthdklallcljhlaaVA
import Derived.Test.YthdklallcljhlaaSI
namespace Go.Proofs.Ythdklallcljhlaa
set_option linter.unusedSectionVars false
set_option linter.unusedSimpArgs false
set_option linter.unusedVariables false
set_option maxRecDepth 100000
noncomputable def fx:List (FuncId×FnX):=[(9,⟨(Try.f9.body).getD .skip,47,[],[0],[],false⟩),
  (29,⟨(Try.f29.body).getD .skip,6,[],[0],[],false⟩),
  (18,⟨(Try.f18.body).getD .skip,63,[],[4,5],[],true⟩),
  (20,⟨(Try.f20.body).getD .skip,16,[],[4,5],[],true⟩),
  (15,⟨(Try.f15.body).getD .skip,30,[],[6,7,8],[],true⟩),
  (13,⟨(Try.f13.body).getD .skip,89,[],[4],[],true⟩),
  (42,⟨(Try.f42.body).getD .skip,12,[],[2],[],false⟩),
  (44,⟨(Try.f44.body).getD .skip,26,[],[4],[],false⟩),
  (50,⟨(Try.f50.body).getD .skip,16,[],[6],[],false⟩),
  (49,⟨(Try.f49.body).getD .skip,33,[],[4],[],false⟩),
  (45,⟨(Try.f45.body).getD .skip,27,[],[],[],false⟩),
  (54,⟨(Try.f54.body).getD .skip,14,[],[4],[],false⟩),
  (55,⟨(Try.f55.body).getD .skip,27,[],[4],[],false⟩),
  (35,⟨(Try.f35.body).getD .skip,15,[],[6],[],false⟩),
  (43,⟨(Try.f43.body).getD .skip,92,[],[12],[],false⟩),
  (37,⟨(Try.f37.body).getD .skip,35,[],[4],[],false⟩),
  (38,⟨(Try.f38.body).getD .skip,44,[],[2],[],false⟩),
  (72,⟨(Try.f72.body).getD .skip,12,[],[3],[],false⟩),
  (68,⟨(Try.f68.body).getD .skip,9,[],[4],[],false⟩),
  (52,⟨(Try.f52.body).getD .skip,115,[],[6],[],false⟩),
  (51,⟨(Try.f51.body).getD .skip,20,[],[4],[],false⟩),
  (11,⟨(Try.f11.body).getD .skip,33,[],[6,7],[],false⟩),
  (47,⟨(Try.f47.body).getD .skip,14,[],[4],[],true⟩),
  (46,⟨(Try.f46.body).getD .skip,13,[],[4],[],true⟩),
  (21,⟨(Try.f21.body).getD .skip,8,[],[2],[],true⟩),
  (69,⟨(Try.f69.body).getD .skip,9,[],[3],[],false⟩),
  (80,⟨(Try.f80.body).getD .skip,19,[],[4],[],false⟩),
  (75,⟨(Try.f75.body).getD .skip,11,[],[3],[],false⟩),
  (32,⟨(Try.f32.body).getD .skip,138,[],[8],[],true⟩),
  (73,⟨(Try.f73.body).getD .skip,6,[],[2],[],false⟩),
  (33,⟨(Try.f33.body).getD .skip,3,[],[2],[],false⟩),
  (23,⟨(Try.f23.body).getD .skip,9,[],[4],[],true⟩),
  (56,⟨(Try.f56.body).getD .skip,19,[],[4],[],true⟩)]
theorem sM:∀ p∈fx,mf Try.prog p.1 p.2:=by
  intro p hp
  simp only [fx,List.mem_cons,List.not_mem_nil,or_false] at hp
  rcases hp with rfl | rfl | rfl | rfl | rfl | rfl | rfl | rfl | rfl | rfl | rfl | rfl | rfl | rfl | rfl | rfl | rfl | rfl | rfl | rfl | rfl | rfl | rfl | rfl | rfl | rfl | rfl | rfl | rfl | rfl | rfl | rfl | rfl
  · exact ⟨Try.call9,_,Try.func9,rfl,rfl,by kernel_rfl⟩
  · exact ⟨Try.call29,_,Try.func29,rfl,rfl,by kernel_rfl⟩
  · exact ⟨Try.call18,_,Try.func18,rfl,rfl,by kernel_rfl⟩
  · exact ⟨Try.call20,_,Try.func20,rfl,rfl,by kernel_rfl⟩
  · exact ⟨Try.call15,_,Try.func15,rfl,rfl,by kernel_rfl⟩
  · exact ⟨Try.call13,_,Try.func13,rfl,rfl,by kernel_rfl⟩
  · exact ⟨Try.call42,_,Try.func42,rfl,rfl,by kernel_rfl⟩
  · exact ⟨Try.call44,_,Try.func44,rfl,rfl,by kernel_rfl⟩
  · exact ⟨Try.call50,_,Try.func50,rfl,rfl,by kernel_rfl⟩
  · exact ⟨Try.call49,_,Try.func49,rfl,rfl,by kernel_rfl⟩
  · exact ⟨Try.call45,_,Try.func45,rfl,rfl,by kernel_rfl⟩
  · exact ⟨Try.call54,_,Try.func54,rfl,rfl,by kernel_rfl⟩
  · exact ⟨Try.call55,_,Try.func55,rfl,rfl,by kernel_rfl⟩
  · exact ⟨Try.call35,_,Try.func35,rfl,rfl,by kernel_rfl⟩
  · exact ⟨Try.call43,_,Try.func43,rfl,rfl,by kernel_rfl⟩
  · exact ⟨Try.call37,_,Try.func37,rfl,rfl,by kernel_rfl⟩
  · exact ⟨Try.call38,_,Try.func38,rfl,rfl,by kernel_rfl⟩
  · exact ⟨Try.call72,_,Try.func72,rfl,rfl,by kernel_rfl⟩
  · exact ⟨Try.call68,_,Try.func68,rfl,rfl,by kernel_rfl⟩
  · exact ⟨Try.call52,_,Try.func52,rfl,rfl,by kernel_rfl⟩
  · exact ⟨Try.call51,_,Try.func51,rfl,rfl,by kernel_rfl⟩
  · exact ⟨Try.call11,_,Try.func11,rfl,rfl,by kernel_rfl⟩
  · exact ⟨Try.call47,_,Try.func47,rfl,rfl,by kernel_rfl⟩
  · exact ⟨Try.call46,_,Try.func46,rfl,rfl,by kernel_rfl⟩
  · exact ⟨Try.call21,_,Try.func21,rfl,rfl,by kernel_rfl⟩
  · exact ⟨Try.call69,_,Try.func69,rfl,rfl,by kernel_rfl⟩
  · exact ⟨Try.call80,_,Try.func80,rfl,rfl,by kernel_rfl⟩
  · exact ⟨Try.call75,_,Try.func75,rfl,rfl,by kernel_rfl⟩
  · exact ⟨Try.call32,_,Try.func32,rfl,rfl,by kernel_rfl⟩
  · exact ⟨Try.call73,_,Try.func73,rfl,rfl,by kernel_rfl⟩
  · exact ⟨Try.call33,_,Try.func33,rfl,rfl,by kernel_rfl⟩
  · exact ⟨Try.call23,_,Try.func23,rfl,rfl,by kernel_rfl⟩
  · exact ⟨Try.call56,_,Try.func56,rfl,rfl,by kernel_rfl⟩
def qk:List (Nat×Nat):=[]
noncomputable def bsp:List (FuncId×Sp U El):=[(36,isname.sp),(66,letter.sp),(79,digit.sp),(67,word.sp)]
theorem ql:∀ p∈bsp,SpOk Try.prog E p.1 p.2:=spC isname.spOk (spC letter.spOk (spC digit.spOk (spC word.spOk spN)))
def o1 (x:Int):List Int→List Int
  | []=>[x]
  | y :: l=>bif decide (x≤y) then x :: y :: l else y :: o1 x l
def ic:List Int→List Int
  | []=>[]
  | x :: l=>o1 x (ic l)
theorem kr (x:Int):∀ l,(o1 x l).Perm (x :: l):=by
  intro l
  induction l with
  | nil=>exact List.Perm.refl _
  | cons y l ih =>
    unfold o1
    by_cases h:x≤y
    · rw [decide_eq_true h]; exact List.Perm.refl _
    · rw [decide_eq_false h]; exact (ih.cons y).trans (List.Perm.swap x y l)
theorem mu:∀ l,(ic l).Perm l:=by
  intro l
  induction l with
  | nil=>exact List.Perm.refl _
  | cons x l ih=>exact (kr x _).trans (ih.cons x)
theorem qm (x:Int):∀ l,l.Pairwise (· ≤ ·)→(o1 x l).Pairwise (· ≤ ·):=by
  intro l
  induction l with
  | nil=>intro _; exact List.pairwise_singleton _ _
  | cons y l ih =>
    intro h
    obtain ⟨h1,h2⟩:=List.pairwise_cons.1 h
    unfold o1
    by_cases hx:x≤y
    · rw [decide_eq_true hx]
      refine List.pairwise_cons.2 ⟨fun z hz => ?_,h⟩
      rcases List.mem_cons.1 hz with rfl | hz
      · exact hx
      · exact Int.le_trans hx (h1 z hz)
    · rw [decide_eq_false hx]
      refine List.pairwise_cons.2 ⟨fun z hz => ?_,ih h2⟩
      rcases List.mem_cons.1 ((kr x l).mem_iff.1 hz) with rfl | hz
      · omega
      · exact h1 z hz
theorem np:∀ l,(ic l).Pairwise (· ≤ ·):=by
  intro l
  induction l with
  | nil=>exact List.Pairwise.nil
  | cons x l ih=>exact qm x _ ih
theorem mw (l:List Int):sortI l=ic l:=by
  unfold sortI
  refine List.Perm.eq_of_pairwise (le:=(· ≤ ·)) (fun a b _ _ h1 h2=>Int.le_antisymm h1 h2) ?_ (np l) ((List.mergeSort_perm _ _).trans (mu l).symm)
  have:=List.pairwise_mergeSort (le:=fun x y:Int=>decide (x≤y)) (fun a b c h1 h2=>by simp only [decide_eq_true_eq] at *; omega) (fun a b=>by simp; omega) l
  exact this.imp fun h=>by simpa using h
noncomputable def lj:SpM U El:=fun d args st k=>match args with
  | [.ful id] => match af st.h id with
    | some (.rows .int xs)=>chk (nle (List.length (α:=Int) xs) 100000) (k (.tup []) ⟨st.t,br st.h id (.rows .int (ic xs))⟩)
    | _=>none
  | _=>none
theorem qn:lj=sortISp:=by
  have:(ic:List Int→List Int)=sortI:=funext fun l=>(mw l).symm
  unfold lj sortISp
  rw [this]
  rfl
noncomputable def ms0:FuncId→Option (SpM U El):=fun g=>if g=74 then some lj else none
noncomputable def X0:Ctx U El:=⟨E,tds,zeros,eqs,aG bsp,1000,0,aD [],ms0⟩
theorem ok0:CtxOk Try.prog X0:=aU tab ql dpN
theorem qo (X:Ctx U El) (hE:X.E=X0.E) (hX:CtxOk Try.prog X):∀ g sp,ms0 g=some sp→eJ Try.prog X g sp:=fun g sp h=>by
  unfold ms0 at h
  split at h
  · rename_i e
    subst e
    cases h
    rw [qn]
    exact nY hE hX
  · cases h
theorem o3:∀ p∈qk,hQ Try.prog p.1 p.2:=fun p hp=>by cases hp
namespace awake
theorem run:((inl X0 qk fx 40 9).bind fun sp=>sp [] [] fun v h=>some (v,h))=some (.bool true,[]):=by kernel_rfl
theorem spec:az Try.prog E 9 [] (.bool true) [] :=
  pW o3 ok0 (fun n g sp h=>qo { X0 with nt:=n } rfl (aU tab ql dpN) g sp h) sM (fun X hE _ hX g sp h=>qo X hE hX g sp h) run rfl
noncomputable def sp:Sp U El:=fun args k=>match args with
  | []=>k (.bool true) []
  | _=>none
theorem spOk:SpOk Try.prog E 9 sp where
  det:=fun vs=>by
    unfold sp
    split
    · exact ⟨some (_,_),fun _=>rfl⟩
    · exact ⟨none,fun _=>rfl⟩
  ok:=fun vs k r h=>by
    unfold sp at h
    split at h
    · exact ⟨_,_,spec,h⟩
    · cases h
end awake
end Go.Proofs.Ythdklallcljhlaa
