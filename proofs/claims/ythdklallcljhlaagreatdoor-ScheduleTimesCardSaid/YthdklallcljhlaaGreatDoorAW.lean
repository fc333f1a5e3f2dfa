/- The example of the chapter: awake, by the whole run of its functions in their places. -/
import Derived.Test.YthdklallcljhlaaGreatDoorVA
import Derived.Test.YthdklallcljhlaaGreatDoorSI
namespace Go.Proofs.YthdklallcljhlaaGreatDoor
set_option linter.unusedSectionVars false
set_option linter.unusedSimpArgs false
set_option linter.unusedVariables false
set_option maxRecDepth 100000
noncomputable def fx:List (FuncId×FnX):=[(5,⟨(Tryz.f5.body).getD .skip,47,[],[0],[],false⟩),
  (27,⟨(Tryz.f27.body).getD .skip,6,[],[0],[],false⟩),
  (26,⟨(Tryz.f26.body).getD .skip,63,[],[4,5],[],true⟩),
  (7,⟨(Tryz.f7.body).getD .skip,16,[],[4,5],[],true⟩),
  (28,⟨(Tryz.f28.body).getD .skip,30,[],[6,7,8],[],true⟩),
  (29,⟨(Tryz.f29.body).getD .skip,89,[],[4],[],true⟩),
  (58,⟨(Tryz.f58.body).getD .skip,12,[],[2],[],false⟩),
  (59,⟨(Tryz.f59.body).getD .skip,26,[],[4],[],false⟩),
  (61,⟨(Tryz.f61.body).getD .skip,16,[],[6],[],false⟩),
  (60,⟨(Tryz.f60.body).getD .skip,33,[],[4],[],false⟩),
  (63,⟨(Tryz.f63.body).getD .skip,27,[],[],[],false⟩),
  (32,⟨(Tryz.f32.body).getD .skip,14,[],[4],[],false⟩),
  (33,⟨(Tryz.f33.body).getD .skip,27,[],[4],[],false⟩),
  (38,⟨(Tryz.f38.body).getD .skip,15,[],[6],[],false⟩),
  (64,⟨(Tryz.f64.body).getD .skip,92,[],[12],[],false⟩),
  (67,⟨(Tryz.f67.body).getD .skip,35,[],[4],[],false⟩),
  (68,⟨(Tryz.f68.body).getD .skip,44,[],[2],[],false⟩),
  (88,⟨(Tryz.f88.body).getD .skip,12,[],[3],[],false⟩),
  (87,⟨(Tryz.f87.body).getD .skip,9,[],[4],[],false⟩),
  (62,⟨(Tryz.f62.body).getD .skip,115,[],[6],[],false⟩),
  (37,⟨(Tryz.f37.body).getD .skip,20,[],[4],[],false⟩),
  (17,⟨(Tryz.f17.body).getD .skip,33,[],[6,7],[],false⟩),
  (34,⟨(Tryz.f34.body).getD .skip,14,[],[4],[],true⟩),
  (65,⟨(Tryz.f65.body).getD .skip,13,[],[4],[],true⟩),
  (41,⟨(Tryz.f41.body).getD .skip,8,[],[2],[],true⟩),
  (93,⟨(Tryz.f93.body).getD .skip,9,[],[3],[],false⟩),
  (125,⟨(Tryz.f125.body).getD .skip,19,[],[4],[],false⟩),
  (90,⟨(Tryz.f90.body).getD .skip,11,[],[3],[],false⟩),
  (52,⟨(Tryz.f52.body).getD .skip,138,[],[8],[],true⟩),
  (71,⟨(Tryz.f71.body).getD .skip,6,[],[2],[],false⟩),
  (53,⟨(Tryz.f53.body).getD .skip,3,[],[2],[],false⟩),
  (82,⟨(Tryz.f82.body).getD .skip,9,[],[4],[],true⟩),
  (117,⟨(Tryz.f117.body).getD .skip,19,[],[4],[],true⟩)]
theorem sJ:∀ p∈fx,mf Tryz.prog p.1 p.2:=by
  intro p hp
  simp only [fx,List.mem_cons,List.not_mem_nil,or_false] at hp
  rcases hp with rfl | rfl | rfl | rfl | rfl | rfl | rfl | rfl | rfl | rfl | rfl | rfl | rfl | rfl | rfl | rfl | rfl | rfl | rfl | rfl | rfl | rfl | rfl | rfl | rfl | rfl | rfl | rfl | rfl | rfl | rfl | rfl | rfl
  · exact ⟨Tryz.call5,_,Tryz.func5,rfl,rfl,by kernel_rfl⟩
  · exact ⟨Tryz.call27,_,Tryz.func27,rfl,rfl,by kernel_rfl⟩
  · exact ⟨Tryz.call26,_,Tryz.func26,rfl,rfl,by kernel_rfl⟩
  · exact ⟨Tryz.call7,_,Tryz.func7,rfl,rfl,by kernel_rfl⟩
  · exact ⟨Tryz.call28,_,Tryz.func28,rfl,rfl,by kernel_rfl⟩
  · exact ⟨Tryz.call29,_,Tryz.func29,rfl,rfl,by kernel_rfl⟩
  · exact ⟨Tryz.call58,_,Tryz.func58,rfl,rfl,by kernel_rfl⟩
  · exact ⟨Tryz.call59,_,Tryz.func59,rfl,rfl,by kernel_rfl⟩
  · exact ⟨Tryz.call61,_,Tryz.func61,rfl,rfl,by kernel_rfl⟩
  · exact ⟨Tryz.call60,_,Tryz.func60,rfl,rfl,by kernel_rfl⟩
  · exact ⟨Tryz.call63,_,Tryz.func63,rfl,rfl,by kernel_rfl⟩
  · exact ⟨Tryz.call32,_,Tryz.func32,rfl,rfl,by kernel_rfl⟩
  · exact ⟨Tryz.call33,_,Tryz.func33,rfl,rfl,by kernel_rfl⟩
  · exact ⟨Tryz.call38,_,Tryz.func38,rfl,rfl,by kernel_rfl⟩
  · exact ⟨Tryz.call64,_,Tryz.func64,rfl,rfl,by kernel_rfl⟩
  · exact ⟨Tryz.call67,_,Tryz.func67,rfl,rfl,by kernel_rfl⟩
  · exact ⟨Tryz.call68,_,Tryz.func68,rfl,rfl,by kernel_rfl⟩
  · exact ⟨Tryz.call88,_,Tryz.func88,rfl,rfl,by kernel_rfl⟩
  · exact ⟨Tryz.call87,_,Tryz.func87,rfl,rfl,by kernel_rfl⟩
  · exact ⟨Tryz.call62,_,Tryz.func62,rfl,rfl,by kernel_rfl⟩
  · exact ⟨Tryz.call37,_,Tryz.func37,rfl,rfl,by kernel_rfl⟩
  · exact ⟨Tryz.call17,_,Tryz.func17,rfl,rfl,by kernel_rfl⟩
  · exact ⟨Tryz.call34,_,Tryz.func34,rfl,rfl,by kernel_rfl⟩
  · exact ⟨Tryz.call65,_,Tryz.func65,rfl,rfl,by kernel_rfl⟩
  · exact ⟨Tryz.call41,_,Tryz.func41,rfl,rfl,by kernel_rfl⟩
  · exact ⟨Tryz.call93,_,Tryz.func93,rfl,rfl,by kernel_rfl⟩
  · exact ⟨Tryz.call125,_,Tryz.func125,rfl,rfl,by kernel_rfl⟩
  · exact ⟨Tryz.call90,_,Tryz.func90,rfl,rfl,by kernel_rfl⟩
  · exact ⟨Tryz.call52,_,Tryz.func52,rfl,rfl,by kernel_rfl⟩
  · exact ⟨Tryz.call71,_,Tryz.func71,rfl,rfl,by kernel_rfl⟩
  · exact ⟨Tryz.call53,_,Tryz.func53,rfl,rfl,by kernel_rfl⟩
  · exact ⟨Tryz.call82,_,Tryz.func82,rfl,rfl,by kernel_rfl⟩
  · exact ⟨Tryz.call117,_,Tryz.func117,rfl,rfl,by kernel_rfl⟩
def qq:List (Nat×Nat):=[]
noncomputable def bsp:List (FuncId×Sp U El):=[(66,isname.sp),(91,letter.sp),(127,digit.sp),(92,word.sp)]
theorem qr:∀ p∈bsp,SpOk Tryz.prog E p.1 p.2:=spC isname.spOk (spC letter.spOk (spC digit.spOk (spC word.spOk spN)))
def pd (x:Int):List Int→List Int
  | []=>[x]
  | y :: l=>bif decide (x≤y) then x :: y :: l else y :: pd x l
def gS:List Int→List Int
  | []=>[]
  | x :: l=>pd x (gS l)
theorem kp (x:Int):∀ l,(pd x l).Perm (x :: l):=by
  intro l
  induction l with
  | nil=>exact List.Perm.refl _
  | cons y l ih =>
    unfold pd
    by_cases h:x≤y
    · rw [decide_eq_true h]; exact List.Perm.refl _
    · rw [decide_eq_false h]; exact (ih.cons y).trans (List.Perm.swap x y l)
theorem my:∀ l,(gS l).Perm l:=by
  intro l
  induction l with
  | nil=>exact List.Perm.refl _
  | cons x l ih=>exact (kp x _).trans (ih.cons x)
theorem qs (x:Int):∀ l,l.Pairwise (· ≤ ·)→(pd x l).Pairwise (· ≤ ·):=by
  intro l
  induction l with
  | nil=>intro _; exact List.pairwise_singleton _ _
  | cons y l ih =>
    intro h
    obtain ⟨h1,h2⟩:=List.pairwise_cons.1 h
    unfold pd
    by_cases hx:x≤y
    · rw [decide_eq_true hx]
      refine List.pairwise_cons.2 ⟨fun z hz => ?_,h⟩
      rcases List.mem_cons.1 hz with rfl | hz
      · exact hx
      · exact Int.le_trans hx (h1 z hz)
    · rw [decide_eq_false hx]
      refine List.pairwise_cons.2 ⟨fun z hz => ?_,ih h2⟩
      rcases List.mem_cons.1 ((kp x l).mem_iff.1 hz) with rfl | hz
      · omega
      · exact h1 z hz
theorem nB:∀ l,(gS l).Pairwise (· ≤ ·):=by
  intro l
  induction l with
  | nil=>exact List.Pairwise.nil
  | cons x l ih=>exact qs x _ ih
theorem mz (l:List Int):sortI l=gS l:=by
  unfold sortI
  refine List.Perm.eq_of_pairwise (le:=(· ≤ ·)) (fun a b _ _ h1 h2=>Int.le_antisymm h1 h2) ?_ (nB l) ((List.mergeSort_perm _ _).trans (my l).symm)
  have:=List.pairwise_mergeSort (le:=fun x y:Int=>decide (x≤y)) (fun a b c h1 h2=>by simp only [decide_eq_true_eq] at *; omega) (fun a b=>by simp; omega) l
  exact this.imp fun h=>by simpa using h
noncomputable def k0:SpM U El:=fun d args st k=>match args with
  | [.ful id] => match aa st.h id with
    | some (.rows .int xs)=>chk (nle (List.length (α:=Int) xs) 100000) (k (.tup []) ⟨st.t,a6 st.h id (.rows .int (gS xs))⟩)
    | _=>none
  | _=>none
theorem qt:k0=sortISp:=by
  have:(gS:List Int→List Int)=sortI:=funext fun l=>(mz l).symm
  unfold k0 sortISp
  rw [this]
  rfl
noncomputable def ms0:FuncId→Option (SpM U El):=fun g=>if g=89 then some k0 else none
noncomputable def X0:Ctx U El:=⟨E,tds,zeros,eqs,aK bsp,1000,0,aC [],ms0⟩
theorem ok0:CtxOk Tryz.prog X0:=aW tab qr dpN
theorem qu (X:Ctx U El) (hE:X.E=X0.E) (hX:CtxOk Tryz.prog X):∀ g sp,ms0 g=some sp→ck Tryz.prog X g sp:=fun g sp h=>by
  unfold ms0 at h
  split at h
  · rename_i e
    subst e
    cases h
    rw [qt]
    exact rn hE hX
  · cases h
theorem pe:∀ p∈qq,gM Tryz.prog p.1 p.2:=fun p hp=>by cases hp
namespace awake
theorem run:((inl X0 qq fx 40 5).bind fun sp=>sp [] [] fun v h=>some (v,h))=some (.bool true,[]):=by kernel_rfl
theorem spec:aq Tryz.prog E 5 [] (.bool true) [] :=
  pW pe ok0 (fun n g sp h=>qu { X0 with nt:=n } rfl (aW tab qr dpN) g sp h) sJ (fun X hE _ hX g sp h=>qu X hE hX g sp h) run rfl
noncomputable def sp:Sp U El:=fun args k=>match args with
  | []=>k (.bool true) []
  | _=>none
theorem spOk:SpOk Tryz.prog E 5 sp where
  det:=fun vs=>by
    unfold sp
    split
    · exact ⟨some (_,_),fun _=>rfl⟩
    · exact ⟨none,fun _=>rfl⟩
  ok:=fun vs k r h=>by
    unfold sp at h
    split at h
    · exact ⟨_,_,spec,h⟩
    · cases h
end awake
end Go.Proofs.YthdklallcljhlaaGreatDoor
