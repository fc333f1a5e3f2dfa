/- Contracts of calls that are handed blocks, as a step of the caller's run: what is handed is found by the names in the arguments. -/
import Derived.Test.YtkeplmpcijigaaaLT
namespace Go.Proofs.Ytkeplmpcijigaaa
set_option linter.unusedVariables false
set_option linter.unusedSectionVars false
set_option linter.unusedSimpArgs false
open Go.RowKit
section
variable {U:Type} {El:U→Type} {P:Program} {X:Ctx U El} [DecidableEq U] [Drw]
theorem condB_some {R:Type} {b:Bool} {x y:Option R} {r:R} (h:condB b x y=some r):(b=true∧x=some r)∨(b=false∧y=some r):=by
  cases b
  · exact .inr ⟨rfl,h⟩
  · exact .inl ⟨rfl,h⟩
theorem det_chkM {b:Bool} {f:(AV U El→Heap U El→Option (Fin U El))→Option (Fin U El)} (h:∃ oo:Option (AV U El×Heap U El),∀ k,f k=oo.bind fun p=>k p.1 p.2):∃ oo:Option (AV U El×Heap U El),∀ k,chk b (f k)=oo.bind fun p=>k p.1 p.2:=by
  cases b
  · exact ⟨none,fun _=>rfl⟩
  · exact h
def outsOf (ids:List Nat) (d:Nat):Heap U El→Nat→List (Nat×Nat)
  | [],_=>[]
  | (j,_) :: h,n=>bif Nat.ble hidBase j then (ids.getD (j - hidBase) 0,j) :: outsOf ids d h n else (d * 1000+n,j) :: outsOf ids d h (n+1)
def mcSp (sp:MSp U El):SpM U El:=fun d args st k =>
  let ids:=reach st.h 40 0 (AV.nms.nmsL args [])
  match handed st.h ids ids hidBase with
  | some hs=>sp (args.map (AV.ren (upOf ids hidBase))) hs fun v hc =>
      let outs:=outsOf ids d hc 0
      let pins:=pinsOf ids hc
      chk (args.all (AV.within ids)&&mOk hc ids outs pins v) (k (v.ren (dnOf outs)) (mState st ids outs pins hc))
  | none=>none
theorem mcSp_ok {f:FuncId} {sp:MSp U El} (hX:CtxOk P X) (h:MSpOk P X.E f sp):SpMOk P X f (mcSp sp):=by
  refine ⟨h.1,?_⟩
  intro B S0 w0 S ρ st a w d args vs k r hi hr hv
  unfold mcSp at hv
  simp only at hv
  split at hv
  · rename_i hs hh
    obtain ⟨v,hc,hm,hk⟩:=h.2 _ _ _ _ hv
    obtain ⟨hck,hk⟩:=chk_some hk
    simp only [Bool.and_eq_true] at hck
    exact hi.mcall hX hr rfl hck.1 hh hm hck.2 hk
  · cases hv
def orN (a b:MSp U El):MSp U El:=fun args hs k=>match args with
  | .nilp :: _=>a args hs k
  | _=>b args hs k
theorem spN {E:Univ U El}:∀ p∈([]:List (FuncId×Sp U El)),SpOk P E p.1 p.2:=fun p h=>by cases h
theorem spC {E:Univ U El} {f:FuncId} {sp:Sp U El} {l:List (FuncId×Sp U El)} (h:SpOk P E f sp) (hl:∀ p∈l,SpOk P E p.1 p.2):∀ p∈(f,sp) :: l,SpOk P E p.1 p.2:=fun p hp=>by
  rcases List.mem_cons.1 hp with rfl | hp
  · exact h
  · exact hl p hp
theorem dpN {E:Univ U El}:∀ p∈([]:List (FuncId×MSp U El)),DSpOk P E p.1 p.2:=fun p h=>by cases h
theorem dpC {E:Univ U El} {f:FuncId} {sp:MSp U El} {l:List (FuncId×MSp U El)} (h:DSpOk P E f sp) (hl:∀ p∈l,DSpOk P E p.1 p.2):∀ p∈(f,sp) :: l,DSpOk P E p.1 p.2:=fun p hp=>by
  rcases List.mem_cons.1 hp with rfl | hp
  · exact h
  · exact hl p hp
theorem mpN:∀ p∈([]:List (FuncId×SpM U El)),SpMOk P X p.1 p.2:=fun p h=>by cases h
theorem mpC {f:FuncId} {sp:SpM U El} {l:List (FuncId×SpM U El)} (h:SpMOk P X f sp) (hl:∀ p∈l,SpMOk P X p.1 p.2):∀ p∈(f,sp) :: l,SpMOk P X p.1 p.2:=fun p hp=>by
  rcases List.mem_cons.1 hp with rfl | hp
  · exact h
  · exact hl p hp
theorem det_c (b:Bool) (v:AV U El) (h:Heap U El):∃ oo:Option (AV U El×Heap U El),∀ k:AV U El→Heap U El→Option (Fin U El),chk b (k v h)=oo.bind fun p=>k p.1 p.2:=by
  cases b
  · exact ⟨none,fun _=>rfl⟩
  · exact ⟨some (v,h),fun _=>rfl⟩
theorem orN_ok {E:Univ U El} {f:FuncId} {a b:MSp U El} (ha:MSpOk P E f a) (hb:MSpOk P E f b):MSpOk P E f (orN a b):=⟨ha.1,fun args hs k r h=>by
  unfold orN at h
  split at h
  · exact ha.2 _ _ _ _ h
  · exact hb.2 _ _ _ _ h⟩
end
end Go.Proofs.Ytkeplmpcijigaaa
