/- Contracts of calls that are cX blocks, as a step of the caller's run: what is cX is found by the iM in the arguments. -/
import Derived.Test.YthdklallcljhlaaGreatDoorLT
namespace Go.Proofs.YthdklallcljhlaaGreatDoor
set_option linter.unusedVariables false
set_option linter.unusedSectionVars false
set_option linter.unusedSimpArgs false
open Go.RowKit
section
variable {U:Type} {El:U→Type} {P:Program} {X:Ctx U El} [DecidableEq U]
theorem dY {b:Bool} {f:(AV U El→au U El→Option (Fin U El))→Option (Fin U El)} (h:∃ oo:Option (AV U El×au U El),∀ k,f k=oo.bind fun p=>k p.1 p.2):∃ oo:Option (AV U El×au U El),∀ k,chk b (f k)=oo.bind fun p=>k p.1 p.2:=by
  cases b
  · exact ⟨none,fun _=>rfl⟩
  · exact h
def m8 (ids:List Nat) (d:Nat):au U El→Nat→List (Nat×Nat)
  | [],_=>[]
  | (j,_) :: h,n=>bif Nat.ble aI j then (ids.getD (j - aI) 0,j) :: m8 ids d h n else (d * 1000+n,j) :: m8 ids d h (n+1)
def m9 (sp:MSp U El):SpM U El:=fun d args st k =>
  let ids:=eH st.h 40 0 (AV.nms.nmsL args [])
  match cX st.h ids ids aI with
  | some hs=>sp (args.map (AV.ren (cW ids aI))) hs fun v hc =>
      let outs:=m8 ids d hc 0
      let pins:=bq ids hc
      chk (args.all (AV.within ids)&&mOk hc ids outs pins v) (k (v.ren (il outs)) (pS st ids outs pins hc))
  | none=>none
theorem iB {f:FuncId} {sp:MSp U El} (hX:CtxOk P X) (h:li P X.E f sp):cz P X f (m9 sp):=by
  refine ⟨h.1,?_⟩
  intro B S0 w0 S ρ st a w d args vs k r hi hr hv
  unfold m9 at hv
  simp only at hv
  split at hv
  · rename_i hs hh
    obtain ⟨v,hc,hm,hk⟩:=h.2 _ _ _ _ hv
    obtain ⟨hck,hk⟩:=ae hk
    simp only [Bool.and_eq_true] at hck
    exact hi.mcall hX hr rfl hck.1 hh hm hck.2 hk
  · cases hv
theorem spN {E:Univ U El}:∀ p∈([]:List (FuncId×Sp U El)),SpOk P E p.1 p.2:=fun p h=>by cases h
theorem spC {E:Univ U El} {f:FuncId} {sp:Sp U El} {l:List (FuncId×Sp U El)} (h:SpOk P E f sp) (hl:∀ p∈l,SpOk P E p.1 p.2):∀ p∈(f,sp) :: l,SpOk P E p.1 p.2:=fun p hp=>by
  rcases List.mem_cons.1 hp with rfl | hp
  · exact h
  · exact hl p hp
theorem dpN {E:Univ U El}:∀ p∈([]:List (FuncId×MSp U El)),j8 P E p.1 p.2:=fun p h=>by cases h
theorem mpN:∀ p∈([]:List (FuncId×SpM U El)),cz P X p.1 p.2:=fun p h=>by cases h
theorem mpC {f:FuncId} {sp:SpM U El} {l:List (FuncId×SpM U El)} (h:cz P X f sp) (hl:∀ p∈l,cz P X p.1 p.2):∀ p∈(f,sp) :: l,cz P X p.1 p.2:=fun p hp=>by
  rcases List.mem_cons.1 hp with rfl | hp
  · exact h
  · exact hl p hp
theorem ba (b:Bool) (v:AV U El) (h:au U El):∃ oo:Option (AV U El×au U El),∀ k:AV U El→au U El→Option (Fin U El),chk b (k v h)=oo.bind fun p=>k p.1 p.2:=by
  cases b
  · exact ⟨none,fun _=>rfl⟩
  · exact ⟨some (v,h),fun _=>rfl⟩
end
end Go.Proofs.YthdklallcljhlaaGreatDoor
