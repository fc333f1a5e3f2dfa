/- The kinds of rows of this chapter, and what the program's table of types says of them. -/
import Derived.Test.YthdklallcljhlaaLU
import Derived.Test.YthdklallcljhlaaLX
import Derived.KernelRfl
import Derived.Test.YthdklallcljhlaaProg
namespace Go.Proofs.Ythdklallcljhlaa
set_option linter.unusedSectionVars false
set_option linter.unusedSimpArgs false
set_option linter.unusedVariables false
set_option maxRecDepth 100000
structure Work where
  wn:List UInt8
  wh:Int
  wc:List Int
  ws:List UInt8
  wa:List Int
  wd:Int
  wp:Int
deriving DecidableEq
structure Slot where
  sw:Int
  sc:Int
  ss:Int
deriving DecidableEq
inductive U where
  | work | slot | int | str | bool
deriving DecidableEq
noncomputable def El:U→Type
  | .work=>Work
  | .slot=>Slot
  | .int=>Int
  | .str=>List UInt8
  | .bool=>Bool
noncomputable def rR:Int→Int→Bool:=fun a b=>(a == b)
noncomputable def dE:(List UInt8)→(List UInt8)→Bool:=fun a b=>(a == b)
noncomputable def E:Univ U El where
  enc:=fun u=>match u with
    | .work=>fun (x:Work)=>[.str x.wn,.int .i64 x.wh,.lst .int x.wc,.str x.ws,.lst .int x.wa,.int .i64 x.wd,.int .i64 x.wp]
    | .slot=>fun (x:Slot)=>[.int .i64 x.sw,.int .i64 x.sc,.int .i64 x.ss]
    | .int=>fun (x:Int)=>[.int .i64 x]
    | .str=>fun (x:List UInt8)=>[.str x]
    | .bool=>fun (x:Bool)=>[.bool x]
  dec := fun u cs => match u with
    | .work => match cs with
      | [.str f0,.int .i64 f1,.lst .int f2,.str f3,.lst .int f4,.int .i64 f5,.int .i64 f6]=>some (⟨f0,f1,f2,f3,f4,f5,f6⟩:Work)
      | [.str f0,.int .i64 f1,.lst .int f2,.str f3,.nils,.int .i64 f5,.int .i64 f6]=>some (⟨f0,f1,f2,f3,([]:List Int),f5,f6⟩:Work)
      | [.str f0,.int .i64 f1,.nils,.str f3,.lst .int f4,.int .i64 f5,.int .i64 f6]=>some (⟨f0,f1,([]:List Int),f3,f4,f5,f6⟩:Work)
      | [.str f0,.int .i64 f1,.nils,.str f3,.nils,.int .i64 f5,.int .i64 f6]=>some (⟨f0,f1,([]:List Int),f3,([]:List Int),f5,f6⟩:Work)
      | _=>none
    | .slot => match cs with
      | [.int .i64 f0,.int .i64 f1,.int .i64 f2]=>some (⟨f0,f1,f2⟩:Slot)
      | _=>none
    | .int => match cs with
      | [.int .i64 f0]=>some (f0:Int)
      | _=>none
    | .str => match cs with
      | [.str f0]=>some (f0:List UInt8)
      | _=>none
    | .bool => match cs with
      | [.bool f0]=>some (f0:Bool)
      | _=>none
  dflt:=fun u=>match u with
    | .work=>(⟨[],0,[],[],[],0,0⟩:Work)
    | .slot=>(⟨0,0,0⟩:Slot)
    | .int=>(0:Int)
    | .str=>([]:List UInt8)
    | .bool=>(false:Bool)
  sz:=fun u=>match u with | .work=>7 | .slot=>3 | .int=>1 | .str=>1 | .bool=>1
  by_:=fun u=>match u with | .work=>104 | .slot=>24 | .int=>8 | .str=>16 | .bool=>1
  tid:=fun u=>match u with | .work=>53 | .slot=>39 | .int=>3 | .str=>9 | .bool=>4
  agg:=fun u=>match u with | .work=>true | .slot=>true | .int=>false | .str=>false | .bool=>false
  fl:=fun u=>match u with | .work=>false | _=>true
  G:=fun _=>True
  keq:=fun u=>match u with | .int=>rR | .str=>dE | _=>fun _ _=>false
  kok:=fun u=>match u with | .int=>true | .str=>true | _=>false
  vok:=fun u=>match u with | .int=>true | .bool=>true | _=>false
theorem rS:UGood Try.prog E where
  len:=fun u x=>by cases u<;>first | rfl | (cases x<;>rfl)
  pos:=fun u=>by cases u<;>decide
  bpos:=fun u=>by cases u<;>decide
  cell:=fun u x c hc=>by
    cases u<;>first | (cases x<;>(simp [E] at hc; subst hc; rfl); done) | skip
    all_goals simp only [E,List.mem_cons,List.not_mem_nil,or_false] at hc<;>(repeat' (rcases hc with rfl | hc))<;>first | rfl | (subst hc; rfl)
  flat:=fun u hu x c hc=>by
    cases u
    · cases hu
    · simp only [E,List.mem_cons,List.not_mem_nil,or_false] at hc<;>(repeat' (rcases hc with rfl | hc))<;>first | rfl | (subst hc; rfl)
    · simp only [E,List.mem_cons,List.not_mem_nil,or_false] at hc<;>(repeat' (rcases hc with rfl | hc))<;>first | rfl | (subst hc; rfl)
    · simp only [E,List.mem_cons,List.not_mem_nil,or_false] at hc<;>(repeat' (rcases hc with rfl | hc))<;>first | rfl | (subst hc; rfl)
    · simp only [E,List.mem_cons,List.not_mem_nil,or_false] at hc<;>(repeat' (rcases hc with rfl | hc))<;>first | rfl | (subst hc; rfl)
  gst:=fun w w' h hb=>h
  key:=fun u h=>by
    cases u
    · cases h
    · cases h
    · exact oE (fun x=>x) rfl (by kernel_rfl) (fun _=>rfl) (fun _ _=>rfl)
    · exact oD (fun x=>x) rfl (by kernel_rfl) (fun _=>rfl) (fun _ _=>rfl)
    · cases h
  val:=fun u h=>by
    cases u
    · cases h
    · cases h
    · exact kk rfl Try.type3 rfl rfl (fun _ _ _ => .int _ _)
    · cases h
    · exact kk rfl Try.type4 rfl rfl (fun _ _ _ => .bool _)
  dec := fun u cs x h => by
    cases u
    · simp only [E] at h
      split at h<;>first | (cases h; refine ⟨rfl,fun j c hj => ?_⟩; match j,hj with | 0,hj=>(cases hj; first | exact ⟨_,rfl,.inl rfl⟩ | exact ⟨_,rfl,.inr ⟨rfl,_,rfl⟩⟩) | 1,hj=>(cases hj; first | exact ⟨_,rfl,.inl rfl⟩ | exact ⟨_,rfl,.inr ⟨rfl,_,rfl⟩⟩) | 2,hj=>(cases hj; first | exact ⟨_,rfl,.inl rfl⟩ | exact ⟨_,rfl,.inr ⟨rfl,_,rfl⟩⟩) | 3,hj=>(cases hj; first | exact ⟨_,rfl,.inl rfl⟩ | exact ⟨_,rfl,.inr ⟨rfl,_,rfl⟩⟩) | 4,hj=>(cases hj; first | exact ⟨_,rfl,.inl rfl⟩ | exact ⟨_,rfl,.inr ⟨rfl,_,rfl⟩⟩) | 5,hj=>(cases hj; first | exact ⟨_,rfl,.inl rfl⟩ | exact ⟨_,rfl,.inr ⟨rfl,_,rfl⟩⟩) | 6,hj=>(cases hj; first | exact ⟨_,rfl,.inl rfl⟩ | exact ⟨_,rfl,.inr ⟨rfl,_,rfl⟩⟩)) | cases h
    · simp only [E] at h
      split at h<;>first | (cases h; exact ⟨rfl,fun j c hj=>⟨c,hj,.inl rfl⟩⟩) | cases h
    · simp only [E] at h
      split at h<;>first | (cases h; exact ⟨rfl,fun j c hj=>⟨c,hj,.inl rfl⟩⟩) | cases h
    · simp only [E] at h
      split at h<;>first | (cases h; exact ⟨rfl,fun j c hj=>⟨c,hj,.inl rfl⟩⟩) | cases h
    · simp only [E] at h
      split at h<;>first | (cases h; exact ⟨rfl,fun j c hj=>⟨c,hj,.inl rfl⟩⟩) | cases h
  info:=fun u=>by
    cases u
    · refine ⟨_, _, Try.type53, rfl, rfl, rfl, rfl, fun j c hj => ?_⟩
      match j,hj with | 0,hj=>(cases hj; exact ⟨_,rfl,fun _ _ _ => .str _⟩) | 1,hj=>(cases hj; exact ⟨_,rfl,fun _ _ _ => .int _ _⟩) | 2,hj=>(cases hj; exact ⟨_,rfl,fun _ _ _ => .lstE _ _ _⟩) | 3,hj=>(cases hj; exact ⟨_,rfl,fun _ _ _ => .str _⟩) | 4,hj=>(cases hj; exact ⟨_,rfl,fun _ _ _ => .lstE _ _ _⟩) | 5,hj=>(cases hj; exact ⟨_,rfl,fun _ _ _ => .int _ _⟩) | 6,hj=>(cases hj; exact ⟨_,rfl,fun _ _ _ => .int _ _⟩)
    · exact iP Try.type39 rfl rfl rfl rfl rfl
    · exact iP Try.type3 rfl rfl rfl rfl rfl
    · exact iP Try.type9 rfl rfl rfl rfl rfl
    · exact iP Try.type4 rfl rfl rfl rfl rfl
noncomputable def aa:Work:=(⟨[],0,[],[],[],0,0⟩:Work)
noncomputable def d_slot:Slot:=(⟨0,0,0⟩:Slot)
noncomputable def d_int:Int:=0
noncomputable def d_bool:Bool:=false
abbrev R:=Option (Fin U El)
noncomputable def tds:List (TypeId×TD U):=[(3,.int .i64),(4,.bool),(5,.int .u8),(9,.str),(22,.slice .work),(23,.slice .slot),(26,.int .i64),(39,.struct [(0,1,false),(1,1,false),(2,1,false)] 3),(46,.slice .int),(48,.int .u16),(53,.struct [(0,1,false),(1,1,false),(2,1,false),(3,1,false),(4,1,false),(5,1,false),(6,1,false)] 7),(63,.one),(65,.one),(68,.map .str .bool),(70,.slice .bool),(72,.ptr),(74,.one),(76,.struct [(0,1,false),(1,1,false),(2,1,false)] 3),(82,.struct [(0,1,false),(1,1,false),(2,1,false),(3,1,false),(4,1,false)] 5),(85,.one),(99,.one)]
noncomputable def zeros:List (TypeId×Value):=[(3,(Try.t3.zero).getD (.int .i64 0)),(4,(Try.t4.zero).getD (.int .i64 0)),(23,(Try.t23.zero).getD (.int .i64 0)),(39,(Try.t39.zero).getD (.int .i64 0)),(46,(Try.t46.zero).getD (.int .i64 0)),(53,(Try.t53.zero).getD (.int .i64 0)),(70,(Try.t70.zero).getD (.int .i64 0)),(72,(Try.t72.zero).getD (.int .i64 0)),(74,(Try.t74.zero).getD (.int .i64 0)),(76,(Try.t76.zero).getD (.int .i64 0)),(82,(Try.t82.zero).getD (.int .i64 0)),(99,(Try.t99.zero).getD (.int .i64 0))]
noncomputable def eqs:List (TypeId×List Nat):=[(39,[0,0,0])]
theorem tab:TabOk Try.prog E tds zeros eqs:=sr (by kernel_rfl) rS (by kernel_rfl) (by
  intro p hp
  simp only [zeros,List.mem_cons,List.not_mem_nil,or_false] at hp
  rcases hp with rfl | rfl | rfl | rfl | rfl | rfl | rfl | rfl | rfl | rfl | rfl | rfl
  · exact ⟨Try.t3,Try.type3,rfl⟩
  · exact ⟨Try.t4,Try.type4,rfl⟩
  · exact ⟨Try.t23,Try.type23,rfl⟩
  · exact ⟨Try.t39,Try.type39,rfl⟩
  · exact ⟨Try.t46,Try.type46,rfl⟩
  · exact ⟨Try.t53,Try.type53,rfl⟩
  · exact ⟨Try.t70,Try.type70,rfl⟩
  · exact ⟨Try.t72,Try.type72,rfl⟩
  · exact ⟨Try.t74,Try.type74,rfl⟩
  · exact ⟨Try.t76,Try.type76,rfl⟩
  · exact ⟨Try.t82,Try.type82,rfl⟩
  · exact ⟨Try.t99,Try.type99,rfl⟩) (by kernel_rfl)
end Go.Proofs.Ythdklallcljhlaa
