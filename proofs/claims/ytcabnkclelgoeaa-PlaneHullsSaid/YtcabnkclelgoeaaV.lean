/- The kinds of rows of this chapter, and what the program's table of types says of them. -/
import Derived.Test.YtcabnkclelgoeaaLKO
import Derived.Test.YtcabnkclelgoeaaLX
import Derived.KernelRfl
import Derived.Test.YtcabnkclelgoeaaProg
namespace Go.Proofs.Ytcabnkclelgoeaa
set_option linter.unusedSectionVars false
set_option linter.unusedSimpArgs false
set_option linter.unusedVariables false
set_option maxRecDepth 100000
instance drw0:Drw:=drwT
structure Pt where
  px:Int
  py:Int
deriving DecidableEq
inductive U where
  | pt | int
deriving DecidableEq
noncomputable def El:U→Type
  | .pt=>Pt
  | .int=>Int
noncomputable def kq_int:Int→Int→Bool:=fun a b=>(a == b)
noncomputable def E:Univ U El where
  enc:=fun u=>match u with
    | .pt=>fun (x:Pt)=>[.int .i64 x.px,.int .i64 x.py]
    | .int=>fun (x:Int)=>[.int .i64 x]
  dec := fun u cs => match u with
    | .pt => match cs with
      | [.int .i64 f0,.int .i64 f1]=>some (⟨f0,f1⟩:Pt)
      | _=>none
    | .int => match cs with
      | [.int .i64 f0]=>some (f0:Int)
      | _=>none
  dflt:=fun u=>match u with
    | .pt=>(⟨0,0⟩:Pt)
    | .int=>(0:Int)
  sz:=fun u=>match u with | .pt=>2 | .int=>1
  by_:=fun u=>match u with | .pt=>16 | .int=>8
  tid:=fun u=>match u with | .pt=>23 | .int=>3
  agg:=fun u=>match u with | .pt=>true | .int=>false
  fl:=fun _=>true
  G:=fun _=>True
  keq:=fun u=>match u with | .int=>kq_int | _=>fun _ _=>false
  kok:=fun u=>match u with | .int=>true | _=>false
  vok:=fun u=>match u with | .int=>true | _=>false
theorem E_good:UGood Try.prog E where
  len:=fun u x=>by cases u<;>first | rfl | (cases x<;>rfl)
  pos:=fun u=>by cases u<;>decide
  bpos:=fun u=>by cases u<;>decide
  cell:=fun u x c hc=>by
    cases u<;>first | (cases x<;>(simp [E] at hc; subst hc; rfl); done) | skip
    all_goals simp only [E,List.mem_cons,List.not_mem_nil,or_false] at hc<;>(repeat' (rcases hc with rfl | hc))<;>first | rfl | (subst hc; rfl)
  flat:=fun u hu x c hc=>by
    cases u
    · simp only [E,List.mem_cons,List.not_mem_nil,or_false] at hc<;>(repeat' (rcases hc with rfl | hc))<;>first | rfl | (subst hc; rfl)
    · simp only [E,List.mem_cons,List.not_mem_nil,or_false] at hc<;>(repeat' (rcases hc with rfl | hc))<;>first | rfl | (subst hc; rfl)
  gst:=fun w w' h hb=>h
  key:=fun u h=>by
    cases u
    · cases h
    · exact keyOk_int (fun x=>x) rfl (by kernel_rfl) (fun _=>rfl) (fun _ _=>rfl)
  val:=fun u h=>by
    cases u
    · cases h
    · exact valOk_one rfl Try.type3 rfl rfl (fun _ _ _ => .int _ _)
  dec := fun u cs x h => by
    cases u
    · simp only [E] at h
      split at h<;>first | (cases h; exact ⟨rfl,fun j c hj=>⟨c,hj,.inl rfl⟩⟩) | cases h
    · simp only [E] at h
      split at h<;>first | (cases h; exact ⟨rfl,fun j c hj=>⟨c,hj,.inl rfl⟩⟩) | cases h
  info:=fun u=>by
    cases u
    · exact info_of Try.type23 rfl rfl rfl rfl rfl
    · exact info_of Try.type3 rfl rfl rfl rfl rfl
noncomputable def d_pt:Pt:=(⟨0,0⟩:Pt)
noncomputable def d_int:Int:=0
abbrev R:=Option (Fin U El)
noncomputable def tds:List (TypeId×TD U):=[(3,.int .i64),(4,.bool),(23,.struct [(0,1,false),(1,1,false)] 2),(25,.int .i64),(29,.struct [(0,1,false),(1,1,false)] 2),(33,.slice .pt),(40,.one),(44,.struct [(0,1,false),(1,1,false)] 2),(69,.struct [(0,1,false),(1,1,false)] 2),(71,.int .u64),(87,.struct [(0,1,false),(1,1,false),(2,1,false)] 3),(99,.slice .int)]
noncomputable def zeros:List (TypeId×Value):=[(23,(Try.t23.zero).getD (.int .i64 0)),(29,(Try.t29.zero).getD (.int .i64 0)),(44,(Try.t44.zero).getD (.int .i64 0)),(69,(Try.t69.zero).getD (.int .i64 0)),(87,(Try.t87.zero).getD (.int .i64 0))]
noncomputable def eqs:List (TypeId×List Nat):=[(23,[0,0]),(29,[0,0]),(44,[0,0])]
theorem tab:TabOk Try.prog E tds zeros eqs:=tabOk (by kernel_rfl) E_good (by kernel_rfl) (by
  intro p hp
  simp only [zeros,List.mem_cons,List.not_mem_nil,or_false] at hp
  rcases hp with rfl | rfl | rfl | rfl | rfl
  · exact ⟨Try.t23,Try.type23,rfl⟩
  · exact ⟨Try.t29,Try.type29,rfl⟩
  · exact ⟨Try.t44,Try.type44,rfl⟩
  · exact ⟨Try.t69,Try.type69,rfl⟩
  · exact ⟨Try.t87,Try.type87,rfl⟩) (by kernel_rfl)
end Go.Proofs.Ytcabnkclelgoeaa
