/- The kinds of rows of this chapter, and what the program's table of types says of them. -/
import Derived.Test.YtkeplmpcijigaaaLKO
import Derived.Test.YtkeplmpcijigaaaLU
import Derived.KernelRfl
import Derived.Test.YtkeplmpcijigaaaProg
namespace Go.Proofs.Ytkeplmpcijigaaa
variable [Drw]
set_option linter.unusedSectionVars false
set_option linter.unusedSimpArgs false
set_option linter.unusedVariables false
set_option maxRecDepth 100000
structure Msg where
  nd:List UInt8
  no:Int
  at_:Int
  ar:Int
  lv:Int
deriving DecidableEq
structure Key where
  kn:List UInt8
  ki:Int
deriving DecidableEq
structure RF where
  dl:Int
  gt:List Msg
  wt:List Msg
  lt:List Msg
deriving DecidableEq
inductive U where
  | msg | int | str | bool | key | u8 | rf
deriving DecidableEq
noncomputable def El:U→Type
  | .msg=>Msg
  | .int=>Int
  | .str=>List UInt8
  | .bool=>Bool
  | .key=>Key
  | .u8=>UInt8
  | .rf=>RF
noncomputable def kq_key:Key→Key→Bool:=fun a b=>((a.kn == b.kn)&&((a.ki == b.ki)&&true))
noncomputable def E:Univ U El where
  enc:=fun u=>match u with
    | .msg=>fun (x:Msg)=>[.str x.nd,.int .i64 x.no,.int .i64 x.at_,.int .i64 x.ar,.int .i64 x.lv]
    | .int=>fun (x:Int)=>[.int .i64 x]
    | .str=>fun (x:List UInt8)=>[.str x]
    | .bool=>fun (x:Bool)=>[.bool x]
    | .key=>fun (x:Key)=>[.str x.kn,.int .i64 x.ki]
    | .u8=>fun (x:UInt8)=>[.int .u8 (Int.ofNat x.toNat)]
    | .rf=>fun (x:RF)=>[.int .i64 x.dl,.lst .msg x.gt,.lst .msg x.wt,.lst .msg x.lt]
  dec := fun u cs => match u with
    | .msg => match cs with
      | [.str f0,.int .i64 f1,.int .i64 f2,.int .i64 f3,.int .i64 f4]=>some (⟨f0,f1,f2,f3,f4⟩:Msg)
      | _=>none
    | .int => match cs with
      | [.int .i64 f0]=>some (f0:Int)
      | _=>none
    | .str => match cs with
      | [.str f0]=>some (f0:List UInt8)
      | _=>none
    | .bool => match cs with
      | [.bool f0]=>some (f0:Bool)
      | _=>none
    | .key => match cs with
      | [.str f0,.int .i64 f1]=>some (⟨f0,f1⟩:Key)
      | _=>none
    | .u8=>none
    | .rf=>none
  dflt:=fun u=>match u with
    | .msg=>(⟨[],0,0,0,0⟩:Msg)
    | .int=>(0:Int)
    | .str=>([]:List UInt8)
    | .bool=>(false:Bool)
    | .key=>(⟨[],0⟩:Key)
    | .u8=>(0:UInt8)
    | .rf=>(⟨0,[],[],[]⟩:RF)
  sz:=fun u=>match u with | .msg=>5 | .int=>1 | .str=>1 | .bool=>1 | .key=>2 | .u8=>1 | .rf=>4
  by_:=fun u=>match u with | .msg=>48 | .int=>8 | .str=>16 | .bool=>1 | .key=>24 | .u8=>1 | .rf=>80
  tid:=fun u=>match u with | .msg=>33 | .int=>3 | .str=>9 | .bool=>4 | .key=>74 | .u8=>5 | .rf=>31
  agg:=fun u=>match u with | .msg=>true | .int=>false | .str=>false | .bool=>false | .key=>true | .u8=>false | .rf=>true
  fl:=fun u=>match u with | .rf=>false | _=>true
  G:=fun _=>True
  keq:=fun u=>match u with | .key=>kq_key | _=>fun _ _=>false
  kok:=fun u=>match u with | .key=>true | _=>false
  vok:=fun u=>match u with | .bool=>true | _=>false
theorem E_good:UGood Try.prog E where
  len:=fun u x=>by cases u<;>first | rfl | (cases x<;>rfl)
  pos:=fun u=>by cases u<;>decide
  bpos:=fun u=>by cases u<;>decide
  cell:=fun u x c hc=>by
    cases u<;>first | (cases x<;>(simp [E] at hc; subst hc; rfl); done) | skip
    all_goals simp only [E,List.mem_cons,List.not_mem_nil,or_false] at hc<;>(repeat' (rcases hc with rfl | hc))<;>first | rfl | (subst hc; rfl)
  flat:=fun u hu x c hc=>by
    cases u
    · simp only [E,List.mem_cons,List.not_mem_nil,or_false] at hc<;>(repeat' (rcases hc with rfl | hc))<;>first | rfl | (subst hc; rfl)
    · simp only [E,List.mem_cons,List.not_mem_nil,or_false] at hc<;>(repeat' (rcases hc with rfl | hc))<;>first | rfl | (subst hc; rfl)
    · simp only [E,List.mem_cons,List.not_mem_nil,or_false] at hc<;>(repeat' (rcases hc with rfl | hc))<;>first | rfl | (subst hc; rfl)
    · simp only [E,List.mem_cons,List.not_mem_nil,or_false] at hc<;>(repeat' (rcases hc with rfl | hc))<;>first | rfl | (subst hc; rfl)
    · simp only [E,List.mem_cons,List.not_mem_nil,or_false] at hc<;>(repeat' (rcases hc with rfl | hc))<;>first | rfl | (subst hc; rfl)
    · simp only [E,List.mem_cons,List.not_mem_nil,or_false] at hc<;>(repeat' (rcases hc with rfl | hc))<;>first | rfl | (subst hc; rfl)
    · cases hu
  gst:=fun w w' h hb=>h
  key:=fun u h=>by
    cases u
    · cases h
    · cases h
    · cases h
    · cases h
    · exact keyOk_struct (ts:=[2,0]) rfl (eqOkS_of (by kernel_rfl) (by kernel_rfl)) rfl (fun _=>rfl) (fun x y=>by simp [E,cellsEq,kq_key])
    · cases h
    · cases h
  val:=fun u h=>by
    cases u
    · cases h
    · cases h
    · cases h
    · exact valOk_one rfl Try.type4 rfl rfl (fun _ _ _ => .bool _)
    · cases h
    · cases h
    · cases h
  dec := fun u cs x h => by
    cases u
    · simp only [E] at h
      split at h<;>first | (cases h; exact ⟨rfl,fun j c hj=>⟨c,hj,.inl rfl⟩⟩) | cases h
    · simp only [E] at h
      split at h<;>first | (cases h; exact ⟨rfl,fun j c hj=>⟨c,hj,.inl rfl⟩⟩) | cases h
    · simp only [E] at h
      split at h<;>first | (cases h; exact ⟨rfl,fun j c hj=>⟨c,hj,.inl rfl⟩⟩) | cases h
    · simp only [E] at h
      split at h<;>first | (cases h; exact ⟨rfl,fun j c hj=>⟨c,hj,.inl rfl⟩⟩) | cases h
    · simp only [E] at h
      split at h<;>first | (cases h; exact ⟨rfl,fun j c hj=>⟨c,hj,.inl rfl⟩⟩) | cases h
    · cases h
    · cases h
  info:=fun u=>by
    cases u
    · exact info_of Try.type33 rfl rfl rfl rfl rfl
    · exact info_of Try.type3 rfl rfl rfl rfl rfl
    · exact info_of Try.type9 rfl rfl rfl rfl rfl
    · exact info_of Try.type4 rfl rfl rfl rfl rfl
    · exact info_of Try.type74 rfl rfl rfl rfl rfl
    · exact info_of Try.type5 rfl rfl rfl rfl rfl
    · refine ⟨_, _, Try.type31, rfl, rfl, rfl, rfl, fun j c hj => ?_⟩
      match j,hj with | 0,hj=>(cases hj; exact ⟨_,rfl,fun _ _ _ => .int _ _⟩) | 1,hj=>(cases hj; exact ⟨_,rfl,fun _ _ _ => .lstE _ _ _⟩) | 2,hj=>(cases hj; exact ⟨_,rfl,fun _ _ _ => .lstE _ _ _⟩) | 3,hj=>(cases hj; exact ⟨_,rfl,fun _ _ _ => .lstE _ _ _⟩)
noncomputable def d_msg:Msg:=(⟨[],0,0,0,0⟩:Msg)
noncomputable def d_int:Int:=0
noncomputable def d_bool:Bool:=false
abbrev R:=Option (Fin U El)
noncomputable def tds:List (TypeId×TD U):=[(3,.int .i64),(4,.bool),(5,.int .u8),(9,.str),(22,.slice .msg),(23,.slice .bool),(26,.ptr),(31,.struct [(0,1,false),(1,1,false),(2,1,false),(3,1,false)] 4),(33,.struct [(0,1,false),(1,1,false),(2,1,false),(3,1,false),(4,1,false)] 5),(48,.int .u16),(51,.one),(55,.slice .u8),(56,.slice .int),(67,.one),(69,.map .key .bool),(71,.struct [(0,1,false),(1,1,false),(2,1,false),(3,1,false),(4,1,false),(5,1,false)] 6),(74,.struct [(0,1,false),(1,1,false)] 2),(80,.one)]
noncomputable def zeros:List (TypeId×Value):=[(31,(Try.t31.zero).getD (.int .i64 0)),(33,(Try.t33.zero).getD (.int .i64 0)),(71,(Try.t71.zero).getD (.int .i64 0)),(74,(Try.t74.zero).getD (.int .i64 0))]
noncomputable def eqs:List (TypeId×List Nat):=[(33,[2,0,0,0,0])]
theorem tab:TabOk Try.prog E tds zeros eqs:=tabOk (by kernel_rfl) E_good (by kernel_rfl) (by
  intro p hp
  simp only [zeros,List.mem_cons,List.not_mem_nil,or_false] at hp
  rcases hp with rfl | rfl | rfl | rfl
  · exact ⟨Try.t31,Try.type31,rfl⟩
  · exact ⟨Try.t33,Try.type33,rfl⟩
  · exact ⟨Try.t71,Try.type71,rfl⟩
  · exact ⟨Try.t74,Try.type74,rfl⟩) (by kernel_rfl)
end Go.Proofs.Ytkeplmpcijigaaa
