/- The kinds of rows of this chapter, and what the program's table of types says of them. -/
import Derived.Test.YtkeplmpcijigaaaGreatDoorLKO
import Derived.Test.YtkeplmpcijigaaaGreatDoorLU
import Derived.Lib.LaidTab
import Derived.Lib.ItoaNum
import Derived.KernelRfl
import Derived.Test.YtkeplmpcijigaaaGreatDoorProg
namespace Go.Proofs.YtkeplmpcijigaaaGreatDoor
variable [Drw]
set_option linter.unusedSectionVars false
set_option linter.unusedSimpArgs false
set_option linter.unusedVariables false
set_option maxRecDepth 100000
structure Msg where
  nd:List UInt8
  no:Int
  at_:Int
  ar:Int
  lv:Int
deriving DecidableEq
structure Key where
  kn:List UInt8
  ki:Int
deriving DecidableEq
structure Span where
  slo:Int
  shi:Int
deriving DecidableEq
inductive U where
  | msg | int | str | bool | key | u8 | span | pint
deriving DecidableEq
noncomputable def El:U→Type
  | .msg=>Msg
  | .int=>Int
  | .str=>List UInt8
  | .bool=>Bool
  | .key=>Key
  | .u8=>UInt8
  | .span=>Span
  | .pint=>Option (List Int×Nat)
noncomputable def kq_key:Key→Key→Bool:=fun a b=>((a.kn == b.kn)&&((a.ki == b.ki)&&true))
noncomputable def E:Univ U El where
  enc:=fun u=>match u with
    | .msg=>fun (x:Msg)=>[.str x.nd,.int .i64 x.no,.int .i64 x.at_,.int .i64 x.ar,.int .i64 x.lv]
    | .int=>fun (x:Int)=>[.int .i64 x]
    | .str=>fun (x:List UInt8)=>[.str x]
    | .bool=>fun (x:Bool)=>[.bool x]
    | .key=>fun (x:Key)=>[.str x.kn,.int .i64 x.ki]
    | .u8=>fun (x:UInt8)=>[.int .u8 (Int.ofNat x.toNat)]
    | .span=>fun (x:Span)=>[.int .i64 x.slo,.int .i64 x.shi]
    | .pint=>fun (x:Option (List Int×Nat))=>(match x with | none=>[.nilp] | some p=>[.pel .int p.1 p.2 0])
  dec := fun u cs => match u with
    | .msg => match cs with
      | [.str f0,.int .i64 f1,.int .i64 f2,.int .i64 f3,.int .i64 f4]=>some (⟨f0,f1,f2,f3,f4⟩:Msg)
      | _=>none
    | .int => match cs with
      | [.int .i64 f0]=>some (f0:Int)
      | _=>none
    | .str => match cs with
      | [.str f0]=>some (f0:List UInt8)
      | _=>none
    | .bool => match cs with
      | [.bool f0]=>some (f0:Bool)
      | _=>none
    | .key => match cs with
      | [.str f0,.int .i64 f1]=>some (⟨f0,f1⟩:Key)
      | _=>none
    | .u8=>none
    | .span => match cs with
      | [.int .i64 f0,.int .i64 f1]=>some (⟨f0,f1⟩:Span)
      | _=>none
    | .pint => match cs with
      | [.nilp]=>some (none:Option (List Int×Nat))
      | [.pel .int f0 f1 0]=>some (some (f0,f1):Option (List Int×Nat))
      | _=>none
  dflt:=fun u=>match u with
    | .msg=>(⟨[],0,0,0,0⟩:Msg)
    | .int=>(0:Int)
    | .str=>([]:List UInt8)
    | .bool=>(false:Bool)
    | .key=>(⟨[],0⟩:Key)
    | .u8=>(0:UInt8)
    | .span=>(⟨0,0⟩:Span)
    | .pint=>(none:Option (List Int×Nat))
  sz:=fun u=>match u with | .msg=>5 | .int=>1 | .str=>1 | .bool=>1 | .key=>2 | .u8=>1 | .span=>2 | .pint=>1
  by_:=fun u=>match u with | .msg=>48 | .int=>8 | .str=>16 | .bool=>1 | .key=>24 | .u8=>1 | .span=>16 | .pint=>8
  tid:=fun u=>match u with | .msg=>24 | .int=>3 | .str=>9 | .bool=>4 | .key=>66 | .u8=>5 | .span=>83 | .pint=>52
  agg:=fun u=>match u with | .msg=>true | .int=>false | .str=>false | .bool=>false | .key=>true | .u8=>false | .span=>true | .pint=>false
  fl:=fun u=>match u with | .pint=>false | _=>true
  G := fun w => Lib.TabIs Tryz.prog w "internal/strconv.uint64pow10" .u64 Lib.pow10Tab ∧ ((∃ m : Int, w.cell? ⟨2, 0, none⟩ = some (.int .i64 m)) ∧ ((∃ ev, w.cell? ⟨0, 0, none⟩ = some ev ∧ (ev = .nilIface ∨ ∃ te pe, ev = .iface te pe)) ∧ (∃ ev, w.cell? ⟨1, 0, none⟩ = some ev ∧ (ev = .nilIface ∨ ∃ te pe, ev = .iface te pe))))
  keq:=fun u=>match u with | .key=>kq_key | _=>fun _ _=>false
  kok:=fun u=>match u with | .key=>true | _=>false
  vok:=fun u=>match u with | .bool=>true | _=>false
  boxS:=fun t=>bif Nat.beq t 53 then 4 else 0
theorem E_good:UGood Tryz.prog E where
  len:=fun u x=>by cases u<;>first | rfl | (cases x<;>rfl)
  pos:=fun u=>by cases u<;>decide
  bpos:=fun u=>by cases u<;>decide
  cell:=fun u x c hc=>by
    cases u<;>first | (cases x<;>(simp [E] at hc; subst hc; rfl); done) | skip
    all_goals simp only [E,List.mem_cons,List.not_mem_nil,or_false] at hc<;>(repeat' (rcases hc with rfl | hc))<;>first | rfl | (subst hc; rfl)
  flat:=fun u hu x c hc=>by
    cases u
    · simp only [E,List.mem_cons,List.not_mem_nil,or_false] at hc<;>(repeat' (rcases hc with rfl | hc))<;>first | rfl | (subst hc; rfl)
    · simp only [E,List.mem_cons,List.not_mem_nil,or_false] at hc<;>(repeat' (rcases hc with rfl | hc))<;>first | rfl | (subst hc; rfl)
    · simp only [E,List.mem_cons,List.not_mem_nil,or_false] at hc<;>(repeat' (rcases hc with rfl | hc))<;>first | rfl | (subst hc; rfl)
    · simp only [E,List.mem_cons,List.not_mem_nil,or_false] at hc<;>(repeat' (rcases hc with rfl | hc))<;>first | rfl | (subst hc; rfl)
    · simp only [E,List.mem_cons,List.not_mem_nil,or_false] at hc<;>(repeat' (rcases hc with rfl | hc))<;>first | rfl | (subst hc; rfl)
    · simp only [E,List.mem_cons,List.not_mem_nil,or_false] at hc<;>(repeat' (rcases hc with rfl | hc))<;>first | rfl | (subst hc; rfl)
    · simp only [E,List.mem_cons,List.not_mem_nil,or_false] at hc<;>(repeat' (rcases hc with rfl | hc))<;>first | rfl | (subst hc; rfl)
    · cases hu
  gst:=fun w w' h hb=>⟨tab_below h.1 hb,⟨by obtain ⟨m,hm⟩:=h.2.1; exact ⟨m,(hb.cell (p:=⟨2,0,none⟩) (World.block_lt_of_cell? w ⟨2,0,none⟩ hm)).trans hm⟩,by obtain ⟨ev,hm,he⟩:=h.2.2.1; exact ⟨ev,(hb.cell (p:=⟨_,0,none⟩) (World.block_lt_of_cell? w _ hm)).trans hm,he⟩,by obtain ⟨ev,hm,he⟩:=h.2.2.2; exact ⟨ev,(hb.cell (p:=⟨_,0,none⟩) (World.block_lt_of_cell? w _ hm)).trans hm,he⟩⟩⟩
  key:=fun u h=>by
    cases u
    · cases h
    · cases h
    · cases h
    · cases h
    · exact keyOk_struct (ts:=[2,0]) rfl (eqOkS_of (by kernel_rfl) (by kernel_rfl)) rfl (fun _=>rfl) (fun x y=>by simp [E,cellsEq,kq_key])
    · cases h
    · cases h
    · cases h
  val:=fun u h=>by
    cases u
    · cases h
    · cases h
    · cases h
    · exact valOk_one rfl Tryz.type4 rfl rfl (fun _ _ _ => .bool _)
    · cases h
    · cases h
    · cases h
    · cases h
  dec := fun u cs x h => by
    cases u
    · simp only [E] at h
      split at h<;>first | (cases h; exact ⟨rfl,fun j c hj=>⟨c,hj,.inl rfl⟩⟩) | cases h
    · simp only [E] at h
      split at h<;>first | (cases h; exact ⟨rfl,fun j c hj=>⟨c,hj,.inl rfl⟩⟩) | cases h
    · simp only [E] at h
      split at h<;>first | (cases h; exact ⟨rfl,fun j c hj=>⟨c,hj,.inl rfl⟩⟩) | cases h
    · simp only [E] at h
      split at h<;>first | (cases h; exact ⟨rfl,fun j c hj=>⟨c,hj,.inl rfl⟩⟩) | cases h
    · simp only [E] at h
      split at h<;>first | (cases h; exact ⟨rfl,fun j c hj=>⟨c,hj,.inl rfl⟩⟩) | cases h
    · cases h
    · simp only [E] at h
      split at h<;>first | (cases h; exact ⟨rfl,fun j c hj=>⟨c,hj,.inl rfl⟩⟩) | cases h
    · simp only [E] at h
      split at h<;>first | (cases h; exact ⟨rfl,fun j c hj=>⟨c,hj,.inl rfl⟩⟩) | cases h
  info:=fun u=>by
    cases u
    · exact info_of Tryz.type24 rfl rfl rfl rfl rfl
    · exact info_of Tryz.type3 rfl rfl rfl rfl rfl
    · exact info_of Tryz.type9 rfl rfl rfl rfl rfl
    · exact info_of Tryz.type4 rfl rfl rfl rfl rfl
    · exact info_of Tryz.type66 rfl rfl rfl rfl rfl
    · exact info_of Tryz.type5 rfl rfl rfl rfl rfl
    · exact info_of Tryz.type83 rfl rfl rfl rfl rfl
    · exact info_of Tryz.type52 rfl rfl rfl rfl rfl
noncomputable def d_msg:Msg:=(⟨[],0,0,0,0⟩:Msg)
noncomputable def d_int:Int:=0
noncomputable def d_str:List UInt8:=[]
noncomputable def d_bool:Bool:=false
abbrev R:=Option (Fin U El)
noncomputable def tds:List (TypeId×TD U):=[(3,.int .i64),(4,.bool),(5,.int .u8),(9,.str),(22,.slice .msg),(24,.struct [(0,1,false),(1,1,false),(2,1,false),(3,1,false),(4,1,false)] 5),(34,.one),(42,.ptr),(48,.slice .int),(50,.slice .str),(52,.ptr),(53,.slice .pint),(55,.iface),(64,.map .key .bool),(66,.struct [(0,1,false),(1,1,false)] 2),(71,.one),(73,.one),(77,.struct [(0,1,false),(1,1,false),(2,1,false),(3,1,false),(4,1,false),(5,1,false)] 6),(83,.struct [(0,1,false),(1,1,false)] 2)]
noncomputable def zeros:List (TypeId×Value):=[(24,(Tryz.t24.zero).getD (.int .i64 0)),(66,(Tryz.t66.zero).getD (.int .i64 0)),(77,(Tryz.t77.zero).getD (.int .i64 0)),(83,(Tryz.t83.zero).getD (.int .i64 0))]
noncomputable def eqs:List (TypeId×List Nat):=[(24,[2,0,0,0,0])]
theorem tab:TabOk Tryz.prog E tds zeros eqs:=tabOk (by kernel_rfl) E_good (by kernel_rfl) (by
  intro p hp
  simp only [zeros,List.mem_cons,List.not_mem_nil,or_false] at hp
  rcases hp with rfl | rfl | rfl | rfl
  · exact ⟨Tryz.t24,Tryz.type24,rfl⟩
  · exact ⟨Tryz.t66,Tryz.type66,rfl⟩
  · exact ⟨Tryz.t77,Tryz.type77,rfl⟩
  · exact ⟨Tryz.t83,Tryz.type83,rfl⟩) (by kernel_rfl)
end Go.Proofs.YtkeplmpcijigaaaGreatDoor
