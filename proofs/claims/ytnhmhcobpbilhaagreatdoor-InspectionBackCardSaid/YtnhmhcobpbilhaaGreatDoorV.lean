/- The kinds of rows of this chapter, and what the program's table of types says of them. -/
import Derived.Test.YtnhmhcobpbilhaaGreatDoorLKO
import Derived.Test.YtnhmhcobpbilhaaGreatDoorLU
import Derived.Test.YtnhmhcobpbilhaaGreatDoorBU
import Derived.Lib.LaidTab
import Derived.Lib.ItoaNum
import Derived.KernelRfl
import Derived.Test.YtnhmhcobpbilhaaGreatDoorProg
namespace Go.Proofs.YtnhmhcobpbilhaaGreatDoor
variable [Drw]
set_option linter.unusedSectionVars false
set_option linter.unusedSimpArgs false
set_option linter.unusedVariables false
set_option maxRecDepth 100000
structure Df where
  c:List UInt8
  a:Int
  l:Int
  s:Int
deriving DecidableEq
structure Pos where
  pl:Int
  pc:Int
deriving DecidableEq
inductive U where
  | df | pos | int | str | bool | u8
deriving DecidableEq
noncomputable def El:U→Type
  | .df=>Df
  | .pos=>Pos
  | .int=>Int
  | .str=>List UInt8
  | .bool=>Bool
  | .u8=>UInt8
noncomputable def E:Univ U El where
  enc:=fun u=>match u with
    | .df=>fun (x:Df)=>[.str x.c,.int .i64 x.a,.int .i64 x.l,.int .i64 x.s]
    | .pos=>fun (x:Pos)=>[.int .i64 x.pl,.int .i64 x.pc]
    | .int=>fun (x:Int)=>[.int .i64 x]
    | .str=>fun (x:List UInt8)=>[.str x]
    | .bool=>fun (x:Bool)=>[.bool x]
    | .u8=>fun (x:UInt8)=>[.int .u8 (Int.ofNat x.toNat)]
  dec := fun u cs => match u with
    | .df => match cs with
      | [.str f0,.int .i64 f1,.int .i64 f2,.int .i64 f3]=>some (⟨f0,f1,f2,f3⟩:Df)
      | _=>none
    | .pos => match cs with
      | [.int .i64 f0,.int .i64 f1]=>some (⟨f0,f1⟩:Pos)
      | _=>none
    | .int => match cs with
      | [.int .i64 f0]=>some (f0:Int)
      | _=>none
    | .str => match cs with
      | [.str f0]=>some (f0:List UInt8)
      | _=>none
    | .bool => match cs with
      | [.bool f0]=>some (f0:Bool)
      | _=>none
    | .u8=>none
  dflt:=fun u=>match u with
    | .df=>(⟨[],0,0,0⟩:Df)
    | .pos=>(⟨0,0⟩:Pos)
    | .int=>(0:Int)
    | .str=>([]:List UInt8)
    | .bool=>(false:Bool)
    | .u8=>(0:UInt8)
  sz:=fun u=>match u with | .df=>4 | .pos=>2 | .int=>1 | .str=>1 | .bool=>1 | .u8=>1
  by_:=fun u=>match u with | .df=>40 | .pos=>16 | .int=>8 | .str=>16 | .bool=>1 | .u8=>1
  tid:=fun u=>match u with | .df=>37 | .pos=>29 | .int=>3 | .str=>9 | .bool=>4 | .u8=>5
  agg:=fun u=>match u with | .df=>true | .pos=>true | .int=>false | .str=>false | .bool=>false | .u8=>false
  fl:=fun _=>true
  G := fun w => Lib.TabIs Tryz.prog w "internal/strconv.uint64pow10" .u64 Lib.pow10Tab ∧ ((∃ m : Int, w.cell? ⟨1, 0, none⟩ = some (.int .i64 m)) ∧ ((∃ ev, w.cell? ⟨2, 0, none⟩ = some ev ∧ (ev = .nilIface ∨ ∃ te pe, ev = .iface te pe)) ∧ (∃ ev, w.cell? ⟨3, 0, none⟩ = some ev ∧ (ev = .nilIface ∨ ∃ te pe, ev = .iface te pe))))
  keq:=fun u=>match u with | _=>fun _ _=>false
  kok:=fun _=>false
  vok:=fun _=>false
theorem E_good:UGood Tryz.prog E where
  len:=fun u x=>by cases u<;>first | rfl | (cases x<;>rfl)
  pos:=fun u=>by cases u<;>decide
  bpos:=fun u=>by cases u<;>decide
  cell:=fun u x c hc=>by
    cases u<;>first | (cases x<;>(simp [E] at hc; subst hc; rfl); done) | skip
    all_goals simp only [E,List.mem_cons,List.not_mem_nil,or_false] at hc<;>(repeat' (rcases hc with rfl | hc))<;>first | rfl | (subst hc; rfl)
  flat:=fun u hu x c hc=>by
    cases u
    · simp only [E,List.mem_cons,List.not_mem_nil,or_false] at hc<;>(repeat' (rcases hc with rfl | hc))<;>first | rfl | (subst hc; rfl)
    · simp only [E,List.mem_cons,List.not_mem_nil,or_false] at hc<;>(repeat' (rcases hc with rfl | hc))<;>first | rfl | (subst hc; rfl)
    · simp only [E,List.mem_cons,List.not_mem_nil,or_false] at hc<;>(repeat' (rcases hc with rfl | hc))<;>first | rfl | (subst hc; rfl)
    · simp only [E,List.mem_cons,List.not_mem_nil,or_false] at hc<;>(repeat' (rcases hc with rfl | hc))<;>first | rfl | (subst hc; rfl)
    · simp only [E,List.mem_cons,List.not_mem_nil,or_false] at hc<;>(repeat' (rcases hc with rfl | hc))<;>first | rfl | (subst hc; rfl)
    · simp only [E,List.mem_cons,List.not_mem_nil,or_false] at hc<;>(repeat' (rcases hc with rfl | hc))<;>first | rfl | (subst hc; rfl)
  gst:=fun w w' h hb=>⟨tab_below h.1 hb,⟨by obtain ⟨m,hm⟩:=h.2.1; exact ⟨m,(hb.cell (p:=⟨1,0,none⟩) (World.block_lt_of_cell? w ⟨1,0,none⟩ hm)).trans hm⟩,by obtain ⟨ev,hm,he⟩:=h.2.2.1; exact ⟨ev,(hb.cell (p:=⟨_,0,none⟩) (World.block_lt_of_cell? w _ hm)).trans hm,he⟩,by obtain ⟨ev,hm,he⟩:=h.2.2.2; exact ⟨ev,(hb.cell (p:=⟨_,0,none⟩) (World.block_lt_of_cell? w _ hm)).trans hm,he⟩⟩⟩
  key:=fun u h=>by
    cases u
    · cases h
    · cases h
    · cases h
    · cases h
    · cases h
    · cases h
  val:=fun u h=>by
    cases u
    · cases h
    · cases h
    · cases h
    · cases h
    · cases h
    · cases h
  dec := fun u cs x h => by
    cases u
    · simp only [E] at h
      split at h<;>first | (cases h; exact ⟨rfl,fun j c hj=>⟨c,hj,.inl rfl⟩⟩) | cases h
    · simp only [E] at h
      split at h<;>first | (cases h; exact ⟨rfl,fun j c hj=>⟨c,hj,.inl rfl⟩⟩) | cases h
    · simp only [E] at h
      split at h<;>first | (cases h; exact ⟨rfl,fun j c hj=>⟨c,hj,.inl rfl⟩⟩) | cases h
    · simp only [E] at h
      split at h<;>first | (cases h; exact ⟨rfl,fun j c hj=>⟨c,hj,.inl rfl⟩⟩) | cases h
    · simp only [E] at h
      split at h<;>first | (cases h; exact ⟨rfl,fun j c hj=>⟨c,hj,.inl rfl⟩⟩) | cases h
    · cases h
  info:=fun u=>by
    cases u
    · exact info_of Tryz.type37 rfl rfl rfl rfl rfl
    · exact info_of Tryz.type29 rfl rfl rfl rfl rfl
    · exact info_of Tryz.type3 rfl rfl rfl rfl rfl
    · exact info_of Tryz.type9 rfl rfl rfl rfl rfl
    · exact info_of Tryz.type4 rfl rfl rfl rfl rfl
    · exact info_of Tryz.type5 rfl rfl rfl rfl rfl
theorem byteU:ByteU E .u8 (fun s=>s) (fun s=>s) where
  sz:=rfl
  by_:=rfl
  len:=fun _=>rfl
  enc:=fun s i h=>⟨s[i],List.getElem?_eq_getElem h,by simp [E,List.getD,List.getElem?_eq_getElem h]⟩
  lenU:=fun _=>rfl
  encU:=fun xs i y h=>⟨y,h,rfl⟩
noncomputable def d_df:Df:=(⟨[],0,0,0⟩:Df)
noncomputable def d_int:Int:=0
noncomputable def d_str:List UInt8:=[]
abbrev R:=Option (Fin U El)
noncomputable def tds:List (TypeId×TD U):=[(3,.int .i64),(4,.bool),(5,.int .u8),(9,.str),(22,.slice .df),(29,.struct [(0,1,false),(1,1,false)] 2),(37,.struct [(0,1,false),(1,1,false),(2,1,false),(3,1,false)] 4),(48,.one),(52,.bld .u8),(54,.iface),(57,.slice .int),(81,.slice .str),(83,.arr 3 1 false 3)]
noncomputable def zeros:List (TypeId×Value):=[(29,(Tryz.t29.zero).getD (.int .i64 0)),(37,(Tryz.t37.zero).getD (.int .i64 0)),(83,(Tryz.t83.zero).getD (.int .i64 0))]
noncomputable def eqs:List (TypeId×List Nat):=[(29,[0,0]),(37,[2,0,0,0])]
theorem tab:TabOk Tryz.prog E tds zeros eqs:=tabOk (by kernel_rfl) E_good (by kernel_rfl) (by
  intro p hp
  simp only [zeros,List.mem_cons,List.not_mem_nil,or_false] at hp
  rcases hp with rfl | rfl | rfl
  · exact ⟨Tryz.t29,Tryz.type29,rfl⟩
  · exact ⟨Tryz.t37,Tryz.type37,rfl⟩
  · exact ⟨Tryz.t83,Tryz.type83,rfl⟩) (by kernel_rfl)
end Go.Proofs.YtnhmhcobpbilhaaGreatDoor
