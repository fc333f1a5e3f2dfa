/- The kinds of rows of this chapter, and what the program's table of types says of them. -/
import Derived.Test.YthdklallcljhlaaGreatDoorLU
import Derived.Test.YthdklallcljhlaaGreatDoorLX
import Derived.KernelRfl
import Derived.Lib.LaidTab
import Derived.Lib.ItoaNum
import Derived.Test.YthdklallcljhlaaGreatDoorProg
namespace Go.Proofs.YthdklallcljhlaaGreatDoor
set_option linter.unusedSectionVars false
set_option linter.unusedSimpArgs false
set_option linter.unusedVariables false
set_option maxRecDepth 100000
structure Work where
  wn:List UInt8
  wh:Int
  wc:List Int
  ws:List UInt8
  wa:List Int
  wd:Int
  wp:Int
deriving DecidableEq
structure Slot where
  sw:Int
  sc:Int
  ss:Int
deriving DecidableEq
structure Span where
  slo:Int
  shi:Int
deriving DecidableEq
inductive U where
  | work | slot | span | u8 | int | str | bool
deriving DecidableEq
noncomputable def El:U→Type
  | .work=>Work
  | .slot=>Slot
  | .span=>Span
  | .u8=>UInt8
  | .int=>Int
  | .str=>List UInt8
  | .bool=>Bool
noncomputable def rR:Int→Int→Bool:=fun a b=>(a == b)
noncomputable def dp:(List UInt8)→(List UInt8)→Bool:=fun a b=>(a == b)
noncomputable def E:Univ U El where
  enc:=fun u=>match u with
    | .work=>fun (x:Work)=>[.str x.wn,.int .i64 x.wh,.lst .int x.wc,.str x.ws,.lst .int x.wa,.int .i64 x.wd,.int .i64 x.wp]
    | .slot=>fun (x:Slot)=>[.int .i64 x.sw,.int .i64 x.sc,.int .i64 x.ss]
    | .span=>fun (x:Span)=>[.int .i64 x.slo,.int .i64 x.shi]
    | .u8=>fun (x:UInt8)=>[.int .u8 (Int.ofNat x.toNat)]
    | .int=>fun (x:Int)=>[.int .i64 x]
    | .str=>fun (x:List UInt8)=>[.str x]
    | .bool=>fun (x:Bool)=>[.bool x]
  dec := fun u cs => match u with
    | .work => match cs with
      | [.str f0,.int .i64 f1,.lst .int f2,.str f3,.lst .int f4,.int .i64 f5,.int .i64 f6]=>some (⟨f0,f1,f2,f3,f4,f5,f6⟩:Work)
      | [.str f0,.int .i64 f1,.lst .int f2,.str f3,.nils,.int .i64 f5,.int .i64 f6]=>some (⟨f0,f1,f2,f3,([]:List Int),f5,f6⟩:Work)
      | [.str f0,.int .i64 f1,.nils,.str f3,.lst .int f4,.int .i64 f5,.int .i64 f6]=>some (⟨f0,f1,([]:List Int),f3,f4,f5,f6⟩:Work)
      | [.str f0,.int .i64 f1,.nils,.str f3,.nils,.int .i64 f5,.int .i64 f6]=>some (⟨f0,f1,([]:List Int),f3,([]:List Int),f5,f6⟩:Work)
      | _=>none
    | .slot => match cs with
      | [.int .i64 f0,.int .i64 f1,.int .i64 f2]=>some (⟨f0,f1,f2⟩:Slot)
      | _=>none
    | .span => match cs with
      | [.int .i64 f0,.int .i64 f1]=>some (⟨f0,f1⟩:Span)
      | _=>none
    | .u8=>none
    | .int => match cs with
      | [.int .i64 f0]=>some (f0:Int)
      | _=>none
    | .str => match cs with
      | [.str f0]=>some (f0:List UInt8)
      | _=>none
    | .bool => match cs with
      | [.bool f0]=>some (f0:Bool)
      | _=>none
  dflt:=fun u=>match u with
    | .work=>(⟨[],0,[],[],[],0,0⟩:Work)
    | .slot=>(⟨0,0,0⟩:Slot)
    | .span=>(⟨0,0⟩:Span)
    | .u8=>(0:UInt8)
    | .int=>(0:Int)
    | .str=>([]:List UInt8)
    | .bool=>(false:Bool)
  sz:=fun u=>match u with | .work=>7 | .slot=>3 | .span=>2 | .u8=>1 | .int=>1 | .str=>1 | .bool=>1
  by_:=fun u=>match u with | .work=>104 | .slot=>24 | .span=>16 | .u8=>1 | .int=>8 | .str=>16 | .bool=>1
  tid:=fun u=>match u with | .work=>49 | .slot=>52 | .span=>42 | .u8=>5 | .int=>3 | .str=>9 | .bool=>4
  agg:=fun u=>match u with | .work=>true | .slot=>true | .span=>true | .u8=>false | .int=>false | .str=>false | .bool=>false
  fl:=fun u=>match u with | .work=>false | _=>true
  G := fun w => Lib.TabIs Tryz.prog w "internal/strconv.uint64pow10" .u64 Lib.pow10Tab ∧ ∃ m : Int, w.cell? ⟨0, 0, none⟩ = some (.int .i64 m)
  keq:=fun u=>match u with | .int=>rR | .str=>dp | _=>fun _ _=>false
  kok:=fun u=>match u with | .int=>true | .str=>true | _=>false
  vok:=fun u=>match u with | .int=>true | .bool=>true | _=>false
theorem rS:UGood Tryz.prog E where
  len:=fun u x=>by cases u<;>first | rfl | (cases x<;>rfl)
  pos:=fun u=>by cases u<;>decide
  bpos:=fun u=>by cases u<;>decide
  cell:=fun u x c hc=>by
    cases u<;>first | (cases x<;>(simp [E] at hc; subst hc; rfl); done) | skip
    all_goals simp only [E,List.mem_cons,List.not_mem_nil,or_false] at hc<;>(repeat' (rcases hc with rfl | hc))<;>first | rfl | (subst hc; rfl)
  flat:=fun u hu x c hc=>by
    cases u
    · cases hu
    · simp only [E,List.mem_cons,List.not_mem_nil,or_false] at hc<;>(repeat' (rcases hc with rfl | hc))<;>first | rfl | (subst hc; rfl)
    · simp only [E,List.mem_cons,List.not_mem_nil,or_false] at hc<;>(repeat' (rcases hc with rfl | hc))<;>first | rfl | (subst hc; rfl)
    · simp only [E,List.mem_cons,List.not_mem_nil,or_false] at hc<;>(repeat' (rcases hc with rfl | hc))<;>first | rfl | (subst hc; rfl)
    · simp only [E,List.mem_cons,List.not_mem_nil,or_false] at hc<;>(repeat' (rcases hc with rfl | hc))<;>first | rfl | (subst hc; rfl)
    · simp only [E,List.mem_cons,List.not_mem_nil,or_false] at hc<;>(repeat' (rcases hc with rfl | hc))<;>first | rfl | (subst hc; rfl)
    · simp only [E,List.mem_cons,List.not_mem_nil,or_false] at hc<;>(repeat' (rcases hc with rfl | hc))<;>first | rfl | (subst hc; rfl)
  gst:=fun w w' h hb=>⟨oS h.1 hb,by obtain ⟨m,hm⟩:=h.2; exact ⟨m,(hb.cell (p:=⟨0,0,none⟩) (World.block_lt_of_cell? w ⟨0,0,none⟩ hm)).trans hm⟩⟩
  key:=fun u h=>by
    cases u
    · cases h
    · cases h
    · cases h
    · cases h
    · exact oU (fun x=>x) rfl (by kernel_rfl) (fun _=>rfl) (fun _ _=>rfl)
    · exact oT (fun x=>x) rfl (by kernel_rfl) (fun _=>rfl) (fun _ _=>rfl)
    · cases h
  val:=fun u h=>by
    cases u
    · cases h
    · cases h
    · cases h
    · cases h
    · exact j9 rfl Tryz.type3 rfl rfl (fun _ _ _ => .int _ _)
    · cases h
    · exact j9 rfl Tryz.type4 rfl rfl (fun _ _ _ => .bool _)
  dec := fun u cs x h => by
    cases u
    · simp only [E] at h
      split at h<;>first | (cases h; refine ⟨rfl,fun j c hj => ?_⟩; match j,hj with | 0,hj=>(cases hj; first | exact ⟨_,rfl,.inl rfl⟩ | exact ⟨_,rfl,.inr ⟨rfl,_,rfl⟩⟩) | 1,hj=>(cases hj; first | exact ⟨_,rfl,.inl rfl⟩ | exact ⟨_,rfl,.inr ⟨rfl,_,rfl⟩⟩) | 2,hj=>(cases hj; first | exact ⟨_,rfl,.inl rfl⟩ | exact ⟨_,rfl,.inr ⟨rfl,_,rfl⟩⟩) | 3,hj=>(cases hj; first | exact ⟨_,rfl,.inl rfl⟩ | exact ⟨_,rfl,.inr ⟨rfl,_,rfl⟩⟩) | 4,hj=>(cases hj; first | exact ⟨_,rfl,.inl rfl⟩ | exact ⟨_,rfl,.inr ⟨rfl,_,rfl⟩⟩) | 5,hj=>(cases hj; first | exact ⟨_,rfl,.inl rfl⟩ | exact ⟨_,rfl,.inr ⟨rfl,_,rfl⟩⟩) | 6,hj=>(cases hj; first | exact ⟨_,rfl,.inl rfl⟩ | exact ⟨_,rfl,.inr ⟨rfl,_,rfl⟩⟩)) | cases h
    · simp only [E] at h
      split at h<;>first | (cases h; exact ⟨rfl,fun j c hj=>⟨c,hj,.inl rfl⟩⟩) | cases h
    · simp only [E] at h
      split at h<;>first | (cases h; exact ⟨rfl,fun j c hj=>⟨c,hj,.inl rfl⟩⟩) | cases h
    · cases h
    · simp only [E] at h
      split at h<;>first | (cases h; exact ⟨rfl,fun j c hj=>⟨c,hj,.inl rfl⟩⟩) | cases h
    · simp only [E] at h
      split at h<;>first | (cases h; exact ⟨rfl,fun j c hj=>⟨c,hj,.inl rfl⟩⟩) | cases h
    · simp only [E] at h
      split at h<;>first | (cases h; exact ⟨rfl,fun j c hj=>⟨c,hj,.inl rfl⟩⟩) | cases h
  info:=fun u=>by
    cases u
    · refine ⟨_, _, Tryz.type49, rfl, rfl, rfl, rfl, fun j c hj => ?_⟩
      match j,hj with | 0,hj=>(cases hj; exact ⟨_,rfl,fun _ _ _ => .str _⟩) | 1,hj=>(cases hj; exact ⟨_,rfl,fun _ _ _ => .int _ _⟩) | 2,hj=>(cases hj; exact ⟨_,rfl,fun _ _ _ => .lstE _ _ _⟩) | 3,hj=>(cases hj; exact ⟨_,rfl,fun _ _ _ => .str _⟩) | 4,hj=>(cases hj; exact ⟨_,rfl,fun _ _ _ => .lstE _ _ _⟩) | 5,hj=>(cases hj; exact ⟨_,rfl,fun _ _ _ => .int _ _⟩) | 6,hj=>(cases hj; exact ⟨_,rfl,fun _ _ _ => .int _ _⟩)
    · exact fi Tryz.type52 rfl rfl rfl rfl rfl
    · exact fi Tryz.type42 rfl rfl rfl rfl rfl
    · exact fi Tryz.type5 rfl rfl rfl rfl rfl
    · exact fi Tryz.type3 rfl rfl rfl rfl rfl
    · exact fi Tryz.type9 rfl rfl rfl rfl rfl
    · exact fi Tryz.type4 rfl rfl rfl rfl rfl
theorem rB:ByteU E .u8 (fun s=>s) (fun s=>s) where
  sz:=rfl
  by_:=rfl
  len:=fun _=>rfl
  enc:=fun s i h=>⟨s[i],List.getElem?_eq_getElem h,by simp [E,List.getD,List.getElem?_eq_getElem h]⟩
  lenU:=fun _=>rfl
  encU:=fun xs i y h=>⟨y,h,rfl⟩
noncomputable def ac:Work:=(⟨[],0,[],[],[],0,0⟩:Work)
noncomputable def ae:Slot:=(⟨0,0,0⟩:Slot)
noncomputable def gP:Span:=(⟨0,0⟩:Span)
noncomputable def dS:Int:=0
noncomputable def gf:List UInt8:=[]
noncomputable def d_bool:Bool:=false
abbrev R:=Option (Fin U El)
noncomputable def tds:List (TypeId×TD U):=[(3,.int .i64),(4,.bool),(5,.int .u8),(9,.str),(22,.slice .work),(23,.slice .slot),(26,.int .i64),(29,.slice .span),(42,.struct [(0,1,false),(1,1,false)] 2),(47,.slice .int),(49,.struct [(0,1,false),(1,1,false),(2,1,false),(3,1,false),(4,1,false),(5,1,false),(6,1,false)] 7),(52,.struct [(0,1,false),(1,1,false),(2,1,false)] 3),(54,.one),(55,.one),(56,.slice .str),(61,.one),(73,.one),(80,.slice .u8),(82,.bld .u8),(95,.ptr),(99,.slice .bool),(101,.struct [(0,1,false),(1,1,false),(2,1,false)] 3),(102,.one),(104,.map .str .bool)]
noncomputable def zeros:List (TypeId×Value):=[(3,(Tryz.t3.zero).getD (.int .i64 0)),(4,(Tryz.t4.zero).getD (.int .i64 0)),(9,(Tryz.t9.zero).getD (.int .i64 0)),(23,(Tryz.t23.zero).getD (.int .i64 0)),(49,(Tryz.t49.zero).getD (.int .i64 0)),(52,(Tryz.t52.zero).getD (.int .i64 0)),(95,(Tryz.t95.zero).getD (.int .i64 0)),(99,(Tryz.t99.zero).getD (.int .i64 0)),(101,(Tryz.t101.zero).getD (.int .i64 0)),(102,(Tryz.t102.zero).getD (.int .i64 0))]
noncomputable def eqs:List (TypeId×List Nat):=[(42,[0,0])]
theorem tab:TabOk Tryz.prog E tds zeros eqs:=sq (by kernel_rfl) rS (by kernel_rfl) (by
  intro p hp
  simp only [zeros,List.mem_cons,List.not_mem_nil,or_false] at hp
  rcases hp with rfl | rfl | rfl | rfl | rfl | rfl | rfl | rfl | rfl | rfl
  · exact ⟨Tryz.t3,Tryz.type3,rfl⟩
  · exact ⟨Tryz.t4,Tryz.type4,rfl⟩
  · exact ⟨Tryz.t9,Tryz.type9,rfl⟩
  · exact ⟨Tryz.t23,Tryz.type23,rfl⟩
  · exact ⟨Tryz.t49,Tryz.type49,rfl⟩
  · exact ⟨Tryz.t52,Tryz.type52,rfl⟩
  · exact ⟨Tryz.t95,Tryz.type95,rfl⟩
  · exact ⟨Tryz.t99,Tryz.type99,rfl⟩
  · exact ⟨Tryz.t101,Tryz.type101,rfl⟩
  · exact ⟨Tryz.t102,Tryz.type102,rfl⟩) (by kernel_rfl)
end Go.Proofs.YthdklallcljhlaaGreatDoor
