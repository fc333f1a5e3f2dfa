/- The kinds of rows of this chapter, and what the program's table of types says of them. -/
import Derived.Test.YtnofdcckddfooaaGreatDoorLKO
import Derived.Test.YtnofdcckddfooaaGreatDoorLX
import Derived.KernelRfl
import Derived.Lib.LaidTab
import Derived.Lib.ItoaNum
import Derived.Test.YtnofdcckddfooaaGreatDoorProg
namespace Go.Proofs.YtnofdcckddfooaaGreatDoor
set_option linter.unusedSectionVars false
set_option linter.unusedSimpArgs false
set_option linter.unusedVariables false
set_option maxRecDepth 100000
structure Spot where
  px:Int
  py:Int
  pz:Int
deriving DecidableEq
structure Face where
  fa:Int
  fb:Int
  fc:Int
  fk:Int
deriving DecidableEq
structure Mesh where
  ms:List Spot
  mf:List Face
deriving DecidableEq
structure Pt where
  qx:Int
  qy:Int
deriving DecidableEq
structure Pr where
  p0:Int
  p1:Int
deriving DecidableEq
structure N3 where
  n0:Int
  n1:Int
  n2:Int
deriving DecidableEq
structure B3 where
  d0:Bool
  d1:Bool
  d2:Bool
deriving DecidableEq
structure Tri where
  t0:Int
  t1:Int
  t2:Int
  t3:Int
  t4:Int
  t5:Int
deriving DecidableEq
structure Fnd where
  kd:Int
  nm:List UInt8
deriving DecidableEq
structure Pos where
  pl:Int
  pc:Int
deriving DecidableEq
structure Span where
  slo:Int
  shi:Int
deriving DecidableEq
inductive U where
  | spot | face | mesh | pt | pr | n3 | b3 | tri | fnd | pos | span | u8 | ints | fnds | int | str | bool
deriving DecidableEq
noncomputable def El:U→Type
  | .spot=>Spot
  | .face=>Face
  | .mesh=>Mesh
  | .pt=>Pt
  | .pr=>Pr
  | .n3=>N3
  | .b3=>B3
  | .tri=>Tri
  | .fnd=>Fnd
  | .pos=>Pos
  | .span=>Span
  | .u8=>UInt8
  | .ints=>List Int
  | .fnds=>List Fnd
  | .int=>Int
  | .str=>List UInt8
  | .bool=>Bool
noncomputable def kq_pt:Pt→Pt→Bool:=fun a b=>((a.qx == b.qx)&&((a.qy == b.qy)&&true))
noncomputable def kq_pr:Pr→Pr→Bool:=fun a b=>((a.p0 == b.p0)&&((a.p1 == b.p1)&&true))
noncomputable def kq_int:Int→Int→Bool:=fun a b=>(a == b)
noncomputable def kq_str:(List UInt8)→(List UInt8)→Bool:=fun a b=>(a == b)
noncomputable def E:Univ U El where
  enc:=fun u=>match u with
    | .spot=>fun (x:Spot)=>[.int .i64 x.px,.int .i64 x.py,.int .i64 x.pz]
    | .face=>fun (x:Face)=>[.int .i64 x.fa,.int .i64 x.fb,.int .i64 x.fc,.int .i64 x.fk]
    | .mesh=>fun (x:Mesh)=>[.lst .spot x.ms,.lst .face x.mf]
    | .pt=>fun (x:Pt)=>[.int .i64 x.qx,.int .i64 x.qy]
    | .pr=>fun (x:Pr)=>[.int .i64 x.p0,.int .i64 x.p1]
    | .n3=>fun (x:N3)=>[.int .i64 x.n0,.int .i64 x.n1,.int .i64 x.n2]
    | .b3=>fun (x:B3)=>[.bool x.d0,.bool x.d1,.bool x.d2]
    | .tri=>fun (x:Tri)=>[.int .i64 x.t0,.int .i64 x.t1,.int .i64 x.t2,.int .i64 x.t3,.int .i64 x.t4,.int .i64 x.t5]
    | .fnd=>fun (x:Fnd)=>[.int .i64 x.kd,.str x.nm]
    | .pos=>fun (x:Pos)=>[.int .i64 x.pl,.int .i64 x.pc]
    | .span=>fun (x:Span)=>[.int .i64 x.slo,.int .i64 x.shi]
    | .u8=>fun (x:UInt8)=>[.int .u8 (Int.ofNat x.toNat)]
    | .ints=>fun (x:List Int)=>[.lst .int x]
    | .fnds=>fun (x:List Fnd)=>[.lst .fnd x]
    | .int=>fun (x:Int)=>[.int .i64 x]
    | .str=>fun (x:List UInt8)=>[.str x]
    | .bool=>fun (x:Bool)=>[.bool x]
  dec := fun u cs => match u with
    | .spot => match cs with
      | [.int .i64 f0,.int .i64 f1,.int .i64 f2]=>some (⟨f0,f1,f2⟩:Spot)
      | _=>none
    | .face => match cs with
      | [.int .i64 f0,.int .i64 f1,.int .i64 f2,.int .i64 f3]=>some (⟨f0,f1,f2,f3⟩:Face)
      | _=>none
    | .mesh => match cs with
      | [.lst .spot f0,.lst .face f1]=>some (⟨f0,f1⟩:Mesh)
      | [.lst .spot f0,.nils]=>some (⟨f0,([]:List Face)⟩:Mesh)
      | [.nils,.lst .face f1]=>some (⟨([]:List Spot),f1⟩:Mesh)
      | [.nils,.nils]=>some (⟨([]:List Spot),([]:List Face)⟩:Mesh)
      | _=>none
    | .pt => match cs with
      | [.int .i64 f0,.int .i64 f1]=>some (⟨f0,f1⟩:Pt)
      | _=>none
    | .pr => match cs with
      | [.int .i64 f0,.int .i64 f1]=>some (⟨f0,f1⟩:Pr)
      | _=>none
    | .n3 => match cs with
      | [.int .i64 f0,.int .i64 f1,.int .i64 f2]=>some (⟨f0,f1,f2⟩:N3)
      | _=>none
    | .b3 => match cs with
      | [.bool f0,.bool f1,.bool f2]=>some (⟨f0,f1,f2⟩:B3)
      | _=>none
    | .tri => match cs with
      | [.int .i64 f0,.int .i64 f1,.int .i64 f2,.int .i64 f3,.int .i64 f4,.int .i64 f5]=>some (⟨f0,f1,f2,f3,f4,f5⟩:Tri)
      | _=>none
    | .fnd => match cs with
      | [.int .i64 f0,.str f1]=>some (⟨f0,f1⟩:Fnd)
      | _=>none
    | .pos => match cs with
      | [.int .i64 f0,.int .i64 f1]=>some (⟨f0,f1⟩:Pos)
      | _=>none
    | .span => match cs with
      | [.int .i64 f0,.int .i64 f1]=>some (⟨f0,f1⟩:Span)
      | _=>none
    | .u8=>none
    | .ints => match cs with
      | [.lst .int f0]=>some (f0:List Int)
      | [.nils]=>some (([]:List Int):List Int)
      | _=>none
    | .fnds => match cs with
      | [.lst .fnd f0]=>some (f0:List Fnd)
      | [.nils]=>some (([]:List Fnd):List Fnd)
      | _=>none
    | .int => match cs with
      | [.int .i64 f0]=>some (f0:Int)
      | _=>none
    | .str => match cs with
      | [.str f0]=>some (f0:List UInt8)
      | _=>none
    | .bool => match cs with
      | [.bool f0]=>some (f0:Bool)
      | _=>none
  dflt:=fun u=>match u with
    | .spot=>(⟨0,0,0⟩:Spot)
    | .face=>(⟨0,0,0,0⟩:Face)
    | .mesh=>(⟨[],[]⟩:Mesh)
    | .pt=>(⟨0,0⟩:Pt)
    | .pr=>(⟨0,0⟩:Pr)
    | .n3=>(⟨0,0,0⟩:N3)
    | .b3=>(⟨false,false,false⟩:B3)
    | .tri=>(⟨0,0,0,0,0,0⟩:Tri)
    | .fnd=>(⟨0,[]⟩:Fnd)
    | .pos=>(⟨0,0⟩:Pos)
    | .span=>(⟨0,0⟩:Span)
    | .u8=>(0:UInt8)
    | .ints=>([]:List Int)
    | .fnds=>([]:List Fnd)
    | .int=>(0:Int)
    | .str=>([]:List UInt8)
    | .bool=>(false:Bool)
  sz:=fun u=>match u with | .spot=>3 | .face=>4 | .mesh=>2 | .pt=>2 | .pr=>2 | .n3=>3 | .b3=>3 | .tri=>6 | .fnd=>2 | .pos=>2 | .span=>2 | .u8=>1 | .ints=>1 | .fnds=>1 | .int=>1 | .str=>1 | .bool=>1
  by_:=fun u=>match u with | .spot=>24 | .face=>32 | .mesh=>48 | .pt=>16 | .pr=>16 | .n3=>24 | .b3=>3 | .tri=>48 | .fnd=>24 | .pos=>16 | .span=>16 | .u8=>1 | .ints=>24 | .fnds=>24 | .int=>8 | .str=>16 | .bool=>1
  tid:=fun u=>match u with | .spot=>55 | .face=>58 | .mesh=>25 | .pt=>124 | .pr=>92 | .n3=>87 | .b3=>91 | .tri=>138 | .fnd=>122 | .pos=>29 | .span=>109 | .u8=>5 | .ints=>40 | .fnds=>80 | .int=>3 | .str=>9 | .bool=>4
  agg:=fun u=>match u with | .spot=>true | .face=>true | .mesh=>true | .pt=>true | .pr=>true | .n3=>true | .b3=>true | .tri=>true | .fnd=>true | .pos=>true | .span=>true | .u8=>false | .ints=>false | .fnds=>false | .int=>false | .str=>false | .bool=>false
  fl:=fun u=>match u with | .mesh=>false | .ints=>false | .fnds=>false | _=>true
  G := fun w => Lib.TabIs Tryz.prog w "internal/strconv.uint64pow10" .u64 Lib.pow10Tab ∧ ((∃ m : Int, w.cell? ⟨0, 0, none⟩ = some (.int .i64 m)) ∧ ((∃ ev, w.cell? ⟨2, 0, none⟩ = some ev ∧ (ev = .nilIface ∨ ∃ te pe, ev = .iface te pe)) ∧ (∃ ev, w.cell? ⟨3, 0, none⟩ = some ev ∧ (ev = .nilIface ∨ ∃ te pe, ev = .iface te pe))))
  keq:=fun u=>match u with | .pt=>kq_pt | .pr=>kq_pr | .int=>kq_int | .str=>kq_str | _=>fun _ _=>false
  kok:=fun u=>match u with | .pt=>true | .pr=>true | .int=>true | .str=>true | _=>false
  vok:=fun u=>match u with | .int=>true | .bool=>true | _=>false
  arrU:=fun t=>bif Nat.beq t 87 then some .int else none
  boxS:=fun t=>bif Nat.beq t 119 then 7 else 0
theorem E_good:UGood Tryz.prog E where
  len:=fun u x=>by cases u<;>first | rfl | (cases x<;>rfl)
  pos:=fun u=>by cases u<;>decide
  bpos:=fun u=>by cases u<;>decide
  cell:=fun u x c hc=>by
    cases u<;>first | (cases x<;>(simp [E] at hc; subst hc; rfl); done) | skip
    all_goals simp only [E,List.mem_cons,List.not_mem_nil,or_false] at hc<;>(repeat' (rcases hc with rfl | hc))<;>first | rfl | (subst hc; rfl)
  flat:=fun u hu x c hc=>by
    cases u
    · simp only [E,List.mem_cons,List.not_mem_nil,or_false] at hc<;>(repeat' (rcases hc with rfl | hc))<;>first | rfl | (subst hc; rfl)
    · simp only [E,List.mem_cons,List.not_mem_nil,or_false] at hc<;>(repeat' (rcases hc with rfl | hc))<;>first | rfl | (subst hc; rfl)
    · cases hu
    · simp only [E,List.mem_cons,List.not_mem_nil,or_false] at hc<;>(repeat' (rcases hc with rfl | hc))<;>first | rfl | (subst hc; rfl)
    · simp only [E,List.mem_cons,List.not_mem_nil,or_false] at hc<;>(repeat' (rcases hc with rfl | hc))<;>first | rfl | (subst hc; rfl)
    · simp only [E,List.mem_cons,List.not_mem_nil,or_false] at hc<;>(repeat' (rcases hc with rfl | hc))<;>first | rfl | (subst hc; rfl)
    · simp only [E,List.mem_cons,List.not_mem_nil,or_false] at hc<;>(repeat' (rcases hc with rfl | hc))<;>first | rfl | (subst hc; rfl)
    · simp only [E,List.mem_cons,List.not_mem_nil,or_false] at hc<;>(repeat' (rcases hc with rfl | hc))<;>first | rfl | (subst hc; rfl)
    · simp only [E,List.mem_cons,List.not_mem_nil,or_false] at hc<;>(repeat' (rcases hc with rfl | hc))<;>first | rfl | (subst hc; rfl)
    · simp only [E,List.mem_cons,List.not_mem_nil,or_false] at hc<;>(repeat' (rcases hc with rfl | hc))<;>first | rfl | (subst hc; rfl)
    · simp only [E,List.mem_cons,List.not_mem_nil,or_false] at hc<;>(repeat' (rcases hc with rfl | hc))<;>first | rfl | (subst hc; rfl)
    · simp only [E,List.mem_cons,List.not_mem_nil,or_false] at hc<;>(repeat' (rcases hc with rfl | hc))<;>first | rfl | (subst hc; rfl)
    · cases hu
    · cases hu
    · simp only [E,List.mem_cons,List.not_mem_nil,or_false] at hc<;>(repeat' (rcases hc with rfl | hc))<;>first | rfl | (subst hc; rfl)
    · simp only [E,List.mem_cons,List.not_mem_nil,or_false] at hc<;>(repeat' (rcases hc with rfl | hc))<;>first | rfl | (subst hc; rfl)
    · simp only [E,List.mem_cons,List.not_mem_nil,or_false] at hc<;>(repeat' (rcases hc with rfl | hc))<;>first | rfl | (subst hc; rfl)
  gst:=fun w w' h hb=>⟨tab_below h.1 hb,⟨by obtain ⟨m,hm⟩:=h.2.1; exact ⟨m,(hb.cell (p:=⟨0,0,none⟩) (World.block_lt_of_cell? w ⟨0,0,none⟩ hm)).trans hm⟩,by obtain ⟨ev,hm,he⟩:=h.2.2.1; exact ⟨ev,(hb.cell (p:=⟨_,0,none⟩) (World.block_lt_of_cell? w _ hm)).trans hm,he⟩,by obtain ⟨ev,hm,he⟩:=h.2.2.2; exact ⟨ev,(hb.cell (p:=⟨_,0,none⟩) (World.block_lt_of_cell? w _ hm)).trans hm,he⟩⟩⟩
  key:=fun u h=>by
    cases u
    · cases h
    · cases h
    · cases h
    · exact keyOk_struct (ts:=[0,0]) rfl (eqOkS_of (by kernel_rfl) (by kernel_rfl)) rfl (fun _=>rfl) (fun x y=>by simp [E,cellsEq,kq_pt])
    · exact keyOk_arr (ts:=[0,0]) rfl (eqOkA_of (by kernel_rfl) (by kernel_rfl)) rfl (fun _=>rfl) (fun x y=>by simp [E,cellsEq,kq_pr])
    · cases h
    · cases h
    · cases h
    · cases h
    · cases h
    · cases h
    · cases h
    · cases h
    · cases h
    · exact keyOk_int (fun x=>x) rfl (by kernel_rfl) (fun _=>rfl) (fun _ _=>rfl)
    · exact keyOk_str (fun x=>x) rfl (by kernel_rfl) (fun _=>rfl) (fun _ _=>rfl)
    · cases h
  val:=fun u h=>by
    cases u
    · cases h
    · cases h
    · cases h
    · cases h
    · cases h
    · cases h
    · cases h
    · cases h
    · cases h
    · cases h
    · cases h
    · cases h
    · cases h
    · cases h
    · exact valOk_one rfl Tryz.type3 rfl rfl (fun _ _ _ => .int _ _)
    · cases h
    · exact valOk_one rfl Tryz.type4 rfl rfl (fun _ _ _ => .bool _)
  dec := fun u cs x h => by
    cases u
    · simp only [E] at h
      split at h<;>first | (cases h; exact ⟨rfl,fun j c hj=>⟨c,hj,.inl rfl⟩⟩) | cases h
    · simp only [E] at h
      split at h<;>first | (cases h; exact ⟨rfl,fun j c hj=>⟨c,hj,.inl rfl⟩⟩) | cases h
    · simp only [E] at h
      split at h<;>first | (cases h; refine ⟨rfl,fun j c hj => ?_⟩; match j,hj with | 0,hj=>(cases hj; first | exact ⟨_,rfl,.inl rfl⟩ | exact ⟨_,rfl,.inr ⟨rfl,_,rfl⟩⟩) | 1,hj=>(cases hj; first | exact ⟨_,rfl,.inl rfl⟩ | exact ⟨_,rfl,.inr ⟨rfl,_,rfl⟩⟩)) | cases h
    · simp only [E] at h
      split at h<;>first | (cases h; exact ⟨rfl,fun j c hj=>⟨c,hj,.inl rfl⟩⟩) | cases h
    · simp only [E] at h
      split at h<;>first | (cases h; exact ⟨rfl,fun j c hj=>⟨c,hj,.inl rfl⟩⟩) | cases h
    · simp only [E] at h
      split at h<;>first | (cases h; exact ⟨rfl,fun j c hj=>⟨c,hj,.inl rfl⟩⟩) | cases h
    · simp only [E] at h
      split at h<;>first | (cases h; exact ⟨rfl,fun j c hj=>⟨c,hj,.inl rfl⟩⟩) | cases h
    · simp only [E] at h
      split at h<;>first | (cases h; exact ⟨rfl,fun j c hj=>⟨c,hj,.inl rfl⟩⟩) | cases h
    · simp only [E] at h
      split at h<;>first | (cases h; exact ⟨rfl,fun j c hj=>⟨c,hj,.inl rfl⟩⟩) | cases h
    · simp only [E] at h
      split at h<;>first | (cases h; exact ⟨rfl,fun j c hj=>⟨c,hj,.inl rfl⟩⟩) | cases h
    · simp only [E] at h
      split at h<;>first | (cases h; exact ⟨rfl,fun j c hj=>⟨c,hj,.inl rfl⟩⟩) | cases h
    · cases h
    · simp only [E] at h
      split at h<;>first | (cases h; refine ⟨rfl,fun j c hj => ?_⟩; match j,hj with | 0,hj=>(cases hj; first | exact ⟨_,rfl,.inl rfl⟩ | exact ⟨_,rfl,.inr ⟨rfl,_,rfl⟩⟩)) | cases h
    · simp only [E] at h
      split at h<;>first | (cases h; refine ⟨rfl,fun j c hj => ?_⟩; match j,hj with | 0,hj=>(cases hj; first | exact ⟨_,rfl,.inl rfl⟩ | exact ⟨_,rfl,.inr ⟨rfl,_,rfl⟩⟩)) | cases h
    · simp only [E] at h
      split at h<;>first | (cases h; exact ⟨rfl,fun j c hj=>⟨c,hj,.inl rfl⟩⟩) | cases h
    · simp only [E] at h
      split at h<;>first | (cases h; exact ⟨rfl,fun j c hj=>⟨c,hj,.inl rfl⟩⟩) | cases h
    · simp only [E] at h
      split at h<;>first | (cases h; exact ⟨rfl,fun j c hj=>⟨c,hj,.inl rfl⟩⟩) | cases h
  info:=fun u=>by
    cases u
    · exact info_of Tryz.type55 rfl rfl rfl rfl rfl
    · exact info_of Tryz.type58 rfl rfl rfl rfl rfl
    · refine ⟨_, _, Tryz.type25, rfl, rfl, rfl, rfl, fun j c hj => ?_⟩
      match j,hj with | 0,hj=>(cases hj; exact ⟨_,rfl,fun _ _ _ => .lstE _ _ _⟩) | 1,hj=>(cases hj; exact ⟨_,rfl,fun _ _ _ => .lstE _ _ _⟩)
    · exact info_of Tryz.type124 rfl rfl rfl rfl rfl
    · exact info_of Tryz.type92 rfl rfl rfl rfl rfl
    · exact info_of Tryz.type87 rfl rfl rfl rfl rfl
    · exact info_of Tryz.type91 rfl rfl rfl rfl rfl
    · exact info_of Tryz.type138 rfl rfl rfl rfl rfl
    · exact info_of Tryz.type122 rfl rfl rfl rfl rfl
    · exact info_of Tryz.type29 rfl rfl rfl rfl rfl
    · exact info_of Tryz.type109 rfl rfl rfl rfl rfl
    · exact info_of Tryz.type5 rfl rfl rfl rfl rfl
    · refine ⟨_, _, Tryz.type40, rfl, rfl, rfl, rfl, fun j c hj => ?_⟩
      match j,hj with | 0,hj=>(cases hj; exact ⟨_,rfl,fun _ _ _ => .lstE _ _ _⟩)
    · refine ⟨_, _, Tryz.type80, rfl, rfl, rfl, rfl, fun j c hj => ?_⟩
      match j,hj with | 0,hj=>(cases hj; exact ⟨_,rfl,fun _ _ _ => .lstE _ _ _⟩)
    · exact info_of Tryz.type3 rfl rfl rfl rfl rfl
    · exact info_of Tryz.type9 rfl rfl rfl rfl rfl
    · exact info_of Tryz.type4 rfl rfl rfl rfl rfl
theorem byteU:ByteU E .u8 (fun s=>s) (fun s=>s) where
  sz:=rfl
  by_:=rfl
  len:=fun _=>rfl
  enc:=fun s i h=>⟨s[i],List.getElem?_eq_getElem h,by simp [E,List.getD,List.getElem?_eq_getElem h]⟩
  lenU:=fun _=>rfl
  encU:=fun xs i y h=>⟨y,h,rfl⟩
noncomputable def d_spot:Spot:=(⟨0,0,0⟩:Spot)
noncomputable def d_face:Face:=(⟨0,0,0,0⟩:Face)
noncomputable def d_pt:Pt:=(⟨0,0⟩:Pt)
noncomputable def d_pr:Pr:=(⟨0,0⟩:Pr)
noncomputable def d_n3:N3:=(⟨0,0,0⟩:N3)
noncomputable def d_tri:Tri:=(⟨0,0,0,0,0,0⟩:Tri)
noncomputable def d_int:Int:=0
noncomputable def d_str:List UInt8:=[]
noncomputable def d_bool:Bool:=false
abbrev R:=Option (Fin U El)
noncomputable def tds:List (TypeId×TD U):=[(3,.int .i64),(4,.bool),(5,.int .u8),(9,.str),(22,.slice .spot),(23,.slice .face),(25,.struct [(0,1,false),(1,1,false)] 2),(29,.struct [(0,1,false),(1,1,false)] 2),(30,.int .i64),(40,.slice .int),(47,.int .u16),(48,.slice .ints),(55,.struct [(0,1,false),(1,1,false),(2,1,false)] 3),(58,.struct [(0,1,false),(1,1,false),(2,1,false),(3,1,false)] 4),(59,.one),(63,.slice .u8),(72,.ptr),(75,.ptr),(77,.bld .u8),(80,.slice .fnd),(83,.slice .n3),(86,.slice .bool),(87,.arr 3 1 false 3),(90,.slice .b3),(91,.arr 3 1 false 3),(92,.arr 2 1 false 2),(105,.one),(109,.struct [(0,1,false),(1,1,false)] 2),(113,.iface),(119,.slice .fnds),(122,.struct [(0,1,false),(1,1,false)] 2),(124,.struct [(0,1,false),(1,1,false)] 2),(128,.slice .pr),(130,.map .pr .int),(138,.arr 3 2 true 6),(143,.slice .str),(147,.arr 7 1 false 7),(148,.map .pt .bool),(150,.map .pr .bool),(151,.slice .tri),(154,.one),(157,.slice .pt)]
noncomputable def zeros:List (TypeId×Value):=[(3,(Tryz.t3.zero).getD (.int .i64 0)),(25,(Tryz.t25.zero).getD (.int .i64 0)),(29,(Tryz.t29.zero).getD (.int .i64 0)),(55,(Tryz.t55.zero).getD (.int .i64 0)),(58,(Tryz.t58.zero).getD (.int .i64 0)),(77,(Tryz.t77.zero).getD (.int .i64 0)),(80,(Tryz.t80.zero).getD (.int .i64 0)),(86,(Tryz.t86.zero).getD (.int .i64 0)),(87,(Tryz.t87.zero).getD (.int .i64 0)),(92,(Tryz.t92.zero).getD (.int .i64 0)),(109,(Tryz.t109.zero).getD (.int .i64 0)),(122,(Tryz.t122.zero).getD (.int .i64 0)),(124,(Tryz.t124.zero).getD (.int .i64 0)),(138,(Tryz.t138.zero).getD (.int .i64 0)),(147,(Tryz.t147.zero).getD (.int .i64 0))]
noncomputable def eqs:List (TypeId×List Nat):=[(29,[0,0]),(55,[0,0,0]),(58,[0,0,0,0]),(92,[0,0]),(124,[0,0])]
theorem tab:TabOk Tryz.prog E tds zeros eqs:=tabOk (by kernel_rfl) E_good (by kernel_rfl) (by
  intro p hp
  simp only [zeros,List.mem_cons,List.not_mem_nil,or_false] at hp
  rcases hp with rfl | rfl | rfl | rfl | rfl | rfl | rfl | rfl | rfl | rfl | rfl | rfl | rfl | rfl | rfl
  · exact ⟨Tryz.t3,Tryz.type3,rfl⟩
  · exact ⟨Tryz.t25,Tryz.type25,rfl⟩
  · exact ⟨Tryz.t29,Tryz.type29,rfl⟩
  · exact ⟨Tryz.t55,Tryz.type55,rfl⟩
  · exact ⟨Tryz.t58,Tryz.type58,rfl⟩
  · exact ⟨Tryz.t77,Tryz.type77,rfl⟩
  · exact ⟨Tryz.t80,Tryz.type80,rfl⟩
  · exact ⟨Tryz.t86,Tryz.type86,rfl⟩
  · exact ⟨Tryz.t87,Tryz.type87,rfl⟩
  · exact ⟨Tryz.t92,Tryz.type92,rfl⟩
  · exact ⟨Tryz.t109,Tryz.type109,rfl⟩
  · exact ⟨Tryz.t122,Tryz.type122,rfl⟩
  · exact ⟨Tryz.t124,Tryz.type124,rfl⟩
  · exact ⟨Tryz.t138,Tryz.type138,rfl⟩
  · exact ⟨Tryz.t147,Tryz.type147,rfl⟩) (by kernel_rfl)
end Go.Proofs.YtnofdcckddfooaaGreatDoor
