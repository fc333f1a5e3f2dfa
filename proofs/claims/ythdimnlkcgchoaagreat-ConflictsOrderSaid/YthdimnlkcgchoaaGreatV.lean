import Derived.Test.YthdimnlkcgchoaaGreatLKO
import Derived.Test.YthdimnlkcgchoaaGreatLU
import Derived.KernelRfl
import Derived.Lib.LaidTab
import Derived.Lib.ItoaNum
import Derived.Test.YthdimnlkcgchoaaGreatProg
namespace Go.Proofs.YthdimnlkcgchoaaGreat
set_option linter.all false
set_option maxRecDepth 100000
instance drw0:Drw:=drwF
structure Cnd where
 cn:List UInt8
 cb:Bool
 cl:Int
deriving DecidableEq
structure Rule where
 rn:List UInt8
 rw:List Cnd
 rl:List UInt8
 rs:Int
deriving DecidableEq
structure Knot where
 kx:Int
 ky:Int
deriving DecidableEq
structure Node where
 nn:List UInt8
 nk:Int
 nx:Int
 ny:Int
 ni:Int
 ng:Int
 nh:List Knot
 np:Bool
 nr:Int
deriving DecidableEq
structure Lnk where
 ln:List UInt8
 lf:List UInt8
 lt:List UInt8
 lk:Int
 ll:Int
 lu:Int
 ld:Int
 lc:List UInt8
 lw:Int
 lh:Int
 lv:List Knot
deriving DecidableEq
structure Net where
 nds:List Node
 lks:List Lnk
deriving DecidableEq
structure Span where
 slo:Int
 shi:Int
deriving DecidableEq
structure Pair where
 p0:Int
 p1:Int
deriving DecidableEq
inductive U where
 | cnd | rule | knot | node | link | net | span | pair | int | str | bool | ints | cnds | u32
deriving DecidableEq
noncomputable def El:U→Type
 | .cnd=>Cnd
 | .rule=>Rule
 | .knot=>Knot
 | .node=>Node
 | .link=>Lnk
 | .net=>Net
 | .span=>Span
 | .pair=>Pair
 | .int=>Int
 | .str=>List UInt8
 | .bool=>Bool
 | .ints=>List Int
 | .cnds=>List Cnd
 | .u32=>UInt32
noncomputable def kq_int:Int→Int→Bool:=fun a b=>(a == b)
noncomputable def kq_str:(List UInt8)→(List UInt8)→Bool:=fun a b=>(a == b)
noncomputable def E:Univ U El where
  enc:=fun u=>match u with
    | .cnd=>fun (x:Cnd)=>[.str x.cn,.bool x.cb,.int .i64 x.cl]
    | .rule=>fun (x:Rule)=>[.str x.rn,.lst .cnd x.rw,.str x.rl,.int .i64 x.rs]
    | .knot=>fun (x:Knot)=>[.int .i64 x.kx,.int .i64 x.ky]
    | .node=>fun (x:Node)=>[.str x.nn,.int .i64 x.nk,.int .i64 x.nx,.int .i64 x.ny,.int .i64 x.ni,.int .i64 x.ng,.lst .knot x.nh,.bool x.np,.int .i64 x.nr]
    | .link=>fun (x:Lnk)=>[.str x.ln,.str x.lf,.str x.lt,.int .i64 x.lk,.int .i64 x.ll,.int .i64 x.lu,.int .i64 x.ld,.str x.lc,.int .i64 x.lw,.int .i64 x.lh,.lst .knot x.lv]
    | .net=>fun (x:Net)=>[.lst .node x.nds,.lst .link x.lks]
    | .span=>fun (x:Span)=>[.int .i64 x.slo,.int .i64 x.shi]
    | .pair=>fun (x:Pair)=>[.int .i64 x.p0,.int .i64 x.p1]
    | .int=>fun (x:Int)=>[.int .i64 x]
    | .str=>fun (x:List UInt8)=>[.str x]
    | .bool=>fun (x:Bool)=>[.bool x]
    | .ints=>fun (x:List Int)=>[.lst .int x]
    | .cnds=>fun (x:List Cnd)=>[.lst .cnd x]
    | .u32=>fun (x:UInt32)=>[.int .u32 (Int.ofNat x.toNat)]
  dec := fun u cs => match u with
    | .cnd => match cs with
      | [.str f0,.bool f1,.int .i64 f2]=>some (⟨f0,f1,f2⟩:Cnd)
      | _=>none
    | .rule => match cs with
      | [.str f0,.lst .cnd f1,.str f2,.int .i64 f3]=>some (⟨f0,f1,f2,f3⟩:Rule)
      | [.str f0,.nils,.str f2,.int .i64 f3]=>some (⟨f0,([]:List Cnd),f2,f3⟩:Rule)
      | _=>none
    | .knot => match cs with
      | [.int .i64 f0,.int .i64 f1]=>some (⟨f0,f1⟩:Knot)
      | _=>none
    | .node => match cs with
      | [.str f0,.int .i64 f1,.int .i64 f2,.int .i64 f3,.int .i64 f4,.int .i64 f5,.lst .knot f6,.bool f7,.int .i64 f8]=>some (⟨f0,f1,f2,f3,f4,f5,f6,f7,f8⟩:Node)
      | [.str f0,.int .i64 f1,.int .i64 f2,.int .i64 f3,.int .i64 f4,.int .i64 f5,.nils,.bool f7,.int .i64 f8]=>some (⟨f0,f1,f2,f3,f4,f5,([]:List Knot),f7,f8⟩:Node)
      | _=>none
    | .link => match cs with
      | [.str f0,.str f1,.str f2,.int .i64 f3,.int .i64 f4,.int .i64 f5,.int .i64 f6,.str f7,.int .i64 f8,.int .i64 f9,.lst .knot f10]=>some (⟨f0,f1,f2,f3,f4,f5,f6,f7,f8,f9,f10⟩:Lnk)
      | [.str f0,.str f1,.str f2,.int .i64 f3,.int .i64 f4,.int .i64 f5,.int .i64 f6,.str f7,.int .i64 f8,.int .i64 f9,.nils]=>some (⟨f0,f1,f2,f3,f4,f5,f6,f7,f8,f9,([]:List Knot)⟩:Lnk)
      | _=>none
    | .net => match cs with
      | [.lst .node f0,.lst .link f1]=>some (⟨f0,f1⟩:Net)
      | [.lst .node f0,.nils]=>some (⟨f0,([]:List Lnk)⟩:Net)
      | [.nils,.lst .link f1]=>some (⟨([]:List Node),f1⟩:Net)
      | [.nils,.nils]=>some (⟨([]:List Node),([]:List Lnk)⟩:Net)
      | _=>none
    | .span => match cs with
      | [.int .i64 f0,.int .i64 f1]=>some (⟨f0,f1⟩:Span)
      | _=>none
    | .pair => match cs with
      | [.int .i64 f0,.int .i64 f1]=>some (⟨f0,f1⟩:Pair)
      | _=>none
    | .int => match cs with
      | [.int .i64 f0]=>some (f0:Int)
      | _=>none
    | .str => match cs with
      | [.str f0]=>some (f0:List UInt8)
      | _=>none
    | .bool => match cs with
      | [.bool f0]=>some (f0:Bool)
      | _=>none
    | .ints => match cs with
      | [.lst .int f0]=>some (f0:List Int)
      | [.nils]=>some (([]:List Int):List Int)
      | _=>none
    | .cnds => match cs with
      | [.lst .cnd f0]=>some (f0:List Cnd)
      | [.nils]=>some (([]:List Cnd):List Cnd)
      | _=>none
    | .u32=>none
  dflt:=fun u=>match u with
    | .cnd=>(⟨[],false,0⟩:Cnd)
    | .rule=>(⟨[],[],[],0⟩:Rule)
    | .knot=>(⟨0,0⟩:Knot)
    | .node=>(⟨[],0,0,0,0,0,[],false,0⟩:Node)
    | .link=>(⟨[],[],[],0,0,0,0,[],0,0,[]⟩:Lnk)
    | .net=>(⟨[],[]⟩:Net)
    | .span=>(⟨0,0⟩:Span)
    | .pair=>(⟨0,0⟩:Pair)
    | .int=>(0:Int)
    | .str=>([]:List UInt8)
    | .bool=>(false:Bool)
    | .ints=>([]:List Int)
    | .cnds=>([]:List Cnd)
    | .u32=>(0:UInt32)
  sz:=fun u=>match u with | .cnd=>3 | .rule=>4 | .knot=>2 | .node=>9 | .link=>11 | .net=>2 | .span=>2 | .pair=>2 | .int=>1 | .str=>1 | .bool=>1 | .ints=>1 | .cnds=>1 | .u32=>1
  by_:=fun u=>match u with | .cnd=>32 | .rule=>64 | .knot=>16 | .node=>96 | .link=>136 | .net=>48 | .span=>16 | .pair=>16 | .int=>8 | .str=>16 | .bool=>1 | .ints=>24 | .cnds=>24 | .u32=>4
  tid:=fun u=>match u with | .cnd=>67 | .rule=>49 | .knot=>155 | .node=>102 | .link=>62 | .net=>26 | .span=>93 | .pair=>45 | .int=>3 | .str=>9 | .bool=>4 | .ints=>29 | .cnds=>47 | .u32=>132
  agg:=fun u=>match u with | .cnd=>true | .rule=>true | .knot=>true | .node=>true | .link=>true | .net=>true | .span=>true | .pair=>true | .int=>false | .str=>false | .bool=>false | .ints=>false | .cnds=>false | .u32=>false
  fl:=fun u=>match u with | .rule=>false | .node=>false | .link=>false | .net=>false | .ints=>false | .cnds=>false | _=>true
  G:=fun _=>True
  keq:=fun u=>match u with | .int=>kq_int | .str=>kq_str | _=>fun _ _=>false
  kok:=fun u=>match u with | .int=>true | .str=>true | _=>false
  vok:=fun u=>match u with | .int=>true | .bool=>true | _=>false
theorem E_good:UGood Tryz.prog E where
 len:=fun u x=>by cases u<;>first | rfl | (cases x<;>rfl)
 pos:=fun u=>by cases u<;>decide
 bpos:=fun u=>by cases u<;>decide
 cell:=fun u x c hc=>by
  cases u<;>first | (cases x<;>(simp [E] at hc; subst hc; rfl); done) | skip
  all_goals simp only [E,List.mem_cons,List.not_mem_nil,or_false] at hc<;>(repeat' (rcases hc with rfl | hc))<;>first | rfl | (subst hc; rfl)
 flat:=fun u hu x c hc=>by
  cases u
  ·simp only [E,List.mem_cons,List.not_mem_nil,or_false] at hc<;>(repeat' (rcases hc with rfl | hc))<;>first | rfl | (subst hc; rfl)
  ·cases hu
  ·simp only [E,List.mem_cons,List.not_mem_nil,or_false] at hc<;>(repeat' (rcases hc with rfl | hc))<;>first | rfl | (subst hc; rfl)
  ·cases hu
  ·cases hu
  ·cases hu
  ·simp only [E,List.mem_cons,List.not_mem_nil,or_false] at hc<;>(repeat' (rcases hc with rfl | hc))<;>first | rfl | (subst hc; rfl)
  ·simp only [E,List.mem_cons,List.not_mem_nil,or_false] at hc<;>(repeat' (rcases hc with rfl | hc))<;>first | rfl | (subst hc; rfl)
  ·simp only [E,List.mem_cons,List.not_mem_nil,or_false] at hc<;>(repeat' (rcases hc with rfl | hc))<;>first | rfl | (subst hc; rfl)
  ·simp only [E,List.mem_cons,List.not_mem_nil,or_false] at hc<;>(repeat' (rcases hc with rfl | hc))<;>first | rfl | (subst hc; rfl)
  ·simp only [E,List.mem_cons,List.not_mem_nil,or_false] at hc<;>(repeat' (rcases hc with rfl | hc))<;>first | rfl | (subst hc; rfl)
  ·cases hu
  ·cases hu
  ·simp only [E,List.mem_cons,List.not_mem_nil,or_false] at hc<;>(repeat' (rcases hc with rfl | hc))<;>first | rfl | (subst hc; rfl)
 gst:=fun w w' h hb=>h
 key:=fun u h=>by
  cases u
  ·cases h
  ·cases h
  ·cases h
  ·cases h
  ·cases h
  ·cases h
  ·cases h
  ·cases h
  ·exact keyOk_int (fun x=>x) rfl (by kernel_rfl) (fun _=>rfl) (fun _ _=>rfl)
  ·exact keyOk_str (fun x=>x) rfl (by kernel_rfl) (fun _=>rfl) (fun _ _=>rfl)
  ·cases h
  ·cases h
  ·cases h
  ·cases h
 val:=fun u h=>by
  cases u
  ·cases h
  ·cases h
  ·cases h
  ·cases h
  ·cases h
  ·cases h
  ·cases h
  ·cases h
  ·exact valOk_one rfl Tryz.type3 rfl rfl (fun _ _ _=>.int _ _)
  ·cases h
  ·exact valOk_one rfl Tryz.type4 rfl rfl (fun _ _ _=>.bool _)
  ·cases h
  ·cases h
  ·cases h
 dec:=fun u cs x h=>by
  cases u
  ·simp only [E] at h
   split at h<;>first | (cases h; exact ⟨rfl,fun j c hj=>⟨c,hj,.inl rfl⟩⟩) | cases h
  ·simp only [E] at h
   split at h<;>first | (cases h; refine ⟨rfl,fun j c hj=>?_⟩; match j,hj with | 0,hj=>(cases hj; first | exact ⟨_,rfl,.inl rfl⟩ | exact ⟨_,rfl,.inr ⟨rfl,_,rfl⟩⟩) | 1,hj=>(cases hj; first | exact ⟨_,rfl,.inl rfl⟩ | exact ⟨_,rfl,.inr ⟨rfl,_,rfl⟩⟩) | 2,hj=>(cases hj; first | exact ⟨_,rfl,.inl rfl⟩ | exact ⟨_,rfl,.inr ⟨rfl,_,rfl⟩⟩) | 3,hj=>(cases hj; first | exact ⟨_,rfl,.inl rfl⟩ | exact ⟨_,rfl,.inr ⟨rfl,_,rfl⟩⟩)) | cases h
  ·simp only [E] at h
   split at h<;>first | (cases h; exact ⟨rfl,fun j c hj=>⟨c,hj,.inl rfl⟩⟩) | cases h
  ·simp only [E] at h
   split at h<;>first | (cases h; refine ⟨rfl,fun j c hj=>?_⟩; match j,hj with | 0,hj=>(cases hj; first | exact ⟨_,rfl,.inl rfl⟩ | exact ⟨_,rfl,.inr ⟨rfl,_,rfl⟩⟩) | 1,hj=>(cases hj; first | exact ⟨_,rfl,.inl rfl⟩ | exact ⟨_,rfl,.inr ⟨rfl,_,rfl⟩⟩) | 2,hj=>(cases hj; first | exact ⟨_,rfl,.inl rfl⟩ | exact ⟨_,rfl,.inr ⟨rfl,_,rfl⟩⟩) | 3,hj=>(cases hj; first | exact ⟨_,rfl,.inl rfl⟩ | exact ⟨_,rfl,.inr ⟨rfl,_,rfl⟩⟩) | 4,hj=>(cases hj; first | exact ⟨_,rfl,.inl rfl⟩ | exact ⟨_,rfl,.inr ⟨rfl,_,rfl⟩⟩) | 5,hj=>(cases hj; first | exact ⟨_,rfl,.inl rfl⟩ | exact ⟨_,rfl,.inr ⟨rfl,_,rfl⟩⟩) | 6,hj=>(cases hj; first | exact ⟨_,rfl,.inl rfl⟩ | exact ⟨_,rfl,.inr ⟨rfl,_,rfl⟩⟩) | 7,hj=>(cases hj; first | exact ⟨_,rfl,.inl rfl⟩ | exact ⟨_,rfl,.inr ⟨rfl,_,rfl⟩⟩) | 8,hj=>(cases hj; first | exact ⟨_,rfl,.inl rfl⟩ | exact ⟨_,rfl,.inr ⟨rfl,_,rfl⟩⟩)) | cases h
  ·simp only [E] at h
   split at h<;>first | (cases h; refine ⟨rfl,fun j c hj=>?_⟩; match j,hj with | 0,hj=>(cases hj; first | exact ⟨_,rfl,.inl rfl⟩ | exact ⟨_,rfl,.inr ⟨rfl,_,rfl⟩⟩) | 1,hj=>(cases hj; first | exact ⟨_,rfl,.inl rfl⟩ | exact ⟨_,rfl,.inr ⟨rfl,_,rfl⟩⟩) | 2,hj=>(cases hj; first | exact ⟨_,rfl,.inl rfl⟩ | exact ⟨_,rfl,.inr ⟨rfl,_,rfl⟩⟩) | 3,hj=>(cases hj; first | exact ⟨_,rfl,.inl rfl⟩ | exact ⟨_,rfl,.inr ⟨rfl,_,rfl⟩⟩) | 4,hj=>(cases hj; first | exact ⟨_,rfl,.inl rfl⟩ | exact ⟨_,rfl,.inr ⟨rfl,_,rfl⟩⟩) | 5,hj=>(cases hj; first | exact ⟨_,rfl,.inl rfl⟩ | exact ⟨_,rfl,.inr ⟨rfl,_,rfl⟩⟩) | 6,hj=>(cases hj; first | exact ⟨_,rfl,.inl rfl⟩ | exact ⟨_,rfl,.inr ⟨rfl,_,rfl⟩⟩) | 7,hj=>(cases hj; first | exact ⟨_,rfl,.inl rfl⟩ | exact ⟨_,rfl,.inr ⟨rfl,_,rfl⟩⟩) | 8,hj=>(cases hj; first | exact ⟨_,rfl,.inl rfl⟩ | exact ⟨_,rfl,.inr ⟨rfl,_,rfl⟩⟩) | 9,hj=>(cases hj; first | exact ⟨_,rfl,.inl rfl⟩ | exact ⟨_,rfl,.inr ⟨rfl,_,rfl⟩⟩) | 10,hj=>(cases hj; first | exact ⟨_,rfl,.inl rfl⟩ | exact ⟨_,rfl,.inr ⟨rfl,_,rfl⟩⟩)) | cases h
  ·simp only [E] at h
   split at h<;>first | (cases h; refine ⟨rfl,fun j c hj=>?_⟩; match j,hj with | 0,hj=>(cases hj; first | exact ⟨_,rfl,.inl rfl⟩ | exact ⟨_,rfl,.inr ⟨rfl,_,rfl⟩⟩) | 1,hj=>(cases hj; first | exact ⟨_,rfl,.inl rfl⟩ | exact ⟨_,rfl,.inr ⟨rfl,_,rfl⟩⟩)) | cases h
  ·simp only [E] at h
   split at h<;>first | (cases h; exact ⟨rfl,fun j c hj=>⟨c,hj,.inl rfl⟩⟩) | cases h
  ·simp only [E] at h
   split at h<;>first | (cases h; exact ⟨rfl,fun j c hj=>⟨c,hj,.inl rfl⟩⟩) | cases h
  ·simp only [E] at h
   split at h<;>first | (cases h; exact ⟨rfl,fun j c hj=>⟨c,hj,.inl rfl⟩⟩) | cases h
  ·simp only [E] at h
   split at h<;>first | (cases h; exact ⟨rfl,fun j c hj=>⟨c,hj,.inl rfl⟩⟩) | cases h
  ·simp only [E] at h
   split at h<;>first | (cases h; exact ⟨rfl,fun j c hj=>⟨c,hj,.inl rfl⟩⟩) | cases h
  ·simp only [E] at h
   split at h<;>first | (cases h; refine ⟨rfl,fun j c hj=>?_⟩; match j,hj with | 0,hj=>(cases hj; first | exact ⟨_,rfl,.inl rfl⟩ | exact ⟨_,rfl,.inr ⟨rfl,_,rfl⟩⟩)) | cases h
  ·simp only [E] at h
   split at h<;>first | (cases h; refine ⟨rfl,fun j c hj=>?_⟩; match j,hj with | 0,hj=>(cases hj; first | exact ⟨_,rfl,.inl rfl⟩ | exact ⟨_,rfl,.inr ⟨rfl,_,rfl⟩⟩)) | cases h
  ·cases h
 info:=fun u=>by
  cases u
  ·exact info_of Tryz.type67 rfl rfl rfl rfl rfl
  ·refine ⟨_,_,Tryz.type49,rfl,rfl,rfl,rfl,fun j c hj=>?_⟩
   match j,hj with | 0,hj=>(cases hj; exact ⟨_,rfl,fun _ _ _=>.str _⟩) | 1,hj=>(cases hj; exact ⟨_,rfl,fun _ _ _=>.lstE _ _ _⟩) | 2,hj=>(cases hj; exact ⟨_,rfl,fun _ _ _=>.str _⟩) | 3,hj=>(cases hj; exact ⟨_,rfl,fun _ _ _=>.int _ _⟩)
  ·exact info_of Tryz.type155 rfl rfl rfl rfl rfl
  ·refine ⟨_,_,Tryz.type102,rfl,rfl,rfl,rfl,fun j c hj=>?_⟩
   match j,hj with | 0,hj=>(cases hj; exact ⟨_,rfl,fun _ _ _=>.str _⟩) | 1,hj=>(cases hj; exact ⟨_,rfl,fun _ _ _=>.int _ _⟩) | 2,hj=>(cases hj; exact ⟨_,rfl,fun _ _ _=>.int _ _⟩) | 3,hj=>(cases hj; exact ⟨_,rfl,fun _ _ _=>.int _ _⟩) | 4,hj=>(cases hj; exact ⟨_,rfl,fun _ _ _=>.int _ _⟩) | 5,hj=>(cases hj; exact ⟨_,rfl,fun _ _ _=>.int _ _⟩) | 6,hj=>(cases hj; exact ⟨_,rfl,fun _ _ _=>.lstE _ _ _⟩) | 7,hj=>(cases hj; exact ⟨_,rfl,fun _ _ _=>.bool _⟩) | 8,hj=>(cases hj; exact ⟨_,rfl,fun _ _ _=>.int _ _⟩)
  ·refine ⟨_,_,Tryz.type62,rfl,rfl,rfl,rfl,fun j c hj=>?_⟩
   match j,hj with | 0,hj=>(cases hj; exact ⟨_,rfl,fun _ _ _=>.str _⟩) | 1,hj=>(cases hj; exact ⟨_,rfl,fun _ _ _=>.str _⟩) | 2,hj=>(cases hj; exact ⟨_,rfl,fun _ _ _=>.str _⟩) | 3,hj=>(cases hj; exact ⟨_,rfl,fun _ _ _=>.int _ _⟩) | 4,hj=>(cases hj; exact ⟨_,rfl,fun _ _ _=>.int _ _⟩) | 5,hj=>(cases hj; exact ⟨_,rfl,fun _ _ _=>.int _ _⟩) | 6,hj=>(cases hj; exact ⟨_,rfl,fun _ _ _=>.int _ _⟩) | 7,hj=>(cases hj; exact ⟨_,rfl,fun _ _ _=>.str _⟩) | 8,hj=>(cases hj; exact ⟨_,rfl,fun _ _ _=>.int _ _⟩) | 9,hj=>(cases hj; exact ⟨_,rfl,fun _ _ _=>.int _ _⟩) | 10,hj=>(cases hj; exact ⟨_,rfl,fun _ _ _=>.lstE _ _ _⟩)
  ·refine ⟨_,_,Tryz.type26,rfl,rfl,rfl,rfl,fun j c hj=>?_⟩
   match j,hj with | 0,hj=>(cases hj; exact ⟨_,rfl,fun _ _ _=>.lstE _ _ _⟩) | 1,hj=>(cases hj; exact ⟨_,rfl,fun _ _ _=>.lstE _ _ _⟩)
  ·exact info_of Tryz.type93 rfl rfl rfl rfl rfl
  ·exact info_of Tryz.type45 rfl rfl rfl rfl rfl
  ·exact info_of Tryz.type3 rfl rfl rfl rfl rfl
  ·exact info_of Tryz.type9 rfl rfl rfl rfl rfl
  ·exact info_of Tryz.type4 rfl rfl rfl rfl rfl
  ·refine ⟨_,_,Tryz.type29,rfl,rfl,rfl,rfl,fun j c hj=>?_⟩
   match j,hj with | 0,hj=>(cases hj; exact ⟨_,rfl,fun _ _ _=>.lstE _ _ _⟩)
  ·refine ⟨_,_,Tryz.type47,rfl,rfl,rfl,rfl,fun j c hj=>?_⟩
   match j,hj with | 0,hj=>(cases hj; exact ⟨_,rfl,fun _ _ _=>.lstE _ _ _⟩)
  ·exact info_of Tryz.type132 rfl rfl rfl rfl rfl
noncomputable def d_cnd:Cnd:=(⟨[],false,0⟩:Cnd)
noncomputable def d_rule:Rule:=(⟨[],[],[],0⟩:Rule)
noncomputable def d_knot:Knot:=(⟨0,0⟩:Knot)
noncomputable def d_node:Node:=(⟨[],0,0,0,0,0,[],false,0⟩:Node)
noncomputable def d_link:Lnk:=(⟨[],[],[],0,0,0,0,[],0,0,[]⟩:Lnk)
noncomputable def d_pair:Pair:=(⟨0,0⟩:Pair)
noncomputable def d_int:Int:=0
noncomputable def d_str:List UInt8:=[]
noncomputable def d_bool:Bool:=false
noncomputable def d_ints:List Int:=[]
noncomputable def d_u32:UInt32:=0
abbrev R:=Option (Fin U El)
noncomputable def tds:List (TypeId×TD U):=[(3,.int .i64),(4,.bool),(5,.int .u8),(9,.str),(22,.slice .rule),(23,.slice .node),(24,.slice .link),(26,.struct [(0,1,false),(1,1,false)] 2),(29,.slice .int),(37,.slice .pair),(45,.arr 2 1 false 2),(47,.slice .cnd),(49,.struct [(0,1,false),(1,1,false),(2,1,false),(3,1,false)] 4),(60,.slice .knot),(62,.struct [(0,1,false),(1,1,false),(2,1,false),(3,1,false),(4,1,false),(5,1,false),(6,1,false),(7,1,false),(8,1,false),(9,1,false),(10,1,false)] 11),(67,.struct [(0,1,false),(1,1,false),(2,1,false)] 3),(72,.one),(75,.slice .u32),(78,.slice .str),(81,.one),(83,.one),(84,.slice .span),(93,.struct [(0,1,false),(1,1,false)] 2),(100,.struct [(0,1,false),(1,1,false)] 2),(102,.struct [(0,1,false),(1,1,false),(2,2,true),(4,1,false),(5,1,false),(6,1,false),(7,1,false),(8,1,false)] 9),(107,.one),(109,.one),(119,.slice .ints),(132,.int .u32),(134,.map .str .int),(139,.one),(154,.map .int .bool),(155,.struct [(0,1,false),(1,1,false)] 2),(167,.map .str .bool),(171,.slice .cnds),(183,.one)]
noncomputable def zeros:List (TypeId×Value):=[(4,(Tryz.t4.zero).getD (.int .i64 0)),(9,(Tryz.t9.zero).getD (.int .i64 0)),(26,(Tryz.t26.zero).getD (.int .i64 0)),(29,(Tryz.t29.zero).getD (.int .i64 0)),(45,(Tryz.t45.zero).getD (.int .i64 0)),(49,(Tryz.t49.zero).getD (.int .i64 0)),(62,(Tryz.t62.zero).getD (.int .i64 0)),(67,(Tryz.t67.zero).getD (.int .i64 0)),(93,(Tryz.t93.zero).getD (.int .i64 0)),(102,(Tryz.t102.zero).getD (.int .i64 0)),(155,(Tryz.t155.zero).getD (.int .i64 0))]
noncomputable def eqs:List (TypeId×List Nat):=[(45,[0,0]),(93,[0,0]),(155,[0,0])]
theorem tab:TabOk Tryz.prog E tds zeros eqs:=tabOk (by kernel_rfl) E_good (by kernel_rfl) (by
 intro p hp
 simp only [zeros,List.mem_cons,List.not_mem_nil,or_false] at hp
 rcases hp with rfl | rfl | rfl | rfl | rfl | rfl | rfl | rfl | rfl | rfl | rfl
 ·exact ⟨Tryz.t4,Tryz.type4,rfl⟩
 ·exact ⟨Tryz.t9,Tryz.type9,rfl⟩
 ·exact ⟨Tryz.t26,Tryz.type26,rfl⟩
 ·exact ⟨Tryz.t29,Tryz.type29,rfl⟩
 ·exact ⟨Tryz.t45,Tryz.type45,rfl⟩
 ·exact ⟨Tryz.t49,Tryz.type49,rfl⟩
 ·exact ⟨Tryz.t62,Tryz.type62,rfl⟩
 ·exact ⟨Tryz.t67,Tryz.type67,rfl⟩
 ·exact ⟨Tryz.t93,Tryz.type93,rfl⟩
 ·exact ⟨Tryz.t102,Tryz.type102,rfl⟩
 ·exact ⟨Tryz.t155,Tryz.type155,rfl⟩) (by kernel_rfl)
end Go.Proofs.YthdimnlkcgchoaaGreat
