import Derived.Test.YtlkfbblapimhoaaGreatDoorLKO
import Derived.Test.YtlkfbblapimhoaaGreatDoorLX
import Derived.Test.YtlkfbblapimhoaaGreatDoorBU
import Derived.KernelRfl
import Derived.Lib.LaidTab
import Derived.Lib.ItoaNum
import Derived.Test.YtlkfbblapimhoaaGreatDoorProg
namespace Go.Proofs.YtlkfbblapimhoaaGreatDoor
set_option linter.all false
set_option maxRecDepth 100000
instance drw0:Drw:=drwF
structure Cnd where
 cn:List UInt8
 cb:Bool
 cl:Int
deriving DecidableEq
structure Rule where
 rn:List UInt8
 rw:List Cnd
 rl:List UInt8
 rs:Int
deriving DecidableEq
structure Tok where
 kk:Int
 kt:List UInt8
 kl:Int
 kc:Int
deriving DecidableEq
structure Pos where
 pl:Int
 pc:Int
deriving DecidableEq
structure Rdr where
 rt:List Tok
 ra:Int
 rb:Bool
deriving DecidableEq
inductive U where
 | cnd | rule | tok | pos | int | str | bool | u8 | pc | rdr
deriving DecidableEq
noncomputable def El:U→Type
 | .cnd=>Cnd
 | .rule=>Rule
 | .tok=>Tok
 | .pos=>Pos
 | .int=>Int
 | .str=>List UInt8
 | .bool=>Bool
 | .u8=>UInt8
 | .pc=>Option (List Cnd×Nat)
 | .rdr=>Rdr
noncomputable def kq_str:(List UInt8)→(List UInt8)→Bool:=fun a b=>(a == b)
noncomputable def E:Univ U El where
  enc:=fun u=>match u with
    | .cnd=>fun (x:Cnd)=>[.str x.cn,.bool x.cb,.int .i64 x.cl]
    | .rule=>fun (x:Rule)=>[.str x.rn,.lst .cnd x.rw,.str x.rl,.int .i64 x.rs]
    | .tok=>fun (x:Tok)=>[.int .i64 x.kk,.str x.kt,.int .i64 x.kl,.int .i64 x.kc]
    | .pos=>fun (x:Pos)=>[.int .i64 x.pl,.int .i64 x.pc]
    | .int=>fun (x:Int)=>[.int .i64 x]
    | .str=>fun (x:List UInt8)=>[.str x]
    | .bool=>fun (x:Bool)=>[.bool x]
    | .u8=>fun (x:UInt8)=>[.int .u8 (Int.ofNat x.toNat)]
    | .pc=>fun (x:Option (List Cnd×Nat))=>(match x with | none=>[.nilp] | some p=>[.pel .cnd p.1 p.2 0])
    | .rdr=>fun (x:Rdr)=>[.lst .tok x.rt,.int .i64 x.ra,.bool x.rb]
  dec := fun u cs => match u with
    | .cnd => match cs with
      | [.str f0,.bool f1,.int .i64 f2]=>some (⟨f0,f1,f2⟩:Cnd)
      | _=>none
    | .rule => match cs with
      | [.str f0,.lst .cnd f1,.str f2,.int .i64 f3]=>some (⟨f0,f1,f2,f3⟩:Rule)
      | [.str f0,.nils,.str f2,.int .i64 f3]=>some (⟨f0,([]:List Cnd),f2,f3⟩:Rule)
      | _=>none
    | .tok => match cs with
      | [.int .i64 f0,.str f1,.int .i64 f2,.int .i64 f3]=>some (⟨f0,f1,f2,f3⟩:Tok)
      | _=>none
    | .pos => match cs with
      | [.int .i64 f0,.int .i64 f1]=>some (⟨f0,f1⟩:Pos)
      | _=>none
    | .int => match cs with
      | [.int .i64 f0]=>some (f0:Int)
      | _=>none
    | .str => match cs with
      | [.str f0]=>some (f0:List UInt8)
      | _=>none
    | .bool => match cs with
      | [.bool f0]=>some (f0:Bool)
      | _=>none
    | .u8=>none
    | .pc => match cs with
      | [.nilp]=>some (none:Option (List Cnd×Nat))
      | [.pel .cnd f0 f1 0]=>some (some (f0,f1):Option (List Cnd×Nat))
      | _=>none
    | .rdr => match cs with
      | [.lst .tok f0,.int .i64 f1,.bool f2]=>some (⟨f0,f1,f2⟩:Rdr)
      | [.nils,.int .i64 f1,.bool f2]=>some (⟨([]:List Tok),f1,f2⟩:Rdr)
      | _=>none
  dflt:=fun u=>match u with
    | .cnd=>(⟨[],false,0⟩:Cnd)
    | .rule=>(⟨[],[],[],0⟩:Rule)
    | .tok=>(⟨0,[],0,0⟩:Tok)
    | .pos=>(⟨0,0⟩:Pos)
    | .int=>(0:Int)
    | .str=>([]:List UInt8)
    | .bool=>(false:Bool)
    | .u8=>(0:UInt8)
    | .pc=>(none:Option (List Cnd×Nat))
    | .rdr=>(⟨[],0,false⟩:Rdr)
  sz:=fun u=>match u with | .cnd=>3 | .rule=>4 | .tok=>4 | .pos=>2 | .int=>1 | .str=>1 | .bool=>1 | .u8=>1 | .pc=>1 | .rdr=>3
  by_:=fun u=>match u with | .cnd=>32 | .rule=>64 | .tok=>40 | .pos=>16 | .int=>8 | .str=>16 | .bool=>1 | .u8=>1 | .pc=>8 | .rdr=>40
  tid:=fun u=>match u with | .cnd=>78 | .rule=>51 | .tok=>101 | .pos=>29 | .int=>3 | .str=>9 | .bool=>4 | .u8=>5 | .pc=>139 | .rdr=>107
  agg:=fun u=>match u with | .cnd=>true | .rule=>true | .tok=>true | .pos=>true | .int=>false | .str=>false | .bool=>false | .u8=>false | .pc=>false | .rdr=>true
  fl:=fun u=>match u with | .rule=>false | .pc=>false | .rdr=>false | _=>true
  G := fun w => Lib.TabIs Tryz.prog w "internal/strconv.uint64pow10" .u64 Lib.pow10Tab ∧ ((∃ m : Int, w.cell? ⟨0, 0, none⟩ = some (.int .i64 m)) ∧ ((∃ ev, w.cell? ⟨2, 0, none⟩ = some ev ∧ (ev = .nilIface ∨ ∃ te pe, ev = .iface te pe)) ∧ (∃ ev, w.cell? ⟨3, 0, none⟩ = some ev ∧ (ev = .nilIface ∨ ∃ te pe, ev = .iface te pe))))
  keq:=fun u=>match u with | .str=>kq_str | _=>fun _ _=>false
  kok:=fun u=>match u with | .str=>true | _=>false
  vok:=fun u=>match u with | .int=>true | .bool=>true | _=>false
theorem E_good:UGood Tryz.prog E where
 len:=fun u x=>by cases u<;>first | rfl | (cases x<;>rfl)
 pos:=fun u=>by cases u<;>decide
 bpos:=fun u=>by cases u<;>decide
 cell:=fun u x c hc=>by
  cases u<;>first | (cases x<;>(simp [E] at hc; subst hc; rfl); done) | skip
  all_goals simp only [E,List.mem_cons,List.not_mem_nil,or_false] at hc<;>(repeat' (rcases hc with rfl | hc))<;>first | rfl | (subst hc; rfl)
 flat:=fun u hu x c hc=>by
  cases u
  ·simp only [E,List.mem_cons,List.not_mem_nil,or_false] at hc<;>(repeat' (rcases hc with rfl | hc))<;>first | rfl | (subst hc; rfl)
  ·cases hu
  ·simp only [E,List.mem_cons,List.not_mem_nil,or_false] at hc<;>(repeat' (rcases hc with rfl | hc))<;>first | rfl | (subst hc; rfl)
  ·simp only [E,List.mem_cons,List.not_mem_nil,or_false] at hc<;>(repeat' (rcases hc with rfl | hc))<;>first | rfl | (subst hc; rfl)
  ·simp only [E,List.mem_cons,List.not_mem_nil,or_false] at hc<;>(repeat' (rcases hc with rfl | hc))<;>first | rfl | (subst hc; rfl)
  ·simp only [E,List.mem_cons,List.not_mem_nil,or_false] at hc<;>(repeat' (rcases hc with rfl | hc))<;>first | rfl | (subst hc; rfl)
  ·simp only [E,List.mem_cons,List.not_mem_nil,or_false] at hc<;>(repeat' (rcases hc with rfl | hc))<;>first | rfl | (subst hc; rfl)
  ·simp only [E,List.mem_cons,List.not_mem_nil,or_false] at hc<;>(repeat' (rcases hc with rfl | hc))<;>first | rfl | (subst hc; rfl)
  ·cases hu
  ·cases hu
 gst:=fun w w' h hb=>⟨tab_below h.1 hb,⟨by obtain ⟨m,hm⟩:=h.2.1; exact ⟨m,(hb.cell (p:=⟨0,0,none⟩) (World.block_lt_of_cell? w ⟨0,0,none⟩ hm)).trans hm⟩,by obtain ⟨ev,hm,he⟩:=h.2.2.1; exact ⟨ev,(hb.cell (p:=⟨_,0,none⟩) (World.block_lt_of_cell? w _ hm)).trans hm,he⟩,by obtain ⟨ev,hm,he⟩:=h.2.2.2; exact ⟨ev,(hb.cell (p:=⟨_,0,none⟩) (World.block_lt_of_cell? w _ hm)).trans hm,he⟩⟩⟩
 key:=fun u h=>by
  cases u
  ·cases h
  ·cases h
  ·cases h
  ·cases h
  ·cases h
  ·exact keyOk_str (fun x=>x) rfl (by kernel_rfl) (fun _=>rfl) (fun _ _=>rfl)
  ·cases h
  ·cases h
  ·cases h
  ·cases h
 val:=fun u h=>by
  cases u
  ·cases h
  ·cases h
  ·cases h
  ·cases h
  ·exact valOk_one rfl Tryz.type3 rfl rfl (fun _ _ _=>.int _ _)
  ·cases h
  ·exact valOk_one rfl Tryz.type4 rfl rfl (fun _ _ _=>.bool _)
  ·cases h
  ·cases h
  ·cases h
 dec:=fun u cs x h=>by
  cases u
  ·simp only [E] at h
   split at h<;>first | (cases h; exact ⟨rfl,fun j c hj=>⟨c,hj,.inl rfl⟩⟩) | cases h
  ·simp only [E] at h
   split at h<;>first | (cases h; refine ⟨rfl,fun j c hj=>?_⟩; match j,hj with | 0,hj=>(cases hj; first | exact ⟨_,rfl,.inl rfl⟩ | exact ⟨_,rfl,.inr ⟨rfl,_,rfl⟩⟩) | 1,hj=>(cases hj; first | exact ⟨_,rfl,.inl rfl⟩ | exact ⟨_,rfl,.inr ⟨rfl,_,rfl⟩⟩) | 2,hj=>(cases hj; first | exact ⟨_,rfl,.inl rfl⟩ | exact ⟨_,rfl,.inr ⟨rfl,_,rfl⟩⟩) | 3,hj=>(cases hj; first | exact ⟨_,rfl,.inl rfl⟩ | exact ⟨_,rfl,.inr ⟨rfl,_,rfl⟩⟩)) | cases h
  ·simp only [E] at h
   split at h<;>first | (cases h; exact ⟨rfl,fun j c hj=>⟨c,hj,.inl rfl⟩⟩) | cases h
  ·simp only [E] at h
   split at h<;>first | (cases h; exact ⟨rfl,fun j c hj=>⟨c,hj,.inl rfl⟩⟩) | cases h
  ·simp only [E] at h
   split at h<;>first | (cases h; exact ⟨rfl,fun j c hj=>⟨c,hj,.inl rfl⟩⟩) | cases h
  ·simp only [E] at h
   split at h<;>first | (cases h; exact ⟨rfl,fun j c hj=>⟨c,hj,.inl rfl⟩⟩) | cases h
  ·simp only [E] at h
   split at h<;>first | (cases h; exact ⟨rfl,fun j c hj=>⟨c,hj,.inl rfl⟩⟩) | cases h
  ·cases h
  ·simp only [E] at h
   split at h<;>first | (cases h; exact ⟨rfl,fun j c hj=>⟨c,hj,.inl rfl⟩⟩) | cases h
  ·simp only [E] at h
   split at h<;>first | (cases h; refine ⟨rfl,fun j c hj=>?_⟩; match j,hj with | 0,hj=>(cases hj; first | exact ⟨_,rfl,.inl rfl⟩ | exact ⟨_,rfl,.inr ⟨rfl,_,rfl⟩⟩) | 1,hj=>(cases hj; first | exact ⟨_,rfl,.inl rfl⟩ | exact ⟨_,rfl,.inr ⟨rfl,_,rfl⟩⟩) | 2,hj=>(cases hj; first | exact ⟨_,rfl,.inl rfl⟩ | exact ⟨_,rfl,.inr ⟨rfl,_,rfl⟩⟩)) | cases h
 info:=fun u=>by
  cases u
  ·exact info_of Tryz.type78 rfl rfl rfl rfl rfl
  ·refine ⟨_,_,Tryz.type51,rfl,rfl,rfl,rfl,fun j c hj=>?_⟩
   match j,hj with | 0,hj=>(cases hj; exact ⟨_,rfl,fun _ _ _=>.str _⟩) | 1,hj=>(cases hj; exact ⟨_,rfl,fun _ _ _=>.lstE _ _ _⟩) | 2,hj=>(cases hj; exact ⟨_,rfl,fun _ _ _=>.str _⟩) | 3,hj=>(cases hj; exact ⟨_,rfl,fun _ _ _=>.int _ _⟩)
  ·exact info_of Tryz.type101 rfl rfl rfl rfl rfl
  ·exact info_of Tryz.type29 rfl rfl rfl rfl rfl
  ·exact info_of Tryz.type3 rfl rfl rfl rfl rfl
  ·exact info_of Tryz.type9 rfl rfl rfl rfl rfl
  ·exact info_of Tryz.type4 rfl rfl rfl rfl rfl
  ·exact info_of Tryz.type5 rfl rfl rfl rfl rfl
  ·exact info_of Tryz.type139 rfl rfl rfl rfl rfl
  ·refine ⟨_,_,Tryz.type107,rfl,rfl,rfl,rfl,fun j c hj=>?_⟩
   match j,hj with | 0,hj=>(cases hj; exact ⟨_,rfl,fun _ _ _=>.lstE _ _ _⟩) | 1,hj=>(cases hj; exact ⟨_,rfl,fun _ _ _=>.int _ _⟩) | 2,hj=>(cases hj; exact ⟨_,rfl,fun _ _ _=>.bool _⟩)
theorem byteU:ByteU E .u8 (fun s=>s) (fun s=>s) where
 sz:=rfl
 by_:=rfl
 len:=fun _=>rfl
 enc:=fun s i h=>⟨s[i],List.getElem?_eq_getElem h,by simp [E,List.getD,List.getElem?_eq_getElem h]⟩
 lenU:=fun _=>rfl
 encU:=fun xs i y h=>⟨y,h,rfl⟩
noncomputable def d_cnd:Cnd:=(⟨[],false,0⟩:Cnd)
noncomputable def d_rule:Rule:=(⟨[],[],[],0⟩:Rule)
noncomputable def d_tok:Tok:=(⟨0,[],0,0⟩:Tok)
noncomputable def d_str:List UInt8:=[]
noncomputable def d_bool:Bool:=false
abbrev R:=Option (Fin U El)
noncomputable def tds:List (TypeId×TD U):=[(3,.int .i64),(4,.bool),(5,.int .u8),(9,.str),(22,.slice .rule),(25,.int .i64),(29,.struct [(0,1,false),(1,1,false)] 2),(41,.slice .int),(49,.slice .cnd),(51,.struct [(0,1,false),(1,1,false),(2,1,false),(3,1,false)] 4),(52,.one),(53,.slice .str),(78,.struct [(0,1,false),(1,1,false),(2,1,false)] 3),(84,.bld .u8),(86,.iface),(92,.slice .tok),(95,.struct [(0,1,false),(1,1,false)] 2),(97,.ptr),(99,.struct [(0,1,false),(1,1,false)] 2),(101,.struct [(0,1,false),(1,1,false),(2,2,true)] 4),(107,.struct [(0,1,false),(1,1,false),(2,1,false)] 3),(110,.map .str .bool),(115,.map .str .int),(132,.one),(138,.amap .str),(139,.ptr),(143,.struct [(0,1,false),(1,1,false)] 2),(144,.slice .pc)]
noncomputable def zeros:List (TypeId×Value):=[(22,(Tryz.t22.zero).getD (.int .i64 0)),(25,(Tryz.t25.zero).getD (.int .i64 0)),(29,(Tryz.t29.zero).getD (.int .i64 0)),(51,(Tryz.t51.zero).getD (.int .i64 0)),(78,(Tryz.t78.zero).getD (.int .i64 0)),(95,(Tryz.t95.zero).getD (.int .i64 0)),(99,(Tryz.t99.zero).getD (.int .i64 0)),(101,(Tryz.t101.zero).getD (.int .i64 0)),(107,(Tryz.t107.zero).getD (.int .i64 0)),(143,(Tryz.t143.zero).getD (.int .i64 0))]
noncomputable def eqs:List (TypeId×List Nat):=[(29,[0,0]),(78,[2,1,0])]
theorem tab:TabOk Tryz.prog E tds zeros eqs:=tabOk (by kernel_rfl) E_good (by kernel_rfl) (by
 intro p hp
 simp only [zeros,List.mem_cons,List.not_mem_nil,or_false] at hp
 rcases hp with rfl | rfl | rfl | rfl | rfl | rfl | rfl | rfl | rfl | rfl
 ·exact ⟨Tryz.t22,Tryz.type22,rfl⟩
 ·exact ⟨Tryz.t25,Tryz.type25,rfl⟩
 ·exact ⟨Tryz.t29,Tryz.type29,rfl⟩
 ·exact ⟨Tryz.t51,Tryz.type51,rfl⟩
 ·exact ⟨Tryz.t78,Tryz.type78,rfl⟩
 ·exact ⟨Tryz.t95,Tryz.type95,rfl⟩
 ·exact ⟨Tryz.t99,Tryz.type99,rfl⟩
 ·exact ⟨Tryz.t101,Tryz.type101,rfl⟩
 ·exact ⟨Tryz.t107,Tryz.type107,rfl⟩
 ·exact ⟨Tryz.t143,Tryz.type143,rfl⟩) (by kernel_rfl)
end Go.Proofs.YtlkfbblapimhoaaGreatDoor
