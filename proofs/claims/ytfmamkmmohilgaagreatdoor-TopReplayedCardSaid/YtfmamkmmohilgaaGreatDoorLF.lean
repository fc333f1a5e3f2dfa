/- Abstract values, the abstract run of the program's code, and its first operations borne out by the model. Conditions: those of each theorem, none else. -/
import Derived.LoopN
import Derived.Below
import Derived.Lib.IndexBytes
import Derived.ChangeKeysEq
import Derived.Laws.IdiomStrings
namespace Go.Proofs.YtfmamkmmohilgaaGreatDoor
open IntKind
set_option linter.all false
def aa{P:Prop}(h:P:=by kernel_rfl):P:=h
def ab{P:Prop}(h:P:=by omega):P:=h
def ae{P:Prop}(h:P:=by simp):P:=h
def af{P:Prop}(h:P:=by decide):P:=h
abbrev ah.{u}(α:Type u):=List α
def aj:=@Bool.and_eq_true
def ak:=@List.getElem?_eq_some_iff
def al:=@Nat.eq_of_beq_eq_true
def az:=@List.getElem?_eq_getElem
def aC:=@Array.getElem?_eq_getElem
def aD:=@List.mem_of_getElem?
def aF:=@List.length_append
def aG:=@Nat.beq_refl
def aH:=@Array.getD_eq_getD_getElem?
def aJ:=@Option.map_eq_some_iff
def aP:=@List.all_eq_true
def aV:=@Nat.le_of_ble_eq_true
def aW:=@Int.ofNat_eq_natCast
def aX:=@Array.getElem?_eq_some_iff
def aY:=@Nat.le_refl
def aZ:=@Bool.and_eq_true_iff
def a_:=@List.getElem?_append_left
def bo:=@List.getElem?_map
def bq:=@List.eq_nil_of_length_eq_zero
def br:=@List.getElem?_append_right
def bu:=@Nat.mul_le_mul_right
def bC:=@Int.eq_ofNat_of_zero_le
def bH:=@List.drop_length
def bN:=@List.mem_cons
def bO:=@Array.getElem?_toList
def bV:=@List.length_take
def bW:=@List.getElem_mem
def bX:=@Option.some.injEq
def bZ:=@Nat.zero_add
def b_:=@List.append_assoc
def cd:=@List.getElem?_take_of_lt
def cg:=@List.getElem?_drop
def ck:=@Nat.le_trans
def cq:=@Ne.symm
def cz:=@List.mem_singleton
def cF:=@Bool.not_eq_true'
def cI:=@List.length_cons
def cU:=@List.append_nil
def cW:=@Array.length_toList
def cY:=@Nat.add_mul
def cZ:=@List.getElem?_toArray
def db:=@Array.getElem?_setIfInBounds_self_of_lt
def dm:=@Bool.true_and
def dw:=@Prod.mk.injEq
def dx:=@List.map_cons
def dy:=@Int.natCast_nonneg
def dE:=@List.mem_cons_of_mem
def dJ:=@Bool.and_true
def dZ:=@Array.getElem?_push
def eb:=@Array.getElem?_setIfInBounds_ne
def ez:=@Option.some.inj
def eF:=@Classical.choose_spec
def eI:=@Nat.exists_eq_succ_of_ne_zero
def eK:=@Option.map_some
def eL:=@Option.getD_some
def eM:=@List.cons_append
def eS:=@Nat.zero_le
def eT:=@List.mem_map
def eV:=@Nat.min_eq_left
def eW:=@List.length_nil
def eX:=@Bool.or_eq_true
def fb:=@Nat.add_assoc
def fc:=@Bool.not_true
def fe:=@Bool.false_or
def fk:=@Nat.lt_of_lt_of_le
def fm:=@List.getElem?_set_self
def fq:=@List.drop_zero
def fE:=@List.length_drop
def fP:=@Nat.mul_pos
def fQ:=@List.getElem?_take
def fR:=@Int.fdiv_eq_ediv_of_nonneg
def fW:=@Array.getElem?_eq_none
def f_:=@Array.ext'
def gg:=@Nat.add_zero
def gh:=@List.nil_append
def gk:=@List.length_map
def gv:=@List.getElem?_set_ne
def gC:=@List.any_eq_false
def gD:=@Classical.epsilon_spec
def gE:=@Bool.and_false
def gF:=@Array.getElem?_append_left
def gX:=@List.mem_cons_self
def gY:=@Bool.false_eq_true
def g':=@Option.isSome_iff_exists
def hJ:=@Nat.sub_zero
def hO:=@Int.ofNat.inj
def hU:=@Nat.one_mul
def hY:=@Bool.or_eq_false_iff
def ic:=@List.getElem?_cons_succ
def ig:=@Int.toNat_natCast
def im:=@List.mem_zipIdx_iff_getElem?
def iv:=@List.getElem_of_mem
def iG:=@Bool.not_not
def iK:=@Option.bind_some
def iQ:=@Bool.not_false
def iR:=@Bool.and_assoc
def iU:=@Array.mem_of_getElem?
def je:=@Nat.mul_comm
def jf:=@List.map_nil
def jg:=@List.getElem?_of_mem
def jN:=@List.take_subset
def jO:=@List.elem_eq_mem
def jP:=@Array.eq_empty_of_size_eq_zero
def j_:=@Int.le_refl
def ki:=@List.take_of_length_le
def kk:=@Bool.not_and
def kz:=@List.mem_append
def kC:=@List.cons.injEq
def kM:=@Nat.ble_eq_true_of_le
def kN:=@List.take_append_drop
def kQ:=@List.size_toArray
def k_:=@List.range_eq_range'
def lg:=@List.getElem?_append
def lj:=@List.getD_eq_getElem?_getD
def lH:=@Nat.mod_eq_of_lt
def lI:=@Nat.le_add_right
def lJ:=@List.range'_succ
def lK:=@List.not_mem_nil
def lL:=@List.map_toArray
def lZ:=@List.elem_iff
def l6:=@List.all_cons
def mh:=@Bool.eq_iff_iff
def mD:=@Nat.mul_one
def mE:=@List.getElem?_replicate
def mF:=@List.getElem?_cons_zero
def mR:=@List.mem_range
def mS:=@List.getElem?_inj
def mT:=@List.drop_eq_nil_of_le
def od:=@List.any_cons
def oe:=@Bool.or_false
def oO:=@List.mem_filter
def oP:=@List.map_append
def oX:=@Nat.pow_succ
inductive AV (U:Type) (El:U->Type):Type where
 |any
 |bool (b:Bool)
 |int (k:IntKind) (n:Int)
 |str (s:List UInt8)
 |j5|cL|lN|oT|oz
 |agg (cs:List (AV U El))
 |bP (cs:List (AV U El))
 |au (u:U) (xs:List (El u))
 |cf (id:Nat)
 |own (id lo len:Nat)
 |ptr (id off:Nat)
 |row (id i off:Nat)
 |pel (u:U) (xs:List (El u)) (i off:Nat)
 |pcs (cs:List (AV U El)) (off:Nat)
 |fn (f:FuncId) (first mO:List (AV U El))
 |err
 |mp (id:Nat)
 |sr (u v:U) (es:List (El u×El v))
inductive qm (U:Type) (El:U->Type):Type where
 |rows (u:U) (xs:List (El u))
 |box (t:Nat) (cs:List (AV U El))
 |uk (T:TypeId) (j:Nat)
 |map (u v:U) (es:List (El u×El v))
 |jC (u:U) (ks:List (El u)) (cs:List (AV U El))
 |pZ (t:Nat) (u:U) (xs:List (El u))
inductive TD (U:Type):Type where
 |one
 |bool
 |ptr
 |iface
 |int (k:IntKind)
 |str
 |slice (u:U)
 |struct (fs:List (Nat×Nat×Bool)) (sz:Nat)
 |arr (n es:Nat) (ea:Bool) (sz:Nat)
 |uk (u:U)
 |map (u v:U)
 |jC (u:U)
structure fZ (U:Type) (El:U->Type) where
 enc:(u:U)->El u->List (AV U El)
 dec:(u:U)->List (AV U El)->Option (El u)
 iL:(u:U)->El u
 sz:U->Nat
 AR:U->Nat
 tid:U->TypeId
 agg:U->Bool
 fl:U->Bool
 G:World->Prop
 nu:(u:U)->El u->El u->Bool
 N3:U->Bool
 PJ:U->Bool
 Yl:TypeId->Option U:=λ_=>none
 xn:TypeId->Nat:=λ_=>0
 Av:U->Bool:=λ_=>false
 Pc:(u:U)->List UInt8->List (El u):=λ_ _=>[]
 PK:(u:U)->List (El u)->List UInt8:=λ_ _=>[]
def na{K:Type}(eq:K->K->Bool):ah K->K->Option Nat
 |[],_=>none
 |a::l,x=>bif eq x a then some 0 else(na eq l x).map (· +1)
def rS{K V:Type}(eq:K->K->Bool):ah (K×V)->K->Option V
 |[],_=>none
 |p::l,x=>bif eq x p.1 then some p.2 else rS eq l x
def qu{K V:Type}(eq:K->K->Bool):ah (K×V)->K->V->ah (K×V)
 |[],x,v=>[(x,v)]
 |p::l,x,v=>bif eq x p.1 then(x,v)::l else p::qu eq l x v
def gL{K V:Type}(eq:K->K->Bool)(l:ah (K×V))(x:K)(d:V):V:=(rS eq l x).getD d
def qK{K V:Type}(eq:K->K->Bool)(l:ah (K×V))(x:K):Bool:=(rS eq l x).isSome
section
variable{U:Type}{El:U->Type}
def wc(E:fZ U El)(u:U)(x:El u):AV U El:=bif E.agg u then .agg (E.enc u x)else(E.enc u x).headD .any
def ya(E:fZ U El)(u:U)(a:AV U El):Option (El u):=
 match a with
 |.agg cs=>bif E.agg u then E.dec u cs else none
 |.any=>none
 |.bP _=>none
 |a=>bif E.agg u then none else E.dec u [a]
def AV.rC(id:Nat):AV U El->Bool
 |.agg cs=>xC cs
 |.bP cs=>xC cs
 |.pcs cs _=>xC cs
 |.fn _ a b=>xC a||xC b
 |.cf j=>j==id
 |.own j _ _=>j==id
 |.ptr j _=>j==id
 |.row j _ _=>j==id
 |.mp j=>j==id
 |_=>false
where
 xC:ah (AV U El)->Bool
  |[]=>false
  |c::cs=>AV.rC id c||xC cs
def AV.flat:AV U El->Bool
 |.agg cs=>EA cs
 |.bP cs=>EA cs
 |.bool _|.int _ _|.str _|.j5|.cL|.lN|.oT|.oz|.err=>true
 |.cf _|.own _ _ _=>true
 |_=>false
where
 EA:ah (AV U El)->Bool
  |[]=>true
  |c::cs=>AV.flat c&&EA cs
def AV.cell:AV U El->Bool
 |.bool _|.int _ _|.str _|.j5|.cL|.lN|.oT|.oz|.err|.au _ _|.sr _ _ _|.pel _ _ _ _=>true
 |_=>false
def AV.one:AV U El->Bool
 |.any|.agg _|.bP _=>false
 |_=>true
def AV.kill(id:Nat)(a:AV U El):AV U El:=bif a.rC id then .any else a
abbrev bI(U:Type)(El:U->Type):=ah (Nat×qm U El)
def aN:bI U El->Nat->Option (qm U El)
 |[],_=>none
 |(j,b)::h,id=>bif Nat.beq j id then some b else aN h id
def CK:bI U El->Nat->bI U El
 |[],_=>[]
 |(j,b)::h,id=>bif Nat.beq j id then CK h id else(j,b)::CK h id
def qm.kill(id:Nat):qm U El->qm U El
 |.rows u xs=>.rows u xs
 |.box t cs=>.box t (cs.map (AV.kill id))
 |.uk T j=>bif Nat.beq j id then .box 0 [.any,.any]else .uk T j
 |.map u v es=>.map u v es
 |.jC u ks cs=>.jC u ks (cs.map (AV.kill id))
 |.pZ t u xs=>.pZ t u xs
def H8(id:Nat):bI U El->bI U El
 |[]=>[]
 |(j,b)::h=>(j,b.kill id)::H8 id h
abbrev eH(U:Type)(El:U->Type):=ah (Nat×AV U El)
def cC:eH U El->Nat->AV U El
 |[],_=>.any
 |(j,v)::t,i=>bif Nat.beq j i then v else cC t i
def yP(id:Nat):eH U El->eH U El
 |[]=>[]
 |(j,v)::t=>(j,v.kill id)::yP id t
def AV.nG(σ:Nat->Nat):AV U El->AV U El
 |.agg cs=>.agg (sb cs)
 |.bP cs=>.bP (sb cs)
 |.pcs cs o=>.pcs (sb cs) o
 |.fn f a b=>.fn f (sb a) (sb b)
 |.cf j=>.cf (σ j)
 |.own j lo len=>.own (σ j) lo len
 |.ptr j o=>.ptr (σ j) o
 |.row j i o=>.row (σ j) i o
 |.mp j=>.mp (σ j)
 |.any=>.any
 |.bool b=>.bool b
 |.int k n=>.int k n
 |.str s=>.str s
 |.j5=>.j5
 |.cL=>.cL
 |.lN=>.lN
 |.oT=>.oT
 |.oz=>.oz
 |.au u xs=>.au u xs
 |.pel u xs i o=>.pel u xs i o
 |.err=>.err
 |.sr u v es=>.sr u v es
where
 sb:ah (AV U El)->ah (AV U El)
  |[]=>[]
  |c::cs=>AV.nG σ c::sb cs
def qm.nG(σ:Nat->Nat)(tg:Nat):qm U El->qm U El
 |.rows u xs=>.rows u xs
 |.box _ cs=>.box tg (cs.map (AV.nG σ))
 |.uk T j=>.uk T (σ j)
 |.map u v es=>.map u v es
 |.jC u ks cs=>.jC u ks (cs.map (AV.nG σ))
 |.pZ _ u xs=>bif Nat.beq tg 0 then .rows u xs else .pZ tg u xs
def qm.tag:qm U El->Nat
 |.box t _=>t
 |.pZ t _ _=>t
 |_=>0
structure St (U:Type) (El:U->Type) where
 t:eH U El
 h:bI U El
def St.forget(st:St U El)(id:Nat):St U El:=⟨yP id st.t,H8 id (CK st.h id)⟩
def St.fD(st:St U El):ah Nat->St U El
 |[]=>st
 |id::ids=>(st.forget id).fD ids
def xS(id j:Nat):Nat->Nat:=λi=>bif Nat.beq i id then j else i
def vw(id j:Nat):eH U El->eH U El
 |[]=>[]
 |(i,v)::t=>(i,v.nG (xS id j))::vw id j t
def yr(id j:Nat):bI U El->bI U El
 |[]=>[]
 |(i,b)::h=>(xS id j i,b.nG (xS id j) b.tag)::yr id j h
def St.rename(st:St U El)(id j:Nat):St U El:=⟨vw id j st.t,yr id j st.h⟩
abbrev Fin(U:Type)(El:U->Type):=AV U El×bI U El
def ai{R:Type}(b:Bool)(x y:R):R:=bif b then x else y
def aU{R:Type}(b:Bool)(x:Option R):Option R:=bif b then x else none
noncomputable def J2 {R:Type} (x y:Option R):Option R:=@ite _ (x=y) (Classical.propDecidable _) x none
theorem rf{R:Type}(x:Option R):J2 x x=x:=by unfold J2;rw[if_pos rfl]
theorem E'{R:Type}{x y:Option R}{r:R}(h:J2 x y=some r):x=some r/\y=some r:=by
 unfold J2 at h;split at h
 ·rename_i e;exact⟨h,e▸h⟩
 ·cases h
def bz(a b:Int):Bool:=decide (a<b)
def bg(a b:Int):Bool:=decide (a<=b)
def lU(a b:Nat):Bool:=decide (a<b)
def bU(a b:Nat):Bool:=decide (a<=b)
def slt(a b:ah UInt8):Bool:=Op.bytesLess a b
def dV(i:Int)(n:Nat):Bool:=bg 0 i&&bz i n
abbrev wF(U:Type)(El:U->Type):=ah (AV U El)->bI U El->(AV U El->bI U El->Option (Fin U El))->Option (Fin U El)
structure Out (U:Type) (El:U->Type) where
 v:AV U El
 new:bI U El
structure Ctx (U:Type) (El:U->Type) where
 E:fZ U El
 iH:List (TypeId×TD U)
 zeros:List (TypeId×Value)
 eqs:List (TypeId×List Nat)
 spec:FuncId->List (AV U El)->(AV U El->bI U El->Option (Fin U El))->Option (Fin U El)
 fuel:Nat
 nt:Nat
 wg:FuncId->Option (wF U El)
 mspec:FuncId->Option (Nat->List (AV U El)->St U El->(AV U El->St U El->Option (Fin U El))->Option (Fin U El))
 Ot:Nat->Option (St U El->(St U El->Option (Fin U El))->Option (Fin U El))
def dS:ah (TypeId×TD U)->TypeId->Option (TD U)
 |[],_=>none
 |(j,d)::l,t=>bif Nat.beq j t then some d else dS l t
def xN:ah (TypeId×Value)->TypeId->Option Value
 |[],_=>none
 |(j,d)::l,t=>bif Nat.beq j t then some d else xN l t
def jL:Value->AV U El
 |.bool b=>.bool b
 |.int k n=>.int k n
 |.string s=>.str s.data.toList
 |.pointer none=>.j5
 |.slice none 0 0=>.cL
 |.map none=>.oz
 |.nilFunc=>.oT
 |.nilIface=>.lN
 |.agg cs=>.agg (kP cs.toList)
 |.tuple cs=>.bP (kP cs.toList)
 |_=>.any
where
 kP:ah Value->ah (AV U El)
  |[]=>[]
  |.bool b::l=>.bool b::kP l
  |.int k n::l=>.int k n::kP l
  |.string s::l=>.str s.data.toList::kP l
  |.pointer none::l=>.j5::kP l
  |.slice none 0 0::l=>.cL::kP l
  |.map none::l=>.oz::kP l
  |.nilFunc::l=>.oT::kP l
  |.nilIface::l=>.lN::kP l
  |_::l=>.any::kP l
def bm(t:eH U El):Operand->AV U El
 |.tmp i=>cC t i
 |.const v=>jL v
 |.global _=>.any
 |.func f=>.fn f [] []
variable [DecidableEq U]
def toArg1(X:Ctx U El)(h:bI U El)(td:Option (TD U)):AV U El->Option (AV U El)
 |.cf id=>match aN h id with
  |some (.rows u xs)=>some (.au u xs)
  |_=>none
 |.own id lo len=>match aN h id with
  |some (.rows u xs)=>some (.au u ((xs.drop lo).take len))
  |_=>none
 |.cL=>match td with
  |some (.slice u)=>some (.au u [])
  |_=>some .cL
 |.bool b=>some (.bool b)
 |.int k n=>some (.int k n)
 |.str s=>some (.str s)
 |.j5=>some .j5
 |.lN=>some .lN
 |.oT=>some .oT
 |.oz=>some .oz
 |.err=>some .err
 |.au u xs=>some (.au u xs)
 |.pel u xs i o=>some (.pel u xs i o)
 |.sr u v es=>some (.sr u v es)
 |.mp id=>match aN h id with
  |some (.map u v es)=>some (.sr u v es)
  |_=>none
 |_=>none
def toArgs1(X:Ctx U El)(h:bI U El):ah (AV U El)->Option (ah (AV U El))
 |[]=>some []
 |c::cs=>match toArg1 X h none c with
  |some d=>match toArgs1 X h cs with
   |some ds=>some (d::ds)
   |none=>none
  |none=>none
def toArg2(X:Ctx U El)(h:bI U El)(td:Option (TD U)):AV U El->Option (AV U El)
 |.agg cs=>match toArgs1 X h cs with
  |some ds=>some (.agg ds)
  |none=>none
 |.ptr id off=>match aN h id with
  |some (.box _ cs)=>match toArgs1 X h cs with
   |some ds=>some (.pcs ds off)
   |none=>none
  |_=>none
 |.pcs cs off=>match toArgs1 X h cs with
  |some ds=>some (.pcs ds off)
  |none=>none
 |a=>toArg1 X h td a
def toArgs2(X:Ctx U El)(h:bI U El):ah (AV U El)->Option (ah (AV U El))
 |[]=>some []
 |c::cs=>match toArg2 X h none c with
  |some d=>match toArgs2 X h cs with
   |some ds=>some (d::ds)
   |none=>none
  |none=>none
def toArg3(X:Ctx U El)(h:bI U El)(td:Option (TD U)):AV U El->Option (AV U El)
 |.ptr id off=>match aN h id with
  |some (.box _ cs)=>match toArgs2 X h cs with
   |some ds=>some (.pcs ds off)
   |none=>none
  |_=>none
 |.pcs cs off=>match toArgs2 X h cs with
  |some ds=>some (.pcs ds off)
  |none=>none
 |a=>toArg2 X h td a
def toArgs3(X:Ctx U El)(h:bI U El):ah (AV U El)->Option (ah (AV U El))
 |[]=>some []
 |c::cs=>match toArg3 X h none c with
  |some d=>match toArgs3 X h cs with
   |some ds=>some (d::ds)
   |none=>none
  |none=>none
def toArg(X:Ctx U El)(h:bI U El)(td:Option (TD U)):AV U El->Option (AV U El)
 |.fn f a b=>match toArgs3 X h a with
  |some a'=>match toArgs3 X h b with
   |some b'=>some (.fn f a' b')
   |none=>none
  |none=>none
 |a=>toArg3 X h td a
def toArgs(X:Ctx U El)(h:bI U El):ah (AV U El)->ah TypeId->Option (ah (AV U El))
 |[],_=>some []
 |c::cs,ts=>match toArg X h (match ts with|t::_=>dS X.iH t|[]=>none) c with
  |some d=>match toArgs X h cs (ts.drop 1)with
   |some ds=>some (d::ds)
   |none=>none
  |none=>none
def view(X:Ctx U El)(h:bI U El)(p:AV U El)(k:ah (AV U El)->Nat->Option (Fin U El)):Option (Fin U El):=
 match p with
 |.ptr id off=>match aN h id with
  |some (.box _ cs)=>k cs off
  |_=>none
 |.row id i off=>match aN h id with
  |some (.rows u xs)=>aU (lU i xs.length) (k (X.E.enc u (xs.getD i (X.E.iL u))) off)
  |some (.pZ _ u xs)=>aU (lU i xs.length) (k (X.E.enc u (xs.getD i (X.E.iL u))) off)
  |_=>none
 |.pel u xs i off=>k (X.E.enc u (xs.getD i (X.E.iL u))) off
 |.pcs cs off=>k cs off
 |_=>none
def partOf(cs:ah (AV U El))(off sz:Nat)(ag:Bool)(k:AV U El->Option (Fin U El)):Option (Fin U El):=
 bif ag then aU (Nat.ble (off+sz) cs.length) (k (.agg ((cs.drop off).take sz)))
 else match cs[off]? with
  |some c=>k c
  |none=>none
def xy:TD U->Option (Nat×Bool)
 |.one=>some (1,false)
 |.bool=>some (1,false)
 |.ptr=>some (1,false)
 |.iface=>some (1,false)
 |.int _=>some (1,false)
 |.str=>some (1,false)
 |.slice _=>some (1,false)
 |.struct _ sz=>some (sz,true)
 |.arr _ _ _ sz=>some (sz,true)
 |.uk _=>none
 |.map _ _=>some (1,false)
 |.jC _=>some (1,false)
def uh:ah (TypeId×ah Nat)->TypeId->ah Nat
 |[],_=>[]
 |(j,d)::l,t=>bif Nat.beq j t then d else uh l t
def gS:ah Nat->ah (AV U El)->ah (AV U El)->Option Bool
 |[],[],[]=>some true
 |0::ts,.int k a::x,.int k' b::y=>bif decide (k=k')then match gS ts x y with|some r=>some ((a==b)&&r)|none=>none else none
 |1::ts,.bool a::x,.bool b::y=>match gS ts x y with|some r=>some ((a==b)&&r)|none=>none
 |2::ts,.str a::x,.str b::y=>match gS ts x y with|some r=>some ((a==b)&&r)|none=>none
 |_,_,_=>none
def AA(op:BinOp)(a b:Int):Option Bool:=
 match op with
 |.eql=>some (a==b)
 |.neq=>some (a !=b)
 |.lss=>some (bz a b)
 |.leq=>some (bg a b)
 |.gtr=>some (bz b a)
 |.geq=>some (bg b a)
 |_=>none
def xt(op:BinOp)(ts:ah Nat)(a b:AV U El)(k:AV U El->Option (Fin U El)):Option (Fin U El):=
 match a,b with
 |.int ka x,.int kb y=>
  match op with
  |.shl=>aU (bg 0 y) (k (.int ka (ka.wrap (x*2^min y.toNat ka.bits))))
  |.shr=>aU (bg 0 y) (k (.int ka (x.fdiv (2^min y.toNat ka.bits))))
  |.add=>aU (decide (ka=kb)) (k (.int ka (ka.wrap (x+y))))
  |.sub=>aU (decide (ka=kb)) (k (.int ka (ka.wrap (x-y))))
  |.mul=>aU (decide (ka=kb)) (k (.int ka (ka.wrap (x*y))))
  |.quo=>aU (decide (ka=kb)) (aU (y !=0) (k (.int ka (ka.wrap (x.tdiv y)))))
  |.rem=>aU (decide (ka=kb)) (aU (y !=0) (k (.int ka (x.tmod y))))
  |.and=>aU (decide (ka=kb)) (k (.int ka (ka.wrap (BitVec.ofInt ka.bits x&&&BitVec.ofInt ka.bits y).toNat)))
  |.or=>aU (decide (ka=kb)) (k (.int ka (ka.wrap (BitVec.ofInt ka.bits x|||BitVec.ofInt ka.bits y).toNat)))
  |.xor=>aU (decide (ka=kb)) (k (.int ka (ka.wrap (BitVec.ofInt ka.bits x^^^BitVec.ofInt ka.bits y).toNat)))
  |_=>aU (decide (ka=kb)) (match AA op x y with
   |some r=>k (.bool r)
   |none=>none)
 |.str x,.str y=>
  match op with
  |.add=>aU (bU (x.length+y.length) 9223372036854775807) (k (.str (x++y)))
  |.eql=>k (.bool (x==y))
  |.neq=>k (.bool (!(x==y)))
  |.lss=>k (.bool (slt x y))
  |.leq=>k (.bool (slt x y||(x==y)))
  |.gtr=>k (.bool (!(slt x y||(x==y))))
  |.geq=>k (.bool (!(slt x y)))
  |_=>none
 |.bool x,.bool y=>
  match op with
  |.eql=>k (.bool (x==y))
  |.neq=>k (.bool (!(x==y)))
  |_=>none
 |.agg x,.agg y=>
  match op with
  |.eql=>bif ts.isEmpty then none else match gS ts x y with
   |some r=>k (.bool r)
   |none=>none
  |.neq=>bif ts.isEmpty then none else match gS ts x y with
   |some r=>k (.bool (!r))
   |none=>none
  |_=>none
 |.j5,.j5=>match op with|.eql=>k (.bool true)|.neq=>k (.bool false)|_=>none
 |.ptr _ _,.j5=>match op with|.eql=>k (.bool false)|.neq=>k (.bool true)|_=>none
 |.row _ _ _,.j5=>match op with|.eql=>k (.bool false)|.neq=>k (.bool true)|_=>none
 |.pel _ _ _ _,.j5=>match op with|.eql=>k (.bool false)|.neq=>k (.bool true)|_=>none
 |.lN,.lN=>match op with|.eql=>k (.bool true)|.neq=>k (.bool false)|_=>none
 |.err,.lN=>match op with|.eql=>k (.bool false)|.neq=>k (.bool true)|_=>none
 |.au _ xs,.cL=>match op with|.eql=>aU (lU 0 xs.length) (k (.bool false))|.neq=>aU (lU 0 xs.length) (k (.bool true))|_=>none
 |_,_=>none
def lenOf(h:bI U El):AV U El->Option Nat
 |.str s=>some s.length
 |.cL=>some 0
 |.au _ xs=>some xs.length
 |.cf id=>match aN h id with
  |some (.rows _ xs)=>some xs.length
  |_=>none
 |.own _ _ len=>some len
 |.mp id=>match aN h id with
  |some (.map _ _ es)=>some es.length
  |_=>none
 |_=>none
def cellsOf:AV U El->Option (ah (AV U El))
 |.agg cs=>some cs
 |.any=>none
 |.bP _=>none
 |a=>some [a]
def tP(E:fZ U El)(u:U)(t:eH U El):Nat->ah (Nat×Operand)->Option (ah (El u))
 |_,[]=>some []
 |n,(i,o)::ps=>bif Nat.beq i n then
  match cellsOf (bm t o)with
  |some cs=>match E.dec u cs with
   |some x=>match tP E u t (n+1) ps with
    |some xs=>some (x::xs)
    |none=>none
   |none=>none
  |none=>none
  else none
def Ni(z:Int):Bool:=bg 0 z&&bz z 256
def jG(z:Int):UInt8:=UInt8.ofNat z.toNat
def rD(t:eH U El):Nat->ah (Nat×Operand)->Option (ah Int)
 |_,[]=>some []
 |n,(i,o)::ps=>bif Nat.beq i n then
  match bm t o with
  |.int .u8 z=>match rD t (n+1) ps with
   |some zs=>some (z::zs)
   |none=>none
  |_=>none
  else none
def w8(t:eH U El):Nat->ah (Nat×Operand)->Option (ah (AV U El))
 |_,[]=>some []
 |n,(i,x)::ps=>bif Nat.beq i n then
  (match cellsOf (bm t x)with
   |some [c]=>match w8 t (n+1) ps with
    |some cs=>some (c::cs)
    |none=>none
   |_=>none)else none
def kG(t:eH U El)(Z:ah (AV U El)):Nat->Nat->ah (Nat×Nat×Bool)->ah (Nat×Operand)->Option (ah (AV U El))
 |_,_,[],[]=>some []
 |n,acc,(off,sz,_)::fs,[]=>bif Nat.beq off acc&&Nat.ble (acc+sz) Z.length then
  match kG t Z (n+1) (acc+sz) fs []with
  |some r=>some ((Z.drop acc).take sz++r)
  |none=>none
  else none
 |n,acc,(off,sz,_)::fs,(i,o)::ps=>bif Nat.beq i n then
  bif Nat.beq off acc then
  match cellsOf (bm t o)with
  |some cs=>bif Nat.beq cs.length sz then
   match kG t Z (n+1) (acc+sz) fs ps with
   |some r=>some (cs++r)
   |none=>none
   else none
  |none=>none
  else none
  else bif Nat.beq off acc&&Nat.ble (acc+sz) Z.length then
   match kG t Z (n+1) (acc+sz) fs ((i,o)::ps)with
   |some r=>some ((Z.drop acc).take sz++r)
   |none=>none
  else none
 |_,_,[],_::_=>none
def zG(t:eH U El)(fs:ah (Nat×Nat×Bool)):ah (AV U El)->ah (Nat×Operand)->Option (ah (AV U El))
 |cs,[]=>some cs
 |cs,(i,o)::ps=>match fs[i]? with
  |some (off,sz,_)=>match cellsOf (bm t o)with
   |some ns=>bif Nat.beq ns.length sz&&Nat.ble (off+sz) cs.length then zG t fs (cs.take off++(ns++cs.drop (off+sz))) ps else none
   |none=>none
  |none=>none
def Gg(t:eH U El)(Z:ah (AV U El))(fs:ah (Nat×Nat×Bool))(ps:ah (Nat×Operand)):Option (ah (AV U El)):=
 match kG t Z 0 0 fs ps with
 |some cs=>some cs
 |none=>zG t fs Z ps
def zeroCells(zs:ah (TypeId×Value))(ty:TypeId):ah (AV U El):=
 match xN zs ty with
 |some z=>jL.kP z.cells.toList
 |none=>[]
def Hu(d:Nat):AV U El->AV U El
 |.cf id=>.cf (d*1000+id)
 |a=>a
def rename(d:Nat):AV U El->AV U El
 |.cf id=>.cf (d*1000+id)
 |.agg cs=>.agg (cs.map (Hu d))
 |a=>a
def tH(d:Nat):AV U El->AV U El
 |.bP cs=>.bP (cs.map (rename d))
 |a=>rename d a
def pY(d:Nat):bI U El->bI U El
 |[]=>[]
 |(id,b)::h=>(d*1000+id,b)::pY d h
def sub{α:Type}(s:ah α)(l h:Int):ah α:=(s.drop l.toNat).take (h.toNat-l.toNat)
def AV.plain:AV U El->Bool
 |.agg cs=>cs.all AV.cell
 |.pel _ _ _ _=>true
 |.fn _ a b=>a.isEmpty&&b.isEmpty
 |a=>a.cell
def AV.re:AV U El->Bool
 |.au _ _=>false
 |.pel _ _ _ _=>false
 |.sr _ _ _=>false
 |a=>a.cell
def AV.Ht(ok:AV U El->Bool):AV U El->Bool
 |.cf id=>Nat.blt id 4
 |.agg cs=>cs.all λc=>ok c||(match c with|.cf id=>Nat.blt id 4|_=>false)
 |.fn _ [] [.pcs cs _]=>cs.all ok&& !(cs.all AV.re)
 |a=>ok a
def AV.FO(ok:AV U El->Bool):AV U El->Bool
 |.bP cs=>cs.all (AV.Ht ok)
 |a=>a.Ht ok
def sD:bI U El->Bool
 |[]=>true
 |(_,.rows _ _)::h=>sD h
 |(_,.box _ _)::_=>false
 |(_,.uk _ _)::_=>false
 |(_,.map _ _ _)::_=>false
 |(_,.jC _ _ _)::_=>false
 |(_,.pZ _ _ _)::_=>false
def uz(E:fZ U El):bI U El->Bool
 |[]=>true
 |(_,.rows u _)::h=>E.fl u&&uz E h
 |(_,.box _ _)::_=>false
 |(_,.uk _ _)::_=>false
 |(_,.map _ _ _)::_=>false
 |(_,.jC _ _ _)::_=>false
 |(_,.pZ _ _ _)::_=>false
def tu(X:Ctx U El)(ty:TypeId)(yo:Operand)(y:AV U El):Bool:=
 match y with
 |.j5=>match dS X.iH ty with|some .ptr=>true|_=>false
 |.lN=>match dS X.iH ty with|some .iface=>Region.isConst yo|_=>false
 |.bool _=>match dS X.iH ty with|some .bool=>true|_=>false
 |.cL=>match dS X.iH ty with|some (.slice _)=>true|_=>false
 |_=>true
def xm{R:Type}(i:Int):Nat->Nat->(Nat->Option R)->Option R
 |_,0,_=>none
 |j,m+1,k=>ai (i==Int.ofNat j) (k j) (xm i (j+1) m k)
def Gh{R:Type}(n:Nat)(i:Int)(k:Nat->Option R):Option R:=bif Nat.ble n 8 then xm i 0 n k else aU (dV i n) (k i.toNat)
def evalOp(X:Ctx U El)(o:Oper)(t:eH U El)(h:bI U El)(d:Nat)(k:Out U El->Option (Fin U El)):Option (Fin U El):=
 match o.op with
 |.move x=>k ⟨bm t x,[]⟩
 |.assign x=>k ⟨bm t x,[]⟩
 |.pick c a b=>match bm t c with
  |.bool true=>k ⟨bm t a,[]⟩
  |.bool false=>k ⟨bm t b,[]⟩
  |_=>none
 |.box _ x=>match cellsOf (bm t x)with
  |some cs=>k ⟨.ptr d 0,[(d,.box 0 cs)]⟩
  |none=>none
 |.alloc ty=>match dS X.iH ty with
  |some (.uk u)=>aU (Nat.blt 0 d) (k ⟨.ptr d 0,[(d,.uk ty (d*1000)),(d*1000,.rows u [])]⟩)
  |_=>match xN X.zeros ty with
   |some z=>match cellsOf (jL z)with
    |some cs=>k ⟨.ptr d 0,[(d,.box 0 cs)]⟩
    |none=>none
   |none=>none
 |.binOp op ty x y _=>aU (tu X ty y (bm t y))<|xt op (uh X.eqs ty) (bm t x) (bm t y) λv=>k ⟨v,[]⟩
 |.unOp op _ x=>match op,bm t x with
  |.not,.bool b=>k ⟨.bool (!b),[]⟩
  |.neg,.int kd n=>k ⟨.int kd (kd.wrap (0-n)),[]⟩
  |_,_=>none
 |.nilCheck x=>match bm t x with
  |.ptr id off=>k ⟨.ptr id off,[]⟩
  |.row id i off=>k ⟨.row id i off,[]⟩
  |.pel u xs i off=>k ⟨.pel u xs i off,[]⟩
  |.pcs cs off=>k ⟨.pcs cs off,[]⟩
  |_=>none
 |.load ty p=>match dS X.iH ty with
  |some td=>match xy td with
   |some (sz,ag)=>view X h (bm t p) λcs off=>partOf cs off sz ag λv=>k ⟨v,[]⟩
   |none=>none
  |none=>none
 |.fieldAddr s p f=>match dS X.iH s with
  |some (.struct fs _)=>match fs[f]? with
   |some (off,_,_)=>match bm t p with
    |.ptr id o=>k ⟨.ptr id (o+off),[]⟩
    |.row id i o=>k ⟨.row id i (o+off),[]⟩
    |.pel u xs i o=>k ⟨.pel u xs i (o+off),[]⟩
    |.pcs cs o=>k ⟨.pcs cs (o+off),[]⟩
    |_=>none
   |none=>none
  |_=>none
 |.field s x f=>match dS X.iH s with
  |some (.struct fs _)=>match fs[f]? with
   |some (off,sz,ag)=>match bm t x with
    |.agg cs=>partOf cs off sz ag λv=>k ⟨v,[]⟩
    |_=>none
   |none=>none
  |_=>none
 |.indexAddr ty x ix=>match dS X.iH ty,bm t ix with
  |some (.slice u),.int _ i=>match bm t x with
   |.au u' xs=>aU (decide (u'=u)) (aU (dV i xs.length) (k ⟨.pel u' xs i.toNat 0,[]⟩))
   |.cf id=>match aN h id with
    |some (.rows u' xs)=>aU (decide (u'=u)) (aU (dV i xs.length) (k ⟨.row id i.toNat 0,[]⟩))
    |some (.pZ _ u' xs)=>aU (decide (u'=u)) (aU (dV i xs.length) (k ⟨.row id i.toNat 0,[]⟩))
    |_=>none
   |.own id lo len=>match aN h id with
    |some (.rows u' xs)=>aU (decide (u'=u)) (aU (dV i len) (k ⟨.row id (lo+i.toNat) 0,[]⟩))
    |some (.box _ _)=>aU (Nat.beq lo 0) (Gh len i λq=>k ⟨.ptr id (q*X.E.sz u),[]⟩)
    |_=>none
   |_=>none
  |some (.arr n es _ _),.int _ i=>match bm t x with
   |.ptr id off=>Gh n i λq=>k ⟨.ptr id (off+q*es),[]⟩
   |.row id j off=>Gh n i λq=>k ⟨.row id j (off+q*es),[]⟩
   |.pel u xs j off=>Gh n i λq=>k ⟨.pel u xs j (off+q*es),[]⟩
   |.pcs cs off=>Gh n i λq=>k ⟨.pcs cs (off+q*es),[]⟩
   |_=>none
  |_,_=>none
 |.index ty x ix=>match dS X.iH ty,bm t ix with
  |some (.str),.int _ i=>match bm t x with
   |.str s=>aU (dV i s.length) (k ⟨.int .u8 (s.getD i.toNat 0).toNat,[]⟩)
   |_=>none
  |some (.arr n es ea _),.int _ i=>match bm t x with
   |.agg cs=>Gh n i λq=>partOf cs (q*es) es ea λv=>k ⟨v,[]⟩
   |_=>none
  |_,_=>none
 |.slice ty x lo hi none=>match dS X.iH ty,bm t x with
  |some (.str),.str s=>match(match lo with|some o=>bm t o|none=>.int .i64 0),(match hi with|some o=>bm t o|none=>.int .i64 s.length)with
   |.int _ l,.int _ g=>aU (bg 0 l&&bg l g&&bg g s.length) (k ⟨.str (sub s l g),[]⟩)
   |_,_=>none
  |some (.slice u),.au u' xs=>match(match lo with|some o=>bm t o|none=>.int .i64 0),(match hi with|some o=>bm t o|none=>.int .i64 xs.length)with
   |.int _ l,.int _ g=>aU (decide (u'=u)) (aU (bg 0 l&&bg l g&&bg g xs.length) (k ⟨.au u' (sub xs l g),[]⟩))
   |_,_=>none
  |some (.slice u),.cf id=>match aN h id with
   |some (.rows u' xs)=>match(match lo with|some o=>bm t o|none=>.int .i64 0),(match hi with|some o=>bm t o|none=>.int .i64 xs.length)with
    |.int _ l,.int _ g=>aU (decide (u'=u)) (aU (bg 0 l&&bg l g&&bg g xs.length) (k ⟨.own id l.toNat (g.toNat-l.toNat),[]⟩))
    |_,_=>none
   |_=>none
  |some (.slice u),.own id Tk len=>match aN h id with
   |some (.rows u' _)=>match(match lo with|some o=>bm t o|none=>.int .i64 0),(match hi with|some o=>bm t o|none=>.int .i64 len)with
    |.int _ l,.int _ g=>aU (decide (u'=u)) (aU (bg 0 l&&bg l g&&bg g len) (k ⟨.own id (Tk+l.toNat) (g.toNat-l.toNat),[]⟩))
    |_,_=>none
   |_=>none
  |some (.slice _),.cL=>match(match lo with|some o=>bm t o|none=>.int .i64 0),(match hi with|some o=>bm t o|none=>.int .i64 0)with
   |.int _ l,.int _ g=>aU (bg 0 l&&bg l g&&bg g 0) (k ⟨.cL,[]⟩)
   |_,_=>none
  |_,_=>none
 |.extract x i=>match bm t x with
  |.bP cs=>match cs[i]? with
   |some v=>k ⟨v,[]⟩
   |none=>none
  |_=>none
 |.makeFunc (.func f) a b=>k ⟨.fn f (a.toList.map (bm t)) (b.toList.map (bm t)),[]⟩
 |.build ty ps=>match dS X.iH ty with
  |some (.struct fs sz)=>match Gg t (zeroCells X.zeros ty) fs ps.toList with
   |some cs=>aU (Nat.beq cs.length sz) (k ⟨.agg cs,[]⟩)
   |none=>none
  |some (.arr n es ea sz)=>match kG t (zeroCells X.zeros ty) 0 0 ((List.range n).map λi=>(i*es,es,ea)) ps.toList with
   |some cs=>aU (Nat.beq cs.length sz) (k ⟨.agg cs,[]⟩)
   |none=>none
  |_=>none
 |.buildSlice ty n ps=>match dS X.iH ty with
  |some (.slice u)=>bif Nat.blt 0 (X.E.xn ty)then
   aU (Nat.beq n ps.size&&(Nat.beq n (X.E.xn ty)&&(Nat.ble n 1000&&Nat.beq (X.E.sz u) 1))) (match w8 t 0 ps.toList with
    |some cs=>k ⟨.own d 0 n,[(d,.box 0 cs)]⟩
    |none=>none)
   else aU (Nat.beq n ps.size) (aU (Nat.ble (n*X.E.sz u) 16777216) (bif X.E.Av u then(match rD t 0 ps.toList with
   |some zs=>aU (zs.all Ni) (k ⟨.cf d,[(d,.rows u (X.E.Pc u (zs.map jG)))]⟩)
   |none=>none)else(match tP X.E u t 0 ps.toList with
   |some xs=>k ⟨.cf d,[(d,.rows u xs)]⟩
   |none=>none)))
  |_=>none
 |.makeSlice ty n c=>match dS X.iH ty,bm t n,bm t c with
  |some (.slice u),.int _ ln,.int _ cp=>bif Nat.blt 0 (X.E.xn ty)then
   aU (ln==Int.ofNat (X.E.xn ty)&&cp==Int.ofNat (X.E.xn ty)&&Nat.ble (X.E.xn ty*X.E.AR u) 140737488355328&&Nat.beq (X.E.sz u) 1) (match xN X.zeros (X.E.tid u)with
    |some z=>match cellsOf (jL z)with
     |some [c]=>k ⟨.own d 0 (X.E.xn ty),[(d,.box 0 (List.replicate (X.E.xn ty) c))]⟩
     |_=>none
    |none=>none)
   else aU (bg 0 ln&&bg ln cp&&bg (cp*X.E.AR u) 140737488355328) (k ⟨.cf d,[(d,.rows u (List.replicate ln.toNat (X.E.iL u)))]⟩)
  |_,_,_=>none
 |.makeMap ty none=>match dS X.iH ty with
  |some (.map u v)=>k ⟨.mp d,[(d,.map u v [])]⟩
  |_=>none
 |.lookup ty m ix ok=>match dS X.iH ty,bm t m with
  |some (.map u v),.mp id=>match aN h id with
   |some (.map u' v' es)=>aU (decide (u'=u)&&(decide (v'=v)&&(X.E.N3 u'&&X.E.PJ v'))) (match ya X.E u' (bm t ix)with
    |some x=>k ⟨bif ok then .bP [wc X.E v' (gL (X.E.nu u') es x (X.E.iL v')),.bool (qK (X.E.nu u') es x)]else wc X.E v' (gL (X.E.nu u') es x (X.E.iL v')),[]⟩
    |none=>none)
   |_=>none
  |some (.map u v),.sr u' v' es=>aU (decide (u'=u)&&(decide (v'=v)&&(X.E.N3 u'&&X.E.PJ v'))) (match ya X.E u' (bm t ix)with
   |some x=>k ⟨bif ok then .bP [wc X.E v' (gL (X.E.nu u') es x (X.E.iL v')),.bool (qK (X.E.nu u') es x)]else wc X.E v' (gL (X.E.nu u') es x (X.E.iL v')),[]⟩
   |none=>none)
  |_,_=>none
 |.convert s ty x=>match dS X.iH s,dS X.iH ty,bm t x with
  |some _,some .str,.str b=>k ⟨.str b,[]⟩
  |some _,some (.int kd),.int _ n=>k ⟨.int kd (kd.wrap n),[]⟩
  |some .str,some (.slice u),.str b=>aU (X.E.Av u) (k ⟨.au u (X.E.Pc u b),[]⟩)
  |some (.slice u),some .str,.au u' xs=>aU (decide (u'=u)&&X.E.Av u') (k ⟨.str (X.E.PK u' xs),[]⟩)
  |some (.slice u),some .str,.cL=>aU (X.E.Av u) (k ⟨.str [],[]⟩)
  |_,_,_=>none
 |.call ⟨.builtin .len,aaa,ts⟩=>match aaa.toList,ts.toList with
  |[x],ty::_=>match lenOf h (bm t x)with
   |some n=>aU (match dS X.iH ty,bm t x with
    |some .str,.str _=>true
    |some (.slice _),.str _=>false
    |some (.slice _),.mp _=>false
    |some (.slice _),_=>true
    |some (.map _ _),.mp _=>true
    |_,_=>false) (k ⟨.int .i64 n,[]⟩)
   |none=>none
  |_,_=>none
 |.call ⟨.builtin .max,aaa,_⟩=>match aaa.toList with
  |[x,y]=>match bm t x,bm t y with
   |.int ka a,.int kb b=>k ⟨.int ka (bif bz a b then b else a),[]⟩
   |_,_=>none
  |_=>none
 |.call ⟨.builtin .min,aaa,_⟩=>match aaa.toList with
  |[x,y]=>match bm t x,bm t y with
   |.int ka a,.int kb b=>k ⟨.int ka (bif bz b a then b else a),[]⟩
   |_,_=>none
  |_=>none
 |.call ⟨.value f,aaa,ts⟩=>match bm t f with
  |.fn g first mO=>match toArgs X h (first++aaa.toList.map (bm t)++mO) (first.map (λ_=>0)++ts.toList)with
   |some vs=>X.spec g vs λr ex=>aU (r.FO AV.cell&&sD ex&&((r.FO AV.re&&uz X.E ex)||(first++aaa.toList.map (bm t)++mO).all AV.plain)) (k ⟨tH d r,pY d ex⟩)
   |none=>none
  |_=>none
 |_=>none
def St.put(st:St U El)(d:Option Nat)(o:Out U El):St U El:=⟨match d with|some d=>(d,o.v)::st.t|none=>st.t,o.new++st.h⟩
def jM(d:Nat):ah Nat:=[d*1000+0,d*1000+1,d*1000+2,d*1000+3]
def dP(o:Oper)(d:Nat):ah Nat:=
 match o.op with
 |.box _ _=>[d]
 |.alloc _=>[d,d*1000]
 |.buildSlice _ _ _=>[d]
 |.makeSlice _ _ _=>[d]
 |.makeMap _ _=>[d]
 |.call ⟨.value _,_,_⟩=>jM d
 |.call ⟨.builtin .append,_,_⟩=>[d]
 |_=>[]
def rowsOf(h:bI U El)(u:U):AV U El->Option (ah (El u))
 |.cL=>some []
 |.au u' xs=>if e:u'=u then some (e▸xs)else none
 |.cf id=>match aN h id with
  |some (.rows u' xs)=>if e:u'=u then some (e▸xs)else none
  |_=>none
 |.own id lo len=>match aN h id with
  |some (.rows u' xs)=>if e:u'=u then some (e▸((xs.drop lo).take len))else none
  |_=>none
 |_=>none
def Af:AV U El->Bool
 |.own _ lo len=>Nat.beq lo 0&&lU 0 len
 |_=>true
def sC(h:bI U El)(u:U):AV U El->Option (ah (El u)×Option Nat)
 |.cL=>some ([],none)
 |.cf id=>match aN h id with
  |some (.rows u' xs)=>if e:u'=u then some (e▸xs,some id)else none
  |_=>none
 |.own id _ len=>match aN h id with
  |some (.rows u' xs)=>if e:u'=u then some (List.take len (e▸xs),some id)else none
  |_=>none
 |_=>none
def sE(X:Ctx U El)(ty rk:TypeId)(h:bI U El)(u:U)(x:AV U El):Option (ah (El u)):=
 bif Nat.beq ty rk then rowsOf h u x else match dS X.iH rk,x with
  |some .str,.str s=>bif X.E.Av u then some (X.E.Pc u s)else none
  |_,_=>none
def MC(ty rk:TypeId)(n m:Nat):Bool:=Nat.beq ty rk||(lU 0 n&&bU (n+m) 140737488355328)
def Az(X:Ctx U El)(d:Nat)(ty rk:TypeId)(s x:AV U El)(st:St U El)(k:St U El->Option (Fin U El)):Option (Fin U El):=
 match dS X.iH ty with
 |some (.slice u)=>match sC st.h u s,sE X ty rk st.h u x with
  |some (xs,id),some ys=>
   aU ((Af s&&MC ty rk xs.length ys.length)&&(bU ((xs.length+ys.length)*X.E.AR u) 140737488355328&&bU (xs.length+ys.length) 9223372036854775807))
    (let aA:=(match id with|some id=>st.forget id|none=>st).forget d
     k ⟨(d,.cf d)::aA.t,(d,.rows u (xs++ys))::aA.h⟩)
  |_,_=>none
 |_=>none
def iW:bI U El->Nat->qm U El->bI U El
 |[],_,_=>[]
 |(j,b)::h,id,c=>bif Nat.beq j id then(j,c)::h else(j,b)::iW h id c
def lM(X:Ctx U El)(ty:TypeId)(p v:AV U El)(st:St U El)(k:St U El->Option (Fin U El)):Option (Fin U El):=
 match dS X.iH ty with
 |some td=>match xy td,cellsOf v with
  |some (sz,_),some ns=>aU (Nat.beq ns.length sz&&Nat.blt 0 sz&&ns.all AV.one) (match p with
   |.ptr id off=>match aN st.h id with
    |some (.box tg cs)=>aU (Nat.ble (off+sz) cs.length) (k ⟨st.t,iW st.h id (.box tg (cs.take off++ns++cs.drop (off+sz)))⟩)
    |_=>none
   |.row id i off=>match aN st.h id with
    |some (.rows u xs)=>aU (lU i xs.length&&Nat.ble (off+sz) (X.E.sz u)) (match X.E.dec u ((X.E.enc u (xs.getD i (X.E.iL u))).take off++ns++(X.E.enc u (xs.getD i (X.E.iL u))).drop (off+sz))with
     |some y=>k ⟨st.t,iW st.h id (.rows u (xs.set i y))⟩
     |none=>none)
    |some (.pZ t u xs)=>aU (lU i xs.length&&Nat.ble (off+sz) (X.E.sz u)) (match X.E.dec u ((X.E.enc u (xs.getD i (X.E.iL u))).take off++ns++(X.E.enc u (xs.getD i (X.E.iL u))).drop (off+sz))with
     |some y=>k ⟨st.t,iW st.h id (.pZ t u (xs.set i y))⟩
     |none=>none)
    |_=>none
   |_=>none)
  |_,_=>none
 |none=>none
def CY(X:Ctx U El)(ty:TypeId)(s:AV U El)(st:St U El)(k:St U El->Option (Fin U El)):Option (Fin U El):=
 match dS X.iH ty,s with
 |some (.slice u),.own id lo len=>match aN st.h id with
  |some (.rows v xs)=>aU (decide (v=u)&&(lU 0 len&&bU (lo+len) xs.length)) (k ⟨st.t,iW st.h id (.rows v (List.take lo xs++(List.replicate len (X.E.iL v)++List.drop (lo+len) xs)))⟩)
  |_=>none
 |_,_=>none
def GQ(X:Ctx U El)(dst:Option Nat)(ty:TypeId)(s x:AV U El)(st:St U El)(k:St U El->Option (Fin U El)):Option (Fin U El):=
 match dS X.iH ty,s with
 |some (.slice u),.own id lo len=>match aN st.h id with
  |some (.rows v xs)=>match rowsOf st.h v x with
   |some ys=>aU (decide (v=u)&&bU (lo+len) xs.length) (k ((⟨st.t,iW st.h id (.rows v (List.take lo xs++(List.take (Nat.min ys.length len) ys++List.drop (lo+Nat.min ys.length len) xs)))⟩:St U El).put dst ⟨.int .i64 (Int.ofNat (Nat.min ys.length len)),[]⟩))
   |none=>none
  |_=>none
 |_,_=>none
def px(X:Ctx U El)(ty:TypeId)(m ix x:AV U El)(st:St U El)(k:St U El->Option (Fin U El)):Option (Fin U El):=
 match dS X.iH ty,m with
 |some (.map u v),.mp id=>match aN st.h id with
  |some (.map u' v' es)=>aU (decide (u'=u)&&(decide (v'=v)&&(X.E.N3 u'&&X.E.PJ v'))) (match ya X.E u' ix,ya X.E v' x with
   |some y,some z=>k ⟨st.t,iW st.h id (.map u' v' (qu (X.E.nu u') es y z))⟩
   |_,_=>none)
  |_=>none
 |_,_=>none
def yD(E:fZ U El)(u:U):Nat->ah (AV U El)->Option (ah (El u))
 |0,_=>some []
 |n+1,cs=>match E.dec u (cs.take (E.sz u))with
  |some x=>match yD E u n (cs.drop (E.sz u))with
   |some xs=>some (x::xs)
   |none=>none
  |none=>none
def MB(X:Ctx U El)(d:Nat)(ty:TypeId)(x:AV U El)(st:St U El)(k:St U El->Option (Fin U El)):Option (Fin U El):=
 match dS X.iH ty,X.E.Yl ty,x with
 |some (.arr n es _ _),some u,.ptr id 0=>match aN st.h id with
  |some (.box _ cs)=>aU (Nat.beq (X.E.sz u) es&&(Nat.beq cs.length (n*es)&&(Nat.blt 0 n&&Nat.blt d X.nt))) (match yD X.E u n cs with
   |some xs=>let aA:=st.forget id;k ⟨(d,.au u xs)::aA.t,aA.h⟩
   |none=>none)
  |_=>none
 |_,_,_=>none
def wN(X:Ctx U El)(o:Oper)(st:St U El)(k:St U El->Option (Fin U El)):Option (Fin U El):=
 let d:=o.dst.getD 999
 let bA:=st.fD (dP o d)
 aU (match o.dst with|some d=>Nat.blt d X.nt|none=>true) (evalOp X o bA.t bA.h d λout=>k (bA.put o.dst out))
def Cv(h:bI U El):AV U El->Option Nat
 |.au _ xs=>some xs.length
 |.cf id=>match aN h id with
  |some (.rows _ xs)=>some xs.length
  |_=>none
 |_=>none
noncomputable def vQ (n:Nat) (eq:Bool) (k:Bool->Option (Fin U El)):Option (Fin U El):=ai (lU 0 n) (k (!eq)) (J2 (k true) (k false))
noncomputable def qp (X:Ctx U El) (o:Oper) (st:St U El) (k:St U El->Option (Fin U El)):Option (Fin U El):=
 match o.op with
 |.store ty p v=>match o.dst with
  |none=>lM X ty (bm st.t p) (bm st.t v) st k
  |some _=>none
 |.binOp op ty x y _=>match op,bm st.t y,Cv st.h (bm st.t x),o.dst with
  |.eql,.cL,some n,some d=>aU (tu X ty y (.cL:AV U El)&&Nat.blt d X.nt) (vQ n true λb=>k ⟨(d,.bool b)::st.t,st.h⟩)
  |.neq,.cL,some n,some d=>aU (tu X ty y (.cL:AV U El)&&Nat.blt d X.nt) (vQ n false λb=>k ⟨(d,.bool b)::st.t,st.h⟩)
  |_,_,_,_=>wN X o st k
 |.slice ty x none none none=>match dS X.iH ty,o.dst with
  |some (.arr _ _ _ _),some d=>MB X d ty (bm st.t x) st k
  |_,_=>wN X o st k
 |.mapUpdate ty m i v=>match o.dst with
  |none=>px X ty (bm st.t m) (bm st.t i) (bm st.t v) st k
  |some _=>none
 |.insert ty m i v=>match o.dst with
  |none=>px X ty (bm st.t m) (bm st.t i) (bm st.t v) st k
  |some _=>none
 |.call ⟨.builtin .append,aaa,ts⟩=>match aaa.toList,ts.toList,o.dst with
  |[s,x],[ty,rk],some d=>aU (Nat.blt d X.nt) (Az X d ty rk (bm st.t s) (bm st.t x) st k)
  |_,_,_=>none
 |.call ⟨.builtin .clear,aaa,ts⟩=>match aaa.toList,ts.toList,o.dst with
  |[s],[ty],none=>CY X ty (bm st.t s) st k
  |_,_,_=>none
 |.call ⟨.builtin .copy,aaa,ts⟩=>match aaa.toList,ts.toList with
  |[s,x],[ty,rk]=>aU (match o.dst with|some d=>Nat.blt d X.nt|none=>true) (GQ X o.dst ty (bm st.t s) (bm st.t x) st k)
  |_,_=>none
 |.call ⟨.value f,aaa,_⟩=>match bm st.t f with
  |.fn g first mO=>match X.mspec g with
   |some sp=>aU (match o.dst with|some d=>Nat.blt d X.nt|none=>true) (sp (o.dst.getD 999) (first++aaa.toList.map (bm st.t)++mO) st λv bx=>k ⟨match o.dst with|some d=>(d,v)::bx.t|none=>bx.t,bx.h⟩)
   |none=>wN X o st k
  |_=>none
 |_=>wN X o st k
def branch(t:eH U El)(g:Nat)(k:eH U El->Bool->Option (Fin U El)):Option (Fin U El):=
 match cC t g with
 |.bool b=>ai b (k ((g,.bool true)::t) true) (k ((g,.bool false)::t) false)
 |_=>none
def tT(t:eH U El)(g:Nat)(want:Bool)(k:eH U El->Bool->Option (Fin U El)):Option (Fin U El):=
 match cC t g with
 |.bool b=>ai b (k ((g,.bool true)::t) true) (k ((g,.bool false)::t) false)
 |.bP []=>k t (!want)
 |_=>none
def guardOf(oa:ah (Option Nat))(o:Oper):Option (Option Nat×Bool):=
 match o.guard with
 |none=>none
 |some (j,want)=>some (match oa[j]? with|some d=>d|none=>none,want)
def jQ(o:Oper)(t:eH U El)(k:eH U El->Option (Fin U El)):Option (Fin U El):=
 match o.op with
 |.pick (.tmp c) _ _=>branch t c λt' _=>k t'
 |_=>k t
def vF(st:St U El)(s:Nat)(u:U)(k:St U El->Option (Fin U El)):Option (Fin U El):=
 match cC st.t s with
 |.au _ _=>k st
 |.cL=>k ⟨(s,.au u [])::st.t,st.h⟩
 |.cf id=>match aN st.h id with
  |some (.rows v xs)=>let aA:=st.forget id;k ⟨(s,.au v xs)::aA.t,aA.h⟩
  |_=>none
 |.own id lo len=>match aN st.h id with
  |some (.rows v xs)=>aU (bU (lo+len) xs.length) (k ⟨(s,.au v ((xs.drop lo).take len))::(st.forget id).t,(st.forget id).h⟩)
  |_=>none
 |.sr _ _ _=>k st
 |.oz=>k st
 |.mp id=>match aN st.h id with
  |some (.map u v es)=>k ⟨(s,.sr u v es)::(st.forget id).t,(st.forget id).h⟩
  |_=>none
 |_=>none
def tF(st:St U El)(s off:Nat)(u:U)(k:St U El->Option (Fin U El)):Option (Fin U El):=
 match cC st.t s with
 |.agg cs=>match cs[off]? with
  |some (.au _ _)=>k st
  |some .cL=>k ⟨(s,.agg (cs.set off (.au u [])))::st.t,st.h⟩
  |some (.cf id)=>match aN st.h id with
   |some (.rows v xs)=>k ⟨(s,.agg ((cs.map (AV.kill id)).set off (.au v xs)))::(st.forget id).t,(st.forget id).h⟩
   |_=>k st
  |_=>k st
 |_=>k st
def nR(st:St U El)(s:Nat):ah Nat->(St U El->Option (Fin U El))->Option (Fin U El)
 |[],k=>k st
 |off::l,k=>match cC st.t s with
  |.agg cs=>match cs[off]? with
   |some (.cf id)=>match aN st.h id with
    |some (.rows v _)=>tF st s off v λbx=>nR bx s l k
    |_=>nR st s l k
   |_=>nR st s l k
  |_=>nR st s l k
def nQ(st:St U El)(s:Nat)(k:St U El->Option (Fin U El)):Option (Fin U El):=
 match cC st.t s with
 |.cf id=>match aN st.h id with
  |some (.rows v _)=>vF st s v k
  |_=>k st
 |.agg cs=>nR st s (List.range cs.length) k
 |_=>k st
def rq(st:St U El):ah (Nat×Operand)->(St U El->Option (Fin U El))->Option (Fin U El)
 |[],k=>k st
 |(_,.tmp s)::l,k=>nQ st s λbx=>rq bx l k
 |_::l,k=>rq st l k
def ox(o:Oper)(st:St U El)(k:St U El->Option (Fin U El)):Option (Fin U El):=
 match o.op with
 |.store _ p (.tmp s)=>match bm st.t p with
  |.row _ _ _=>nQ st s k
  |_=>k st
 |.buildSlice _ _ ps=>rq st ps.toList k
 |.mapUpdate _ _ _ (.tmp s)=>nQ st s k
 |.insert _ _ _ (.tmp s)=>nQ st s k
 |_=>k st
noncomputable def ju (X:Ctx U El) (oa:ah (Option Nat)):ah Oper->St U El->(St U El->Option (Fin U El))->Option (Fin U El)
 |[],st,k=>k st
 |o::os,st,k=>
  match guardOf oa o with
  |none=>jQ o st.t λt=>ox o ⟨t,st.h⟩ λaA=>qp X o aA λbx=>ju X oa os bx k
  |some (some g,want)=>tT st.t g want λt b=>
   bif Bool.xor b want then ju X oa os ⟨match o.dst with|some d=>(d,.bP [])::t|none=>t,st.h⟩ k
   else jQ o t λt'=>ox o ⟨t',st.h⟩ λaA=>qp X o aA λbx=>ju X oa os bx k
  |some (none,_)=>none
noncomputable def Rr {R:Type}:ah (Option R)->Option R
 |[]=>none
 |[x]=>x
 |x::y::l=>J2 x (Rr (y::l))
theorem JU{R:Type}{r:R}:∀(l:ah (Option R)),Rr l=some r->∀x∈l,x=some r:=by
 intro l;induction l with
 |nil=>intro h;cases h
 |cons x l ih=>
  intro h y hy;match l,ih with
  |[],_=>simp only[cz]at hy;rw[hy];exact h
  |z::l,ih=>
   obtain⟨h1,h2⟩:=E' h;rcases bN.1 hy with e|e
   ·rw[e];exact h1
   ·exact ih h2 y e
def Cm(ops:ah Oper)(dn:Nat):ah Nat:=(List.range ops.length).filter λi=> !Nat.testBit dn i&&(match ops[i]? with|some o=>o.after.toList.all λe=> !Region.binds .any e||Nat.testBit dn e.on|none=>false)
noncomputable def xr (X:Ctx U El) (oa:ah (Option Nat)) (ops:ah Oper) (k:St U El->Option (Fin U El)):Nat->Nat->St U El->Option (Fin U El)
 |0,dn,st=>match Cm ops dn with|[]=>k st|_=>none
 |n+1,dn,st=>match Cm ops dn with
  |[]=>k st
  |i::is=>Rr ((i::is).map λi=>match ops[i]? with|some o=>ju X oa [o] st (λbx=>xr X oa ops k n (dn|||2^i) bx)|none=>none)
def G5(MG:ah Nat):ah Edge->Nat->Nat
 |[],m=>m
 |e::es,m=>G5 MG es (bif Region.binds .any e then Nat.lor m (Nat.lor (2^e.on) (MG.getD e.on 0))else m)
def pK(MG:ah Nat)(o:Oper):Nat:=G5 MG o.after.toList 0
def o_:ah Oper->ah Nat->ah Nat
 |[],acc=>acc
 |o::os,acc=>o_ os (acc++[pK acc o])
def qi(ops:ah Oper)(ws:ah (Nat×Nat)):ah (Nat×Nat):=(ops.zipIdx.flatMap λ(o,j)=>(dP o (o.dst.getD 999)).map λid=>(j,id))++ws
def zb(MG:ah Nat)(UJ:ah (Nat×Nat))(i id:Nat):Bool:=UJ.all λ(j,j6)=> !(Nat.beq j6 id)||Nat.beq j i||(bif Nat.blt j i then Nat.testBit (MG.getD i 0) j else Nat.testBit (MG.getD j 0) i)
def iy(p:Nat->Bool):bI U El->bI U El
 |[]=>[]
 |(j,b)::h=>bif p j then(j,b)::iy p h else iy p h
def il(h:bI U El):ah Nat->bI U El
 |[]=>h
 |id::ids=>il (CK h id) ids
def iw(ws:ah (Nat×Nat))(i:Nat):ah Nat:=(ws.filter λp=>Nat.beq p.1 i).map (·.2)
def names(id:Nat):AV U El->Bool
 |.ptr j _=>Nat.beq j id
 |.row j _ _=>Nat.beq j id
 |.mp j=>Nat.beq j id
 |_=>false
def AV.within(ids:ah Nat):AV U El->Bool
 |.agg cs=>pU cs
 |.bP cs=>pU cs
 |.pcs cs _=>pU cs
 |.fn _ a b=>pU a&&pU b
 |.cf j=>ids.elem j
 |.own j _ _=>ids.elem j
 |.ptr j _=>ids.elem j
 |.row j _ _=>ids.elem j
 |.mp j=>ids.elem j
 |_=>true
where
 pU:ah (AV U El)->Bool
  |[]=>true
  |c::cs=>AV.within ids c&&pU cs
def qm.within(ids:ah Nat):qm U El->Bool
 |.box _ cs=>cs.all (AV.within ids)
 |.jC _ _ cs=>cs.all (AV.within ids)
 |.uk _ j=>ids.elem j
 |_=>true
def Jc(l:ah Nat)(i:Nat):ah Nat:=bif l.elem i then l else l++[i]
def AV.HP:AV U El->ah Nat->ah Nat
 |.agg cs,l=>sU cs l
 |.bP cs,l=>sU cs l
 |.pcs cs _,l=>sU cs l
 |.fn _ a b,l=>sU b (sU a l)
 |.cf j,l=>Jc l j
 |.own j _ _,l=>Jc l j
 |.ptr j _,l=>Jc l j
 |.row j _ _,l=>Jc l j
 |.mp j,l=>Jc l j
 |_,l=>l
where
 sU:ah (AV U El)->ah Nat->ah Nat
  |[],l=>l
  |c::cs,l=>sU cs (AV.HP c l)
def qm.HP:qm U El->ah Nat->ah Nat
 |.box _ cs,l=>AV.HP.sU cs l
 |.jC _ _ cs,l=>AV.HP.sU cs l
 |.uk _ j,l=>Jc l j
 |_,l=>l
def reach(h:bI U El):Nat->Nat->ah Nat->ah Nat
 |0,_,l=>l
 |n+1,i,l=>match l[i]? with
  |some id=>match aN h id with
   |some b=>reach h n (i+1) (b.HP l)
   |none=>reach h n (i+1) l
  |none=>l
def dD:Nat:=1000000000
def oQ:ah Nat->Nat->Nat->Nat
 |[],_,j=>j
 |i::ids,n,j=>bif Nat.beq i j then n else oQ ids (n+1) j
def handed(h:bI U El)(all:ah Nat):ah Nat->Nat->Option (bI U El)
 |[],_=>some []
 |id::ids,n=>match aN h id with
  |some b=>match handed h all ids (n+1)with
   |some hs=>aU (b.within all) (some ((n,b.nG (oQ all dD) n)::hs))
   |none=>none
  |none=>none
def tc:ah (Nat×Nat)->Nat->Option Nat
 |[],_=>none
 |(id,j)::l,x=>bif Nat.beq id x then some j else tc l x
def x_:ah (Nat×Nat)->Nat->Nat
 |[],j=>j
 |(id,j)::l,x=>bif Nat.beq j x then id else x_ l x
def tO(ids:ah Nat)(outs:ah (Nat×Nat))(pins:ah Nat):ah Nat:=(ids++outs.map (·.1)).filter λi=> !pins.elem i
def py(h hc:bI U El)(pins:ah Nat)(all:ah (Nat×Nat)):ah (Nat×Nat)->bI U El
 |[]=>[]
 |(id,j)::l=>match aN hc j with
  |some b=>(id,b.nG (x_ all) (bif pins.elem id then(match aN h id with|some b0=>b0.tag|none=>0)else 0))::py h hc pins all l
  |none=>py h hc pins all l
def Qe(hc:bI U El)(ids:ah Nat)(outs:ah (Nat×Nat))(pins:ah Nat)(v:AV U El):Bool:=
 decide ids.Nodup&&(decide (outs.map (·.1)).Nodup&&(decide (outs.map (·.2)).Nodup&&(v.within (outs.map (·.2))&&(
  (outs.all λp=>match aN hc p.2 with|some b=>b.within (outs.map (·.2))|none=>true)&&
  (pins.all λid=>ids.elem id&&(match tc outs id with|some j=>Nat.beq j (oQ ids dD id)&&(match aN hc j with|some (.box t _)=>Nat.beq t j|some (.pZ t _ _)=>Nat.beq t j|_=>false)|none=>false))))))
def jv(ids:ah Nat):bI U El->ah Nat
 |[]=>[]
 |(j,b)::h=>bif Nat.ble dD j&&(match b with|.box t _=>Nat.beq t j|.pZ t _ _=>Nat.beq t j|_=>false)then ids.getD (j-dD) 0::jv ids h else jv ids h
def p7(ids:ah Nat)(d:Nat)(pins:ah Nat):bI U El->Nat->ah (Nat×Nat)
 |[],_=>[]
 |(j,_)::h,n=>bif Nat.ble dD j&&pins.elem (ids.getD (j-dD) 0)then(ids.getD (j-dD) 0,j)::p7 ids d pins h n else(d*1000+n,j)::p7 ids d pins h (n+1)
def Im(X:Ctx U El)(f:Operand)(aaa:Array Operand)(d:Nat)(wj:ah Nat)(sf:Nat->Bool)(t:eH U El)(h:bI U El)(k:eH U El->bI U El->Option (Fin U El)):Option (Fin U El):=
 match bm t f with
 |.fn g first mO=>match X.wg g with
  |some sp=>
   match handed (iy sf h) (reach (iy sf h) 40 0 (AV.HP.sU (first++aaa.toList.map (bm t)++mO) [])) (reach (iy sf h) 40 0 (AV.HP.sU (first++aaa.toList.map (bm t)++mO) [])) dD with
   |some hs=>sp ((first++aaa.toList.map (bm t)++mO).map (AV.nG (oQ (reach (iy sf h) 40 0 (AV.HP.sU (first++aaa.toList.map (bm t)++mO) [])) dD))) hs λv hc=>
    aU (decide (wj=reach (iy sf h) 40 0 (AV.HP.sU (first++aaa.toList.map (bm t)++mO) []))&&((first++aaa.toList.map (bm t)++mO).all (AV.within wj)&&(Qe hc wj (p7 wj d (jv wj hc) hc 0) (jv wj hc) v&&(p7 wj d (jv wj hc) hc 0).all λp=>(jv wj hc).elem p.1||(jM d).elem p.1)))
     (k ((d,v.nG (x_ (p7 wj d (jv wj hc) hc 0)))::t) (py (iy sf h) hc (jv wj hc) (p7 wj d (jv wj hc) hc 0) (p7 wj d (jv wj hc) hc 0)++il h wj))
   |none=>none
  |none=>none
 |_=>none
def AV.shr(h:bI U El)(wj:ah Nat):AV U El->AV U El
 |.cf id=>bif wj.elem id then(match aN h id with|some (.rows v xs)=>.au v xs|_=>.cf id)else .cf id
 |a=>a
def AV.Nt(h:bI U El)(wj:ah Nat):AV U El->AV U El
 |.agg cs=>.agg (cs.map (AV.shr h wj))
 |a=>a.shr h wj
def Fw(h:bI U El)(wj:ah Nat):eH U El->eH U El
 |[]=>[]
 |(j,v)::t=>(j,v.Nt h wj)::Fw h wj t
def Ci(h:bI U El)(wj:ah Nat):Bool:=wj.all λid=>match aN h id with|some (.rows _ _)=>true|_=>false
def CS(X:Ctx U El)(o:Oper)(sf:Nat->Bool)(wj:ah Nat)(t:eH U El)(h:bI U El)(k:eH U El->bI U El->Option (Fin U El)):Option (Fin U El):=
 match o.op with
 |.store ty p v=>match wj,o.dst with
  |[id],none=>aU (names id (bm t p)) (lM X ty (bm t p) (bm t v) ⟨[],iy sf h⟩ λbx=>match aN bx.h id with
   |some b=>k t ((id,b)::CK h id)
   |none=>none)
  |_,_=>none
 |.mapUpdate ty m i v=>match wj,o.dst with
  |[id],none=>aU (names id (bm t m)) (px X ty (bm t m) (bm t i) (bm t v) ⟨[],iy sf h⟩ λbx=>match aN bx.h id with
   |some b=>k t ((id,b)::CK h id)
   |none=>none)
  |_,_=>none
 |.call ⟨.builtin .append,aaa,ts⟩=>match aaa.toList,ts.toList,o.dst with
  |[s,x],[ty,rk],some d=>match dS X.iH ty with
   |some (.slice u)=>match sC (iy sf h) u (bm t s),sE X ty rk (iy sf h) u (bm t x)with
    |some (xs,RA),some ys=>aU ((Af (bm t s)&&MC ty rk xs.length ys.length)&&(decide (wj=RA.toList)&&bU ((xs.length+ys.length)*X.E.AR u) 140737488355328&&bU (xs.length+ys.length) 9223372036854775807))
     (k ((d,.cf d)::t) ((d,.rows u (xs++ys))::il h wj))
    |_,_=>none
   |_=>none
  |_,_,_=>none
 |_=>match wj,o.dst with
  |[],some d=>evalOp X o t (iy sf h) d λout=>aU (out.new.all λp=>(dP o d).contains p.1) (k ((d,out.v)::t) (out.new++h))
  |_::_,some d=>match o.op with
   |.call ⟨.value f,aaa,_⟩=>Im X f aaa d wj sf t h k
   |.buildSlice _ _ _=>aU (Ci (iy sf h) wj) (evalOp X o (Fw (iy sf h) wj t) (il (iy sf h) wj) d λout=>aU (out.new.all λp=>(dP o d).contains p.1) (k ((d,out.v)::t) (out.new++il h wj)))
   |_=>none
  |_,_=>none
def jK(X:Ctx U El)(oa:ah (Option Nat))(sf:Nat->Nat->Bool)(ws:ah (Nat×Nat)):ah Oper->Nat->eH U El->bI U El->(St U El->Option (Fin U El))->Option (Fin U El)
 |[],_,t,h,k=>k ⟨t,h⟩
 |o::os,j,t,h,k=>
  let go:=λ(t':eH U El)=>CS X o (sf j) (iw ws j) t' h λt2 h2=>jK X oa sf ws os (j+1) t2 h2 k
  match guardOf oa o with
  |none=>jQ o t go
  |some (some g,want)=>tT t g want λt1 b=>
   bif Bool.xor b want then(match o.dst,iw ws j with|some d,[]=>jK X oa sf ws os (j+1) ((d,.bP [])::t1) h k|some d,id::wj=>jK X oa sf ws os (j+1) ((d,.bP [])::t1) (iy (λi=>sf j i&&(id::wj).elem i) h++il h (id::wj)) k|none,_=>none)
   else jQ o t1 go
  |some (none,_)=>none
def Oper.looks(oa:ah (Option Nat))(o:Oper):ah Nat:=
 (o.op.operands.toList.filterMap λ|.tmp t=>some t|_=>none)++
 (match o.guard with
  |some (g,_)=>(match oa[g]? with|some (some d)=>[d]|_=>[])
  |none=>[])
def qz(nt:Nat)(ops:ah Oper)(ws:ah (Nat×Nat)):Bool:=
 let oa:=ops.map (·.dst)
 let MG:=o_ ops []
 let UJ:=qi ops ws
 (ops.zipIdx.all λ(o,j)=>o.after.toList.all λe=> !(Region.binds .any e)||Nat.blt e.on j)&&
 (ops.zipIdx.all λ(o,j)=>match o.dst with|some d=>Nat.blt d nt&&(Nat.blt 0 d||(dP o d).isEmpty)&&Nat.blt d 1000|none=>(match o.op with|.store _ _ _=>true|.mapUpdate _ _ _ _=>true|_=>false))&&
 (ops.zipIdx.all λ(o,j)=>ops.zipIdx.all λ(p,k)=>(Nat.beq j k)||(match p.dst with
  |none=>true
  |some d=>(match o.dst with|some e=> !(Nat.beq d e)|none=>true)&&
   (!((Oper.looks oa o).contains d)||(bif Nat.blt k j then Nat.testBit (MG.getD j 0) k else Nat.testBit (MG.getD k 0) j))))&&
 (ops.all λo=>match o.op with|.select _ _=>false|_=>true)&&
 (UJ.all λ(i,a)=>UJ.all λ(j,b)=> !(Nat.beq a b)|| !(Nat.blt i j)||Nat.testBit (MG.getD j 0) i)&&
 (UJ.all λ(i,_)=>Nat.blt i ops.length)
def kW(ops:ah Oper):ah Nat:=ops.flatMap λo=>dP o (o.dst.getD 999)
def CB(nt:Nat)(ops:ah Oper)(o:Oper):Bool:=
 (match o.guard with|none=>true|some _=>false)&&(match o.dst with|some d=>Nat.blt d nt|none=>true)&&
 (List.range ops.length).all (λi=>Nat.testBit (pK (o_ ops []) o) i)&&(o.after.toList.all λe=> !(Region.binds .any e)||Nat.blt e.on ops.length)&&
 (ops.zipIdx.all λ(p,j)=>match p.guard with|some (g,_)=>Nat.blt g j|none=>true)
structure Norm (U:Type) where
 Pz:List (Nat×U)
 Jg:List Nat
 ids:List Nat
 shares:List (Nat×U)
 cells:List (Nat×Nat×U×Nat)
 KI:List (Nat×Nat×U)
 Mw:List (Nat×Nat×U)
def AV.mv(id s:Nat):AV U El->AV U El
 |.cf i=>bif Nat.beq i id then .cf s else((AV.cf i).kill id).kill s
 |.own i lo n=>bif Nat.beq i id then .own s lo n else((AV.own i lo n).kill id).kill s
 |v=>(v.kill id).kill s
def Dk(id s:Nat):eH U El->eH U El
 |[]=>[]
 |(j,v)::t=>(j,v.mv id s)::Dk id s t
def C0(st:St U El)(s:Nat)(u:U)(k:St U El->Option (Fin U El)):Option (Fin U El):=
 match cC st.t s with
 |.cL=>let aA:=st.forget s;k ⟨(s,.cf s)::aA.t,(s,.rows u [])::aA.h⟩
 |.cf id=>bif Nat.beq id s then k st else match aN st.h id with
  |some (.rows v xs)=>let aA:=(st.forget id).forget s;k ⟨(s,.cf s)::Dk id s st.t,(s,.rows v xs)::aA.h⟩
  |_=>none
 |.own id lo len=>aU (Nat.beq lo 0&&lU 0 len) (match aN st.h id with
  |some (.rows v xs)=>let aA:=(st.forget id).forget s;k ⟨(s,.cf s)::aA.t,(s,.rows v (List.take len xs))::aA.h⟩
  |_=>none)
 |_=>none
def Au(st:St U El)(b off:Nat)(u:U)(j:Nat)(k:St U El->Option (Fin U El)):Option (Fin U El):=
 match aN st.h b with
 |some (.box _ cs)=>match cs[off]? with
  |some (.cf id)=>bif Nat.beq id j then k st else k ((st.forget j).rename id j)
  |some (.mp id)=>bif Nat.beq id j then k st else k ((st.forget j).rename id j)
  |some .cL=>match aN (st.forget j).h b with
   |some (.box tg yc)=>match yc[off]? with
    |some .cL=>k ⟨(st.forget j).t,(j,.rows u [])::iW (st.forget j).h b (.box tg (yc.set off (.cf j)))⟩
    |_=>k st
   |_=>k st
  |_=>k st
 |_=>k st
def xl(st:St U El):ah (Nat×Nat×U×Nat)->(St U El->Option (Fin U El))->Option (Fin U El)
 |[],k=>k st
 |(b,off,u,j)::l,k=>Au st b off u j λbx=>xl bx l k
def uG(st:St U El):ah (Nat×Nat×U)->(St U El->Option (Fin U El))->Option (Fin U El)
 |[],k=>k st
 |(s,off,u)::l,k=>tF st s off u λbx=>uG bx l k
def yV(st:St U El)(b off:Nat)(u:U)(k:St U El->Option (Fin U El)):Option (Fin U El):=
 match aN st.h b with
 |some (.box tg cs)=>match cs[off]? with
  |some .cL=>k ⟨st.t,iW st.h b (.box tg (cs.set off (.au u [])))⟩
  |some (.cf id)=>match aN st.h id with
   |some (.rows v xs)=>match aN (st.forget id).h b with
    |some (.box YB yc)=>k ⟨(st.forget id).t,iW (st.forget id).h b (.box YB (yc.set off (.au v xs)))⟩
    |_=>k st
   |_=>k st
  |_=>k st
 |_=>k st
def uH(st:St U El):ah (Nat×Nat×U)->(St U El->Option (Fin U El))->Option (Fin U El)
 |[],k=>k st
 |(b,off,u)::l,k=>yV st b off u λbx=>uH bx l k
def yX(st:St U El):ah (Nat×U)->(St U El->Option (Fin U El))->Option (Fin U El)
 |[],k=>k st
 |(s,u)::cs,k=>vF st s u λbx=>yX bx cs k
def C1(st:St U El):ah (Nat×U)->(St U El->Option (Fin U El))->Option (Fin U El)
 |[],k=>k st
 |(s,u)::cs,k=>C0 st s u λbx=>C1 bx cs k
def vS(t:eH U El):ah Nat->eH U El
 |[]=>[]
 |s::l=>(s,cC t s)::vS t l
def rV(h:bI U El):ah Nat->bI U El
 |[]=>[]
 |s::l=>match aN h s with
  |some b=>(s,b)::rV h l
  |none=>rV h l
def cN(nm:Norm U)(st:St U El)(k:St U El->Option (Fin U El)):Option (Fin U El):=C1 st nm.Pz λbA=>xl bA nm.cells λaA=>uH aA nm.Mw λHe=>uG He nm.KI λKB=>yX KB nm.shares λbx=>k ⟨vS bx.t nm.Jg,rV bx.h nm.ids⟩
inductive gb (U:Type):Type where
 |d
 |seq (j:Option (Norm U)) (a b:gb U)
 |cond (a b:gb U)
 |block (a:gb U)
 |loop (j:Norm U) (a:gb U)
 |region (ws:List (Nat×Nat))
 |Hv (ws:List (Nat×Nat))
 |NC
def gb.fst:gb U->gb U|.seq _ a _=>a|.cond a _=>a|.block a=>a|.loop _ a=>a|_=>.d
def gb.ws:gb U->ah (Nat×Nat)|.region ws=>ws|.Hv ws=>ws|_=>[]
def gb.Y0:gb U->Bool|.Hv _=>true|_=>false
def gb.Y_:gb U->Bool|.NC=>true|_=>false
def gb.snd:gb U->gb U|.seq _ _ b=>b|.cond _ b=>b|_=>.d
def gb.cut:gb U->Option (Norm U)|.seq j _ _=>j|.loop j _=>some j|_=>none
abbrev bn(U:Type)(El:U->Type):=St U El->Option (Fin U El)
def iter(nm:Norm U)(body:St U El->bn U El->Option (Fin U El)):Nat->bn U El
 |0,_=>none
 |n+1,st=>body st λbx=>cN nm bx (iter nm body n)
def HY(body:St U El->bn U El->Option (Fin U El)):Nat->bn U El
 |0,_=>none
 |n+1,st=>body st (HY body n)
def bG(nm:Norm U)(K:bn U El):bn U El:=λst=>cN nm st K
def cu(id:Nat)(K:bn U El)(E:Nat->bn U El):Nat->bn U El:=λi st=>bif Nat.beq i id then K st else E i st
omit [DecidableEq U] in
theorem LK:∃f:bn U El->bn U El,∀k,f k=k:=⟨id,λ_=>rfl⟩
noncomputable def hid:bn U El->bn U El:=Classical.choose LK
omit [DecidableEq U] in
theorem cM(k:bn U El):hid k=k:=eF LK k
noncomputable def exec (X:Ctx U El):Code->gb U->St U El->bn U El->(Nat->bn U El)->bn U El->Option (Fin U El)
 |.skip,_,st,K,_,_=>K st
 |.region _ ops dr,n,st,K,_,_=>
  bif dr then
   bif n.Y_ then aU (ops.toList.all λo=>match o.dst with|some d=>Nat.blt d X.nt|none=>true) (xr X (ops.toList.map (·.dst)) ops.toList K ops.toList.length 0 st)
   else bif n.Y0 then
    (match ops.toList.getLast? with
     |some o=>bif qz X.nt ops.toList.dropLast n.ws&&CB X.nt ops.toList.dropLast o then
      (let os:=ops.toList.dropLast
       let bA:=st.fD (kW os)
       jK X (os.map (·.dst)) (zb (o_ os []) (qi os n.ws)) n.ws os 0 bA.t bA.h λbx=>ju X [] [o] bx K)
      else none
     |none=>none)
   else bif qz X.nt ops.toList n.ws then
    (let bA:=st.fD (kW ops.toList)
     jK X (ops.toList.map (·.dst)) (zb (o_ ops.toList []) (qi ops.toList n.ws)) n.ws ops.toList 0 bA.t bA.h K)
   else none
  else aU (ops.toList.all λo=>match o.dst with|some d=>Nat.blt d X.nt|none=>true) (ju X (ops.toList.map (·.dst)) ops.toList st K)
 |.seq a b,n,st,K,E,R=>exec X a n.fst st (match n.cut with
  |none=>λbx=>exec X b n.snd bx K E R
  |some nm=>bG nm (hid λbx=>exec X b n.snd bx K E R)) E R
 |.cond c a b,n,st,K,E,R=>match c with
  |.tmp g=>branch st.t g λt bv=>bif bv then exec X a n.fst ⟨t,st.h⟩ K E R else exec X b n.snd ⟨t,st.h⟩ K E R
  |_=>none
 |.block id b,n,st,K,E,R=>match X.Ot id with
  |some f=>f st K
  |none=>exec X b n.fst st K (cu id K E) R
 |.loop b,n,st,_,E,R=>match n.cut with
  |some nm=>cN nm st (hid (iter nm (λbx K'=>exec X b n.fst bx K' E R) X.fuel))
  |none=>HY (λbx K'=>exec X b n.fst bx K' E R) 64 st
 |.exit id,_,st,_,E,_=>E id st
 |.ret,_,st,_,_,R=>R st
 |_,_,_,_,_,_=>none
def jU:ah Nat->Nat->ah (Nat×Nat)
 |[],_=>[]
 |id::l,n=>(id,n)::jU l (n+1)
def ED(m:ah (Nat×Nat)):AV U El->Option (AV U El)
 |.cf id=>match m.find? (λp=>Nat.beq p.1 id)with
  |some p=>some (.cf p.2)
  |none=>none
 |.agg cs=>bif cs.all AV.cell then some (.agg cs)else none
 |a=>bif a.cell then some a else none
def Bn(m:ah (Nat×Nat)):ah (AV U El)->Option (ah (AV U El))
 |[]=>some []
 |c::cs=>match ED m c with
  |some d=>match Bn m cs with
   |some ds=>some (d::ds)
   |none=>none
  |none=>none
def Bo(h:bI U El):ah (Nat×Nat)->Option (bI U El)
 |[]=>some []
 |(id,n)::l=>match aN h id with
  |some (.rows u xs)=>match Bo h l with
   |some r=>some ((n,.rows u xs)::r)
   |none=>none
  |_=>none
def ch(res ex:ah Nat)(st:St U El):Option (Fin U El):=
 match Bn (jU ex 0) (res.map (cC st.t)),Bo st.h (jU ex 0)with
 |some [v],some h=>some (v,h)
 |some vs,some h=>some (.bP vs,h)
 |_,_=>none
def mL:ah (AV U El)->Nat->eH U El
 |[],_=>[]
 |a::l,n=>(n,a)::mL l (n+1)
def fz(X:Ctx U El)(n0:Nat):ah (Nat×TypeId)->Nat->St U El->(St U El->Option (Fin U El))->Option (Fin U El)
 |[],_,st,k=>k st
 |(a,ty)::l,p,st,k=>match dS X.iH ty with
  |some td=>match xy td with
   |some (sz,ag)=>aU (Nat.blt a n0) (view X st.h (cC st.t a) λcs off=>partOf cs off sz ag λv=>fz X n0 l (p+1) ⟨(p,v)::st.t,st.h⟩ k)
   |none=>none
  |none=>none
def xQ(nt:Nat)(lR:ah (Nat×TypeId))(r:Nat):ResultVar:=
 if r<nt then .tmp r else match lR[r-nt]? with
  |some p=>.cell p.1 p.2
  |none=>.tmp r
noncomputable def gH (X:Ctx U El) (body:Code) (n:gb U) (nm:Norm U) (lR:ah (Nat×TypeId)) (res ex:ah Nat) (args:ah (AV U El)):Option (Fin U El):=exec X body n ⟨mL args 0,[]⟩ (λst=>fz X X.nt lR X.nt st λst=>cN nm st (ch res ex)) (λ_ _=>none) (λst=>fz X X.nt lR X.nt st λst=>cN nm st (ch res ex))
noncomputable def O4 (X:Ctx U El) (body:Code) (n:gb U) (nm:Norm U) (res ex:ah Nat) (args:ah (AV U El)):Option (Fin U El):=exec X body n ⟨mL args 0,[]⟩ (λst=>cN nm st (ch res ex)) (λ_ _=>none) (λst=>cN nm st (ch res ex))
end
end Go.Proofs.YtfmamkmmohilgaaGreatDoor
namespace Go.Proofs.YtfmamkmmohilgaaGreatDoor
open IntKind
set_option linter.all false
open Go.RowKit
structure Loc where
 b:Nat
 n:Nat
 s:Nat
 ln:Nat
abbrev eJ:=Nat->Option Loc
def eJ.del(ρ:eJ)(id:Nat):eJ:=λj=>if j=id then none else ρ j
def eJ.set(ρ:eJ)(id:Nat)(l:Loc):eJ:=λj=>if j=id then some l else ρ j
section
variable{U:Type}{El:U->Type}
def Jd(agg:Bool):Value->Array Value
 |.agg vs=>if agg then vs else #[.agg vs]
 |v=>if agg then #[]else #[v]
def JW(E:fZ U El)(u:U)(x:El u)(v:Value):Prop:=if E.agg u then∃vs:Array Value,v=.agg vs/\vs.size=(E.enc u x).length else(E.enc u x).length=1
inductive Rel (E:fZ U El) (S:Nat->Prop) (ρ:eJ) (w:World):AV U El->Value->Prop
 |any (v:Value):Rel E S ρ w .any v
 |bool (b:Bool):Rel E S ρ w (.bool b) (.bool b)
 |int (k:IntKind) (n:Int):Rel E S ρ w (.int k n) (.int k n)
 |str (s:List UInt8):Rel E S ρ w (.str s) (.string ⟨s.toArray⟩)
 |j5:Rel E S ρ w .j5 (.pointer none)
 |cL:Rel E S ρ w .cL (.slice none 0 0)
 |lN:Rel E S ρ w .lN .nilIface
 |oT:Rel E S ρ w .oT .nilFunc
 |oz:Rel E S ρ w .oz (.map none)
 |agg (cs:List (AV U El)) (vs:Array Value) (hl:vs.size=cs.length) (h:∀(i:Nat) c v,cs[i]?=some c->vs[i]?=some v->Rel E S ρ w c v):Rel E S ρ w (.agg cs) (.agg vs)
 |bP (cs:List (AV U El)) (vs:Array Value) (hl:vs.size=cs.length) (h:∀(i:Nat) c v,cs[i]?=some c->vs[i]?=some v->Rel E S ρ w c v):Rel E S ρ w (.bP cs) (.tuple vs)
 |jy (u:U) (ao:Option Addr) (cap:Nat):Rel E S ρ w (.au u []) (.slice ao 0 cap)
 |au (u:U) (xs:List (El u)) (b off cap:Nat) (val:Nat->Nat->Value) (hS:S b) (hc:xs.length<=cap)
  (hcell:∀(i:Nat) x (j:Nat) c,xs[i]?=some x->(E.enc u x)[j]?=some c->w.cell? ⟨b,off+i*E.sz u+j,none⟩=some (val i j))
  (h:∀(i:Nat) x (j:Nat) c,xs[i]?=some x->(E.enc u x)[j]?=some c->Rel E S ρ w c (val i j)):Rel E S ρ w (.au u xs) (.slice (some ⟨b,off,none⟩) xs.length cap)
 |cf (id cap:Nat) (l:Loc) (hl:ρ id=some l) (h1:cap*l.s<=l.n) (h2:l.ln<=cap):Rel E S ρ w (.cf id) (.slice (some ⟨l.b,0,none⟩) l.ln cap)
 |j7 (id:Nat) (l:Loc) (hl:ρ id=some l) (h1:l.n=0) (h2:l.ln=0):Rel E S ρ w (.cf id) (.slice none 0 0)
 |own (id lo len cap:Nat) (l:Loc) (hl:ρ id=some l) (h1:(lo+cap)*l.s<=l.n) (h2:len<=cap) (h3:lo+len<=l.ln):Rel E S ρ w (.own id lo len) (.slice (some ⟨l.b,lo*l.s,none⟩) len cap)
 |nH (id lo:Nat) (ao:Option Addr) (cap:Nat):Rel E S ρ w (.own id lo 0) (.slice ao 0 cap)
 |ptr (id off:Nat) (l:Loc) (hl:ρ id=some l):Rel E S ρ w (.ptr id off) (.pointer (some ⟨l.b,off,none⟩))
 |row (id i off:Nat) (l:Loc) (hl:ρ id=some l):Rel E S ρ w (.row id i off) (.pointer (some ⟨l.b,i*l.s+off,none⟩))
 |pel (u:U) (xs:List (El u)) (i off b o cap:Nat) (h:Rel E S ρ w (.au u xs) (.slice (some ⟨b,o,none⟩) xs.length cap)) (hi:i<xs.length):Rel E S ρ w (.pel u xs i off) (.pointer (some ⟨b,o+i*E.sz u+off,none⟩))
 |pcs (cs:List (AV U El)) (off b o:Nat) (val:Nat->Value) (hS:cs≠[]->S b) (hcell:∀(j:Nat) c,cs[j]?=some c->w.cell? ⟨b,o+j,none⟩=some (val j)) (h:∀(j:Nat) c,cs[j]?=some c->Rel E S ρ w c (val j)):Rel E S ρ w (.pcs cs off) (.pointer (some ⟨b,o+off,none⟩))
 |fn (f:FuncId) (fs cs:List (AV U El)) (vf vc:Array Value) (sg:vf.size=fs.length) (tR:vc.size=cs.length) (hf:∀(i:Nat) c v,fs[i]?=some c->vf[i]?=some v->Rel E S ρ w c v) (hc:∀(i:Nat) c v,cs[i]?=some c->vc[i]?=some v->Rel E S ρ w c v):Rel E S ρ w (.fn f fs cs) (.func (.func f) vf vc)
 |err (t:TypeId) (v:Value):Rel E S ρ w .err (.iface t v)
 |mp (id:Nat) (l:Loc) (hl:ρ id=some l):Rel E S ρ w (.mp id) (.map (some l.b))
 |sr (u v:U) (es:List (El u×El v)) (b:Nat) (eQ:Array MapEntry) (clock:Nat) (hS:S b) (hb:w.heap[b]?=some (.map eQ clock)) (hn:eQ.size=es.length)
  (hf:∀(i:Nat) e p,eQ[i]?=some e->es[i]?=some p->JW E u p.1 e.key/\JW E v p.2 e.val)
  (hk:∀(i:Nat) e (p:El u×El v) (j:Nat) c x,eQ[i]?=some e->es[i]?=some p->(E.enc u p.1)[j]?=some c->(Jd (E.agg u) e.key)[j]?=some x->Rel E S ρ w c x)
  (hv:∀(i:Nat) e (p:El u×El v) (j:Nat) c x,eQ[i]?=some e->es[i]?=some p->(E.enc v p.2)[j]?=some c->(Jd (E.agg v) e.val)[j]?=some x->Rel E S ρ w c x):Rel E S ρ w (.sr u v es) (.map (some b))
def pb(E:fZ U El)(S:Nat->Prop)(ρ:eJ)(w:World)(cs:ah (AV U El))(vs:Array Value):Prop:=vs.size=cs.length/\∀(i:Nat) c v,cs[i]?=some c->vs[i]?=some v->Rel E S ρ w c v
def gz(E:fZ U El)(S:Nat->Prop)(ρ:eJ)(w:World)(u:U)(x:El u)(v:Value):Prop:=if E.agg u then∃vs:Array Value,v=.agg vs/\pb E S ρ w (E.enc u x) vs else∃c,E.enc u x=[c]/\Rel E S ρ w c v
theorem gz.fit{E:fZ U El}{S:Nat->Prop}{ρ:eJ}{w:World}{u:U}{x:El u}{v:Value}(h:gz E S ρ w u x v):JW E u x v/\∀(j:Nat) c y,(E.enc u x)[j]?=some c->(Jd (E.agg u) v)[j]?=some y->Rel E S ρ w c y:=by
 unfold gz at h;unfold JW;split at h
 ·rename_i e;obtain⟨vs,rfl,h2,h3⟩:=h;rw[if_pos e]
  refine⟨⟨vs,rfl,h2⟩,λj c y hc hy=>?_⟩
  rw[e]at hy;exact h3 j c y hc hy
 ·rename_i e;have e':E.agg u=false:=by simpa using e
  obtain⟨c0,h1,h2⟩:=h;rw[if_neg e,h1]
  refine⟨rfl,λj c y hc hy=>?_⟩
  have hk:Jd false v=#[v]:=by cases v<;>rfl
  rw[e',hk]at hy;match j,hc,hy with
  |0,hc,hy=>cases hc;cases hy;exact h2
  |j+1,hc,hy=>cases hc
theorem gz.K8{E:fZ U El}{S:Nat->Prop}{ρ:eJ}{w:World}{u:U}{x:El u}{v:Value}(h:JW E u x v)(hr:∀(j:Nat) c y,(E.enc u x)[j]?=some c->(Jd (E.agg u) v)[j]?=some y->Rel E S ρ w c y):gz E S ρ w u x v:=by
 unfold gz;unfold JW at h;split at h
 ·rename_i e;obtain⟨vs,rfl,h2⟩:=h;rw[if_pos e]
  refine⟨vs,rfl,h2,λj c y hc hy=>hr j c y hc ?_⟩
  rw[e];exact hy
 ·rename_i e;have e':E.agg u=false:=by simpa using e
  rw[if_neg e]
  obtain⟨c,hc⟩:=List.length_eq_one_iff.1 h;refine⟨c,hc,hr 0 c v (by rw[hc];rfl) ?_⟩
  have hk:Jd false v=#[v]:=by cases v<;>rfl
  rw[e',hk];rfl
structure AE (P:Program) (E:fZ U El) (u:U):Prop where
 check:∀{S:Nat->Prop} {ρ:eJ} {w:World} {x:El u} {v:Value} (em:Bool),gz E S ρ w u x v->(Instr.checkKey em 10000 (E.tid u) v).run P w=.ok () w
 find:∀{S:Nat->Prop} {ρ:eJ} {w:World} {x:El u} {v:Value} (es:List MapEntry) (xs:List (El u)),gz E S ρ w u x v->es.length=xs.length->(∀(i:Nat) e y,es[i]?=some e->xs[i]?=some y->gz E S ρ w u y e.key)->
  (Instr.findKey (E.tid u) v es).run P w=.ok ((na (E.nu u) xs x).bind λi=>(es[i]?).map λe=>(i,e.val)) w
 stays:∀{S:Nat->Prop} {ρ:eJ} {w:World} {x y:El u} {v v':Value},gz E S ρ w u x v->gz E S ρ w u y v'->E.nu u x y=true->(Instr.keyThatStays v' v).run P w=.ok v w
def PE(P:Program)(E:fZ U El)(v:U):Prop:=∃i z,P.info? (E.tid v)=some i/\i.zero=some z/\∀S ρ w,gz E S ρ w v (E.iL v) z
structure MN (E:fZ U El) (u:U) (mk:List UInt8->List (El u)) (un:List (El u)->List UInt8):Prop where
 sz:E.sz u=1
 AR:E.AR u=1
 len:∀s,(mk s).length=s.length
 enc:∀(s:List UInt8) (i:Nat),i<s.length->∃y,(mk s)[i]?=some y/\E.enc u y=[.int .u8 (s.getD i 0).toNat]
 Ts:∀xs,(un xs).length=xs.length
 UT:∀(xs:List (El u)) (i:Nat) (y:El u),xs[i]?=some y->∃b:UInt8,(un xs)[i]?=some b/\E.enc u y=[.int .u8 b.toNat]
structure oJ (P:Program) (E:fZ U El):Prop where
 len:∀u x,(E.enc u x).length=E.sz u
 pos:∀u,0<E.sz u
 Rn:∀u,0<E.AR u
 cell:∀u x c,c∈E.enc u x->c.cell=true
 flat:∀u,E.fl u=true->∀x c,c∈E.enc u x->c.flat=true
 dec:∀u cs x,E.dec u cs=some x->cs.length=E.sz u/\∀(j:Nat) c,(E.enc u x)[j]?=some c->∃c',cs[j]?=some c'/\(c'=c\/(c'=.cL/\∃u',c=.au u' []))
 Q7:∀w w':World,E.G w->Below w.heap.size w w'->E.G w'
 key:∀u,E.N3 u=true->AE P E u
 val:∀u,E.PJ u=true->PE P E u
 RW:∀u,E.Av u=true->MN E u (E.Pc u) (E.PK u)/\P.underlying (E.tid u)=some (.int .u8):=by(intro u h;exact absurd h Bool.false_ne_true)
 info:∀u,∃i z,P.info? (E.tid u)=some i/\i.size=E.sz u/\i.bytes=E.AR u/\i.zero=some z/\z.cells.size=E.sz u/\
  ∀(j:Nat) c,(E.enc u (E.iL u))[j]?=some c->∃v,z.cells[j]?=some v/\∀S ρ w,Rel E S ρ w c v
variable{P:Program}{E:fZ U El}{S S':Nat->Prop}{ρ ρ':eJ}{w w':World}
theorem nD{b o:Nat}(h:w'.heap[b]?=w.heap[b]?):w'.cell? ⟨b,o,none⟩=w.cell? ⟨b,o,none⟩:=World.cell?_of_block (a:=⟨b,o,none⟩) h
theorem Rel.mono{a:AV U El}{v:Value}(hr:Rel E S ρ w a v)(hS:∀b,S b->S' b)(hw:∀b,S b->w'.heap[b]?=w.heap[b]?)(s9:∀id l,ρ id=some l->ρ' id=some l):Rel E S' ρ' w' a v:=by
 induction hr with
 |any v=>exact .any v
 |bool b=>exact .bool b
 |int k n=>exact .int k n
 |str s=>exact .str s
 |j5=>exact .j5
 |cL=>exact .cL
 |lN=>exact .lN
 |oT=>exact .oT
 |oz=>exact .oz
 |agg cs vs hl h ih=>exact .agg cs vs hl ih
 |bP cs vs hl h ih=>exact .bP cs vs hl ih
 |jy u ao cap=>exact .jy u ao cap
 |au u xs b off cap val hb hc hcell h ih=>exact .au u xs b off cap val (hS b hb) hc (λi x j c hi hj=>(nD (hw b hb)).trans (hcell i x j c hi hj)) ih
 |cf id cap l hl h1 h2=>exact .cf id cap l (s9 _ _ hl) h1 h2
 |j7 id l hl h1 h2=>exact .j7 id l (s9 _ _ hl) h1 h2
 |own id lo len cap l hl h1 h2 h3=>exact .own id lo len cap l (s9 _ _ hl) h1 h2 h3
 |nH id lo ao cap=>exact .nH id lo ao cap
 |ptr id off l hl=>exact .ptr id off l (s9 _ _ hl)
 |row id i off l hl=>exact .row id i off l (s9 _ _ hl)
 |pel u xs i off b o cap h hi ih=>exact .pel u xs i off b o cap ih hi
 |pcs cs off b o val hb hcell h ih=>exact .pcs cs off b o val (λhn=>hS b (hb hn)) (λj c hj=>(nD (hw b (hb (by rintro rfl;cases hj)))).trans (hcell j c hj)) ih
 |fn f fs cs vf vc sg tR hf hc Qu Qv=>exact .fn f fs cs vf vc sg tR Qu Qv
 |err t v=>exact .err t v
 |mp id l hl=>exact .mp id l (s9 _ _ hl)
 |sr u v es b eQ clock hb hh hn hf hk hv Qt Qs=>exact .sr u v es b eQ clock (hS b hb) ((hw b hb).trans hh) hn hf Qt Qs
theorem qL{id:Nat}{cs:ah (AV U El)}(h:AV.rC.xC id cs=false):∀c∈cs,c.rC id=false:=by
 induction cs with
 |nil=>intro c hc;cases hc
 |cons d cs ih=>
  simp only[AV.rC.xC,hY]at h;intro c hc;cases hc with
  |head=>exact h.1
  |tail _ hc=>exact ih h.2 c hc
theorem xk{a:AV U El}(h:a.cell=true)(id:Nat):a.rC id=false:=by cases a<;>first|rfl|(simp[AV.cell]at h;done)
theorem Rel.del{a:AV U El}{v:Value}(hg:oJ P E)(hr:Rel E S ρ w a v)(id:Nat)(hm:a.rC id=false):Rel E S (ρ.del id) w a v:=by
 have s9:∀j l,ρ j=some l->(j==id)=false->ρ.del id j=some l:=λj l h e=>by
  have:j≠id:=by simpa using e
  simp[eJ.del,this,h]
 induction hr with
 |any v=>exact .any v
 |bool b=>exact .bool b
 |int k n=>exact .int k n
 |str s=>exact .str s
 |j5=>exact .j5
 |cL=>exact .cL
 |lN=>exact .lN
 |oT=>exact .oT
 |oz=>exact .oz
 |agg cs vs hl h ih=>exact .agg cs vs hl λi c v hc hv=>ih i c v hc hv (qL (by simpa[AV.rC]using hm) c (aD hc))
 |bP cs vs hl h ih=>exact .bP cs vs hl λi c v hc hv=>ih i c v hc hv (qL (by simpa[AV.rC]using hm) c (aD hc))
 |jy u ao cap=>exact .jy u ao cap
 |au u xs b off cap val hb hc hcell h ih=>exact .au u xs b off cap val hb hc hcell λi x j c hi hj=>ih i x j c hi hj (xk (hg.cell u x c (aD hj)) id)
 |cf j cap l hl h1 h2=>exact .cf j cap l (s9 _ _ hl (by simpa[AV.rC]using hm)) h1 h2
 |j7 j l hl h1 h2=>exact .j7 j l (s9 _ _ hl (by simpa[AV.rC]using hm)) h1 h2
 |own j lo len cap l hl h1 h2 h3=>exact .own j lo len cap l (s9 _ _ hl (by simpa[AV.rC]using hm)) h1 h2 h3
 |nH j lo ao cap=>exact .nH j lo ao cap
 |ptr j off l hl=>exact .ptr j off l (s9 _ _ hl (by simpa[AV.rC]using hm))
 |row j i off l hl=>exact .row j i off l (s9 _ _ hl (by simpa[AV.rC]using hm))
 |pel u xs i off b o cap h hi ih=>exact .pel u xs i off b o cap (ih rfl) hi
 |pcs cs off b o val hb hcell h ih=>exact .pcs cs off b o val hb hcell λj c hj=>ih j c hj (qL (by simpa[AV.rC]using hm) c (aD hj))
 |fn f fs cs vf vc sg tR hf hc Qu Qv=>
  simp only[AV.rC,hY]at hm;exact .fn f fs cs vf vc sg tR (λi c v wE hv=>Qu i c v wE hv (qL hm.1 c (aD wE))) (λi c v wE hv=>Qv i c v wE hv (qL hm.2 c (aD wE)))
 |err t v=>exact .err t v
 |mp j l hl=>exact .mp j l (s9 _ _ hl (by simpa[AV.rC]using hm))
 |sr u v es b eQ clock hb hh hn hf hk hv Qt Qs=>exact .sr u v es b eQ clock hb hh hn hf (λi e p j c x h1 h2 h3 h4=>Qt i e p j c x h1 h2 h3 h4 (xk (hg.cell u p.1 c (aD h3)) id)) (λi e p j c x h1 h2 h3 h4=>Qs i e p j c x h1 h2 h3 h4 (xk (hg.cell v p.2 c (aD h3)) id))
theorem Rel.kill{a:AV U El}{v:Value}(hg:oJ P E)(hr:Rel E S ρ w a v)(id:Nat):Rel E S (ρ.del id) w (a.kill id) v:=by
 unfold AV.kill;cases h:a.rC id with
 |true=>exact .any v
 |false=>exact hr.del hg id h
theorem B2{cs:ah (AV U El)}(h:AV.flat.EA cs=true):∀c∈cs,c.flat=true:=by
 induction cs with
 |nil=>intro c hc;cases hc
 |cons d cs ih=>
  simp only[AV.flat.EA,aj]at h;intro c hc;cases hc with
  |head=>exact h.1
  |tail _ hc=>exact ih h.2 c hc
theorem Rel.flat{a:AV U El}{v:Value}(hr:Rel E S ρ w a v)(hf:a.flat=true):Rel E S' ρ w' a v:=by
 induction hr with
 |bool b=>exact .bool b
 |int k n=>exact .int k n
 |str s=>exact .str s
 |j5=>exact .j5
 |cL=>exact .cL
 |lN=>exact .lN
 |oT=>exact .oT
 |oz=>exact .oz
 |agg cs vs hl h ih=>exact .agg cs vs hl λi c v hc hv=>ih i c v hc hv (B2 (by simpa[AV.flat]using hf) c (aD hc))
 |bP cs vs hl h ih=>exact .bP cs vs hl λi c v hc hv=>ih i c v hc hv (B2 (by simpa[AV.flat]using hf) c (aD hc))
 |cf id cap l hl h1 h2=>exact .cf id cap l hl h1 h2
 |j7 id l hl h1 h2=>exact .j7 id l hl h1 h2
 |own id lo len cap l hl h1 h2 h3=>exact .own id lo len cap l hl h1 h2 h3
 |nH id lo ao cap=>exact .nH id lo ao cap
 |err t v=>exact .err t v
 |_=>simp[AV.flat]at hf
theorem Rel.ew{a:AV U El}{v:Value}(hg:oJ P E)(hr:Rel E S ρ w a v)(hf:a.cell=true):Rel E S ρ' w a v:=by
 induction hr with
 |bool b=>exact .bool b
 |int k n=>exact .int k n
 |str s=>exact .str s
 |j5=>exact .j5
 |cL=>exact .cL
 |lN=>exact .lN
 |oT=>exact .oT
 |oz=>exact .oz
 |err t v=>exact .err t v
 |jy u ao cap=>exact .jy u ao cap
 |au u xs b off cap val hb hc hcell h ih=>exact .au u xs b off cap val hb hc hcell λi x j c hi hj=>ih i x j c hi hj (hg.cell u x c (aD hj))
 |pel u xs i off b o cap h hi ih=>exact .pel u xs i off b o cap (ih rfl) hi
 |sr u v es b eQ clock hb hh hn Xw hk hv Qt Qs=>exact .sr u v es b eQ clock hb hh hn Xw (λi e p j c x h1 h2 h3 h4=>Qt i e p j c x h1 h2 h3 h4 (hg.cell u p.1 c (aD h3))) (λi e p j c x h1 h2 h3 h4=>Qs i e p j c x h1 h2 h3 h4 (hg.cell v p.2 c (aD h3)))
 |_=>simp[AV.cell]at hf
structure Bd where
 own:Nat->Prop
 jZ:Nat->Option Loc
 df:List Deferred
abbrev From(w:World):Bd:=⟨λk=>w.heap.size<=k,λ_=>none,[]⟩
class tD where
 on:Prop
@[reducible] def drwT:tD:=⟨True⟩
@[reducible] def Yh:tD:=⟨False⟩
variable [tD]
structure Fr (B:Bd) (w w':World):Prop where
 os:w'.os=w.os
 tape:w'.tape=w.tape
 output:w'.output=w.output
 size:w.heap.size<=w'.heap.size
 drawn:tD.on->w.drawn<=w'.drawn
 block:∀k,k<w.heap.size->¬B.own k->w'.heap[k]?=w.heap[k]?
theorem Fr.refl(B:Bd)(w:World):Fr B w w:=⟨rfl,rfl,rfl,aY _,λ_=>aY _,λ_ _ _=>rfl⟩
theorem Fr.trans{B:Bd}{a b c:World}(h:Fr B a b)(k:Fr B b c):Fr B a c:=⟨k.os.trans h.os,k.tape.trans h.tape,k.output.trans h.output,ck h.size k.size,λd_=>ck (h.drawn d_) (k.drawn d_),λi hi hb=>(k.block i (fk hi h.size) hb).trans (h.block i hi hb)⟩
theorem Fr.mono{B B':Bd}{w w':World}(h:Fr B w w')(hB:∀k,B.own k->B'.own k):Fr B' w w':=⟨h.os,h.tape,h.output,h.size,h.drawn,λk hk hb=>h.block k hk λh'=>hb (hB k h')⟩
theorem Fr.drew{B:Bd}{a w:World}(h:Fr B a w):Fr B a w.drew:=⟨h.os,h.tape,h.output,h.size,λd_=>Nat.le_succ_of_le (h.drawn d_),h.block⟩
theorem Fr.below{w w':World}(h:Fr (From w) w w'):Below w.heap.size w w':=⟨h.os,h.tape,h.output,h.size,λk hk=>h.block k hk (Nat.not_le_of_lt hk)⟩
def dt(E:fZ U El)(S:Nat->Prop)(ρ:eJ)(w:World)(B:Bd)(l:Loc):qm U El->Prop
 |.rows u xs=>l.s=E.sz u/\l.ln=xs.length/\xs.length*E.sz u<=l.n/\(l.n≠0->B.own l.b/\¬S l.b/\∃c,w.heap[l.b]?=some (.cells c (E.tid u) (0,0))/\c.size=l.n/\
  ∀(i:Nat) x (j:Nat) a,xs[i]?=some x->(E.enc u x)[j]?=some a->∃v,c[i*E.sz u+j]?=some v/\Rel E S ρ w a v)
 |.box t cs=>(t=0\/B.jZ t=some l)/\l.n=cs.length/\(l.n≠0->B.own l.b/\¬S l.b/\∃c e,w.heap[l.b]?=some (.cells c e (0,0))/\c.size=l.n/\∀(j:Nat) a,cs[j]?=some a->∃v,c[j]?=some v/\Rel E S ρ w a v)
 |.map u v es=>l.n=1/\B.own l.b/\¬S l.b/\∃eQ clock,w.heap[l.b]?=some (.map eQ clock)/\eQ.size=es.length/\∀(i:Nat) (e:MapEntry) (p:El u×El v),eQ[i]?=some e->es[i]?=some p->gz E S ρ w u p.1 e.key/\gz E S ρ w v p.2 e.val
 |.jC u ks cs=>l.n=1/\B.own l.b/\¬S l.b/\∃eQ clock,w.heap[l.b]?=some (.map eQ clock)/\eQ.size=ks.length/\eQ.size=cs.length/\∀(i:Nat) (e:MapEntry) (y:El u) (c:AV U El),eQ[i]?=some e->ks[i]?=some y->cs[i]?=some c->gz E S ρ w u y e.key/\Rel E S ρ w c e.val
 |.pZ t u xs=>(t=0\/B.jZ t=some l)/\l.s=E.sz u/\l.ln=xs.length/\xs.length*E.sz u<=l.n/\(l.n≠0->B.own l.b/\¬S l.b/\∃c,w.heap[l.b]?=some (.cells c (E.tid u) (0,0))/\c.size=l.n/\
  ∀(i:Nat) x (j:Nat) a,xs[i]?=some x->(E.enc u x)[j]?=some a->∃v,c[i*E.sz u+j]?=some v/\Rel E S ρ w a v)
 |.uk T j=>l.n=2/\B.own l.b/\¬S l.b/\∃c0 c1,w.heap[l.b]?=some (.cells #[c0,c1] T (0,0))/\(c0=.pointer none\/c0=.pointer (some ⟨l.b,0,none⟩))/\(∀ao n,c1≠ .slice (some ao) n 0)/\Rel E S ρ w (.cf j) c1
structure fa (E:fZ U El) (S:Nat->Prop) (ρ:eJ) (w:World) (B:Bd) (H:bI U El):Prop where
 get:∀id b,aN H id=some b->∃l,ρ id=some l/\dt E S ρ w B l b
 inj:∀i j b b' l l',aN H i=some b->aN H j=some b'->i≠j->ρ i=some l->ρ j=some l'->l.n≠0->l'.n≠0->l.b≠l'.b
 lt:∀b,S b->b<w.heap.size
theorem gz.mono{u:U}{x:El u}{v:Value}(h:gz E S ρ w u x v)(hS:∀b,S b->S' b)(hw:∀b,S b->w'.heap[b]?=w.heap[b]?)(s9:∀id l,ρ id=some l->ρ' id=some l):gz E S' ρ' w' u x v:=by
 unfold gz at*;split
 ·rename_i e;rw[if_pos e]at h;obtain⟨vs,h1,h2,h3⟩:=h;exact⟨vs,h1,h2,λi c v hc hv=>(h3 i c v hc hv).mono hS hw s9⟩
 ·rename_i e;rw[if_neg e]at h;obtain⟨c,h1,h2⟩:=h;exact⟨c,h1,h2.mono hS hw s9⟩
theorem gz.ew{u:U}{x:El u}{v:Value}(hg:oJ P E)(h:gz E S ρ w u x v):gz E S ρ' w u x v:=by
 unfold gz at*;split
 ·rename_i e;rw[if_pos e]at h;obtain⟨vs,h1,h2,h3⟩:=h;exact⟨vs,h1,h2,λi c v hc hv=>(h3 i c v hc hv).ew hg (hg.cell u x c (aD hc))⟩
 ·rename_i e;rw[if_neg e]at h;obtain⟨c,h1,h2⟩:=h;exact⟨c,h1,h2.ew hg (hg.cell u x c (by rw[h1];simp))⟩
theorem dt.lt{B:Bd}{l:Loc}{b:qm U El}(h:dt E S ρ w B l b)(hn:l.n≠0):l.b<w.heap.size/\B.own l.b/\¬S l.b:=by
 have key:∀{ob:Obj},w.heap[l.b]?=some ob->l.b<w.heap.size:=λhh=>by
  rcases Nat.lt_or_ge l.b w.heap.size with h'|h'
  ·exact h'
  ·rw[fW h']at hh;cases hh
 cases b with
 |rows u xs=>obtain⟨_,_,_,h⟩:=h;obtain⟨h1,h2,c,hh,_⟩:=h hn;exact⟨key hh,h1,h2⟩
 |box t cs=>obtain⟨_,_,h⟩:=h;obtain⟨h1,h2,c,e,hh,_⟩:=h hn;exact⟨key hh,h1,h2⟩
 |map u v es=>obtain⟨_,h1,h2,c,e,hh,_⟩:=h;exact⟨key hh,h1,h2⟩
 |jC u ks cs=>obtain⟨_,h1,h2,c,e,hh,_⟩:=h;exact⟨key hh,h1,h2⟩
 |pZ t u xs=>obtain⟨_,_,_,_,h⟩:=h;obtain⟨h1,h2,c,hh,_⟩:=h hn;exact⟨key hh,h1,h2⟩
 |uk T j=>obtain⟨_,h1,h2,c0,c1,hh,_⟩:=h;exact⟨key hh,h1,h2⟩
theorem dt.mono{B:Bd}{l:Loc}{b:qm U El}(h:dt E S ρ w B l b)(hS:∀b,S b->S' b)(hw:∀b,S b->w'.heap[b]?=w.heap[b]?)(s9:∀id l,ρ id=some l->ρ' id=some l)
 (hb:l.n≠0->w'.heap[l.b]?=w.heap[l.b]?/\ ¬S' l.b):dt E S' ρ' w' B l b:=by
 cases b with
 |rows u xs=>
  obtain⟨h1,h2,h3,h⟩:=h;refine⟨h1,h2,h3,λhn=>?_⟩
  obtain⟨h4,h5,c,hh,h6,h7⟩:=h hn;exact⟨h4,(hb hn).2,c,(hb hn).1.trans hh,h6,λi x j a hi hj=>by obtain⟨v,hv,hr⟩:=h7 i x j a hi hj;exact⟨v,hv,hr.mono hS hw s9⟩⟩
 |pZ t u xs=>
  obtain⟨h0,h1,h2,h3,h⟩:=h;refine⟨h0,h1,h2,h3,λhn=>?_⟩
  obtain⟨h4,h5,c,hh,h6,h7⟩:=h hn;exact⟨h4,(hb hn).2,c,(hb hn).1.trans hh,h6,λi x j a hi hj=>by obtain⟨v,hv,hr⟩:=h7 i x j a hi hj;exact⟨v,hv,hr.mono hS hw s9⟩⟩
 |map u v es=>
  obtain⟨h1,h4,h5,c0,c1,hh,h6,h7⟩:=h;have hn:l.n≠0:=ab
  exact⟨h1,h4,(hb hn).2,c0,c1,(hb hn).1.trans hh,h6,λi e p hi hj=>⟨(h7 i e p hi hj).1.mono hS hw s9,(h7 i e p hi hj).2.mono hS hw s9⟩⟩
 |jC u ks cs=>
  obtain⟨h1,h4,h5,c0,c1,hh,h6,h7,h8⟩:=h;have hn:l.n≠0:=ab
  exact⟨h1,h4,(hb hn).2,c0,c1,(hb hn).1.trans hh,h6,h7,λi e y c hi hj hk=>⟨(h8 i e y c hi hj hk).1.mono hS hw s9,(h8 i e y c hi hj hk).2.mono hS hw s9⟩⟩
 |box t cs=>
  obtain⟨h0,h1,h⟩:=h;refine⟨h0,h1,λhn=>?_⟩
  obtain⟨h4,h5,c,e,hh,h6,h7⟩:=h hn;exact⟨h4,(hb hn).2,c,e,(hb hn).1.trans hh,h6,λj a hj=>by obtain⟨v,hv,hr⟩:=h7 j a hj;exact⟨v,hv,hr.mono hS hw s9⟩⟩
 |uk T j=>
  obtain⟨h1,h4,h5,c0,c1,hh,h6,h7,h8⟩:=h;have hn:l.n≠0:=ab
  exact⟨h1,h4,(hb hn).2,c0,c1,(hb hn).1.trans hh,h6,h7,h8.mono hS hw s9⟩
theorem dt.le{B B':Bd}{l:Loc}{b:qm U El}(h:dt E S ρ w B l b)(hB:∀k,B.own k->B'.own k)(hP:∀k l,B.jZ k=some l->B'.jZ k=some l):dt E S ρ w B' l b:=by
 cases b with
 |rows u xs=>obtain⟨h1,h2,h3,h⟩:=h;exact⟨h1,h2,h3,λhn=>⟨hB _ (h hn).1,(h hn).2⟩⟩
 |box t cs=>obtain⟨h0,h1,h⟩:=h;exact⟨h0.imp id (hP t l),h1,λhn=>⟨hB _ (h hn).1,(h hn).2⟩⟩
 |uk T j=>obtain⟨h1,h⟩:=h;exact⟨h1,hB _ h.1,h.2⟩
 |map u v es=>obtain⟨h1,h⟩:=h;exact⟨h1,hB _ h.1,h.2⟩
 |jC u ks cs=>obtain⟨h1,h⟩:=h;exact⟨h1,hB _ h.1,h.2⟩
 |pZ t u xs=>obtain⟨h0,h1,h2,h3,h⟩:=h;exact⟨h0.imp id (hP t l),h1,h2,h3,λhn=>⟨hB _ (h hn).1,(h hn).2⟩⟩
theorem dt.tagged{E:fZ U El}{B:Bd}{l:Loc}{b:qm U El}(h:dt E S ρ w B l b):b.tag=0\/B.jZ b.tag=some l:=by
 cases b with
 |box t cs=>exact h.1
 |pZ t u xs=>exact h.1
 |_=>exact .inl rfl
structure Step (S:Nat->Prop) (ρ:eJ) (w:World) (S':Nat->Prop) (ρ':eJ) (w':World):Prop where
 fr:Fr (From w) w w'
 s1:∀b,S b->S' b
 s2:∀b,S' b->S b\/w.heap.size<=b
 MR:∀id l,ρ id=some l->ρ' id=some l
 lt:∀b,S b->b<w.heap.size
theorem Step.below(h:Step S ρ w S' ρ' w'):Below w.heap.size w w':=h.fr.below
theorem Step.same(h:Step S ρ w S' ρ' w'):∀b,S b->w'.heap[b]?=w.heap[b]?:=λb hb=>h.below.block b (h.lt b hb)
theorem Step.rel(h:Step S ρ w S' ρ' w'){a:AV U El}{v:Value}(hr:Rel E S ρ w a v):Rel E S' ρ' w' a v:=hr.mono h.s1 h.same h.MR
theorem Step.refl(hlt:∀b,S b->b<w.heap.size):Step S ρ w S ρ w:=⟨Fr.refl _ _,λ_ h=>h,λ_ h=>.inl h,λ_ _ h=>h,hlt⟩
theorem Step.blk(h:Step S ρ w S' ρ' w'){B:Bd}{l:Loc}{b:qm U El}(hb:dt E S ρ w B l b):dt E S' ρ' w' B l b:=
 hb.mono h.s1 h.same h.MR λhn=>by
  obtain⟨h1,h2,h3⟩:=hb.lt hn;exact⟨h.below.block _ h1,λhs=>by rcases h.s2 _ hs with k|k;exact h3 k;omega⟩
theorem fF{H H':bI U El}{id:Nat}:aN (H++H') id=match aN H id with|some b=>some b|none=>aN H' id:=by
 induction H with
 |nil=>rfl
 |cons p H ih=>
  obtain⟨j,b⟩:=p;simp only[eM,aN]
  cases Nat.beq j id<;>simp[ih]
theorem Step.heap(h:Step S ρ w S' ρ' w'){B:Bd}{H N:bI U El}(hH:fa E S ρ w B H)(hN:fa E S' ρ' w' (From w) N)(hB: ∀k,w.heap.size<=k->B.own k)(hd: ∀id b,aN N id=some b->ρ id=none):fa E S' ρ' w' B (N++H) where
 get:=λid b hg=>by
  rw[fF]at hg;cases hn:aN N id with
  |some b'=>
   rw[hn]at hg;cases hg;obtain⟨l,h1,h2⟩:=hN.get id b hn;exact⟨l,h1,h2.le hB (λ_ _ h=>by cases h)⟩
  |none=>
   rw[hn]at hg;obtain⟨l,h1,h2⟩:=hH.get id b hg;exact⟨l,h.MR _ _ h1,h.blk h2⟩
 inj:=λi j b b' l l' hi hj gn oL lV hn oK=>by
  rw[fF]at hi hj;cases ni:aN N i with
  |some bi=>
   obtain⟨l1,e1,r1⟩:=hN.get i bi ni;rw[oL]at e1;cases e1;have c1:=r1.lt hn;cases nj:aN N j with
   |some bj=>exact hN.inj i j bi bj l l' ni nj gn oL lV hn oK
   |none=>
    rw[nj]at hj;obtain⟨l2,e2,r2⟩:=hH.get j b' hj;have:=h.MR _ _ e2;rw[lV]at this;cases this;have c2:=r2.lt oK;have c1':w.heap.size<=l.b:=c1.2.1;omega
  |none=>
   rw[ni]at hi;obtain⟨l1,e1,r1⟩:=hH.get i b hi;have k1:=h.MR _ _ e1;rw[oL]at k1;cases k1;have c1:=r1.lt hn;cases nj:aN N j with
   |some bj=>
    obtain⟨l2,e2,r2⟩:=hN.get j bj nj;rw[lV]at e2;cases e2;have c2:=r2.lt oK;have c2':w.heap.size<=l'.b:=c2.2.1;omega
   |none=>
    rw[nj]at hj;obtain⟨l2,e2,r2⟩:=hH.get j b' hj;have k2:=h.MR _ _ e2;rw[lV]at k2;cases k2;exact hH.inj i j b b' l l' hi hj gn e1 e2 hn oK
 lt:=hN.lt
theorem Step.trans{S1 S2 S3:Nat->Prop}{nM su RZ:eJ}{w1 w2 w3:World}(h:Step S1 nM w1 S2 su w2)(k:Step S2 su w2 S3 RZ w3):Step S1 nM w1 S3 RZ w3:=
 ⟨h.fr.trans (k.fr.mono λi hi=>ck h.fr.size hi),λb hb=>k.s1 b (h.s1 b hb),λb hb=>by
  rcases k.s2 b hb with e|e
  ·exact h.s2 b e
  ·exact .inr (ck h.below.size e),λid l e=>k.MR id l (h.MR id l e),h.lt⟩
def cV(P:Program)(E:fZ U El)(f:FuncId)(args:ah (AV U El))(res:AV U El)(ex:bI U El):Prop:=
 (∀aaa w,(callFunc f aaa).run P w=.ok (.enter f aaa) w)/\(∀id b,aN ex id=some b->id<4)/\
 ∀(S:Nat->Prop) (w:World) (vs:Array Value),(∀b,S b->b<w.heap.size)->E.G w->pb E S (λ_=>none) w args vs->
  Calls P f vs w λe w'=>∃v S' ρ',e=.returned v/\Step S (λ_=>none) w S' ρ' w'/\fa E S' ρ' w' (From w) ex/\Rel E S' ρ' w' res v
def yH(P:Program)(E:fZ U El)(f:FuncId)(args:ah (AV U El))(res:AV U El)(ex:bI U El):Prop:=
 ex=[]/\∀(S:Nat->Prop) (w:World) (vs:Array Value),(∀b,S b->b<w.heap.size)->pb E S (λ_=>none) w args vs->
  ∃v,(callFunc f vs).run P w=.ok (.value v) w/\Rel E S (λ_=>none) w res v
def lT(P:Program)(E:fZ U El)(f:FuncId)(args:ah (AV U El))(hs:bI U El)(v:AV U El)(h:bI U El):Prop:=
 ∀(B:Bd) (S:Nat->Prop) (ρ:eJ) (w:World) (vs:Array Value),(∀k,w.heap.size<=k->B.own k)->(∀w',Fr B w w'->E.G w')->fa E S ρ w B hs->pb E S ρ w args vs->
  Calls P f vs w λe w'=>∃v' S' ρ',e=.returned v'/\Fr B w w'/\(∀b,S b->S' b)/\(∀b,S' b->S b\/B.own b)/\fa E S' ρ' w' B h/\Rel E S' ρ' w' v v'
theorem fa.df{E:fZ U El}{S:Nat->Prop}{ρ:eJ}{w:World}{B:Bd}{H:bI U El}(h:fa E S ρ w B H)(D:ah Deferred):fa E S ρ w ⟨B.own,B.jZ,D⟩ H:=⟨λid b hg=>by obtain⟨l,h1,h2⟩:=h.get id b hg;exact⟨l,h1,h2.le (B':=⟨B.own,B.jZ,D⟩) (λ_ h=>h) (λ_ _ h=>h)⟩,h.inj,h.lt⟩
theorem fa.RV{E:fZ U El}{S:Nat->Prop}{ρ:eJ}{w:World}{B:Bd}{H:bI U El}{D:ah Deferred}(h:fa E S ρ w ⟨B.own,B.jZ,D⟩ H):fa E S ρ w B H:=⟨λid b hg=>by obtain⟨l,h1,h2⟩:=h.get id b hg;exact⟨l,h1,h2.le (B':=B) (λ_ h=>h) (λ_ _ h=>h)⟩,h.inj,h.lt⟩
theorem lT.DZ{E:fZ U El}{f:FuncId}{args:ah (AV U El)}{hs:bI U El}{v:AV U El}{h:bI U El}
 (hm:∀(B:Bd) (S:Nat->Prop) (ρ:eJ) (w:World) (vs:Array Value),B.df=[]->(∀k,w.heap.size<=k->B.own k)->(∀w',Fr B w w'->E.G w')->fa E S ρ w B hs->pb E S ρ w args vs->
  Calls P f vs w λe w'=>∃v' S' ρ',e=.returned v'/\Fr B w w'/\(∀b,S b->S' b)/\(∀b,S' b->S b\/B.own b)/\fa E S' ρ' w' B h/\Rel E S' ρ' w' v v'):lT P E f args hs v h:=by
 intro B S ρ w vs hB hG hH hr;refine(hm ⟨B.own,B.jZ,[]⟩ S ρ w vs rfl hB (λw' hf=>hG w' (hf.mono λ_ h=>h)) (hH.df []) hr).mono ?_;rintro e w' ⟨v',S',ρ',h1,h2,h3,h4,h5,h6⟩
 exact⟨v',S',ρ',h1,h2.mono λ_ h=>h,h3,h4,h5.RV,h6⟩
def ql(P:Program)(E:fZ U El)(f:FuncId)(sp:wF U El):Prop:=(∀aaa w,(callFunc f aaa).run P w=.ok (.enter f aaa) w)/\∀args hs k r,sp args hs k=some r->∃v hc,lT P E f args hs v hc/\k v hc=some r
def wB(P:Program)(E:fZ U El)(f:FuncId)(sp:wF U El):Prop:=ql P E f sp/\∀args hs,∃oo:Option (AV U El×bI U El),∀k,sp args hs k=oo.bind λp=>k p.1 p.2
end
def MQ(P:Program)(t:TypeId):Nat:=((P.info? t).map (·.size)).getD 0
def C5:TypeDesc->Bool
 |.struct _=>true
 |.array _ _=>true
 |_=>false
def PD(P:Program)(t:TypeId):Bool:=((P.underlying t).map C5).getD false
section
variable{U:Type}{El:U->Type} [tD]
def G8(P:Program)(E:fZ U El)(t:TypeId):TD U->Prop
 |.one=>∃d,P.underlying t=some d/\C5 d=false
 |.bool=>P.underlying t=some .bool
 |.ptr=>∃e,P.underlying t=some (.pointer e)
 |.iface=>∃e,P.underlying t=some (.interface e)
 |.int k=>P.underlying t=some (.int k)
 |.str=>P.underlying t=some .string
 |.slice u=>P.underlying t=some (.slice (E.tid u))
 |.struct fs sz=>∃fields,P.underlying t=some (.struct fields)/\(∃i,P.info? t=some i/\i.size=sz/\∃z,i.zero=some z/\z.cells.size=sz)/\P.stoodInHeld t=false/\P.eqGuardType P.depth t=false/\
  fs=fields.toList.map (λf=>(f.offset,MQ P f.type,PD P f.type))/\(∀f∈fields.toList,(∃d,P.underlying f.type=some d)/\(∃i,P.info? f.type=some i/\i.size≠0))
 |.uk u=>E.sz u=1/\(∃d,P.underlying t=some d)/\∃i,P.info? t=some i/\i.size=2/\i.zero=some (.agg #[.pointer none,.slice none 0 0])
 |.map u v=>P.underlying t=some (.map (E.tid u) (E.tid v))
 |.jC u=>∃v e,P.underlying t=some (.map (E.tid u) v)/\P.underlying v=some (.pointer e)/\∃i,P.info? v=some i/\i.zero=some (.pointer none)
 |.arr n es ea sz=>∃e,P.underlying t=some (.array n e)/\(∃i,P.info? t=some i/\i.size=sz/\∃z,i.zero=some z/\z.cells.size=sz)/\(∃i,P.info? e=some i/\i.size=es)/\(∃d,P.underlying e=some d/\C5 d=ea)
def xw(P:Program)(t:TypeId):Nat->Prop
 |0=>∃kd,P.underlying t=some (.int kd)
 |1=>P.underlying t=some .bool
 |_=>P.underlying t=some .string
def IA(P:Program)(t:TypeId)(ts:ah Nat):Prop:=
 ∃fields:Array Field,P.underlying t=some (.struct fields)/\P.stoodInHeld t=false/\P.eqGuardType P.depth t=false/\fields.toList.length=ts.length/\
  ∀(i:Nat) (f:Field) (k:Nat),fields.toList[i]?=some f->ts[i]?=some k->f.name≠ "_" /\f.offset=i/\xw P f.type k
def Vi(P:Program)(t:TypeId)(ts:ah Nat):Prop:=∃n e i k,P.underlying t=some (.array n e)/\P.info? e=some i/\P.cellsOf e=1/\P.eqGuardType P.depth t=false/\ts=List.replicate n k/\xw P e k
def Rz(P:Program)(t:TypeId)(ts:ah Nat):Prop:=IA P t ts\/Vi P t ts
structure bp (P:Program) (X:Ctx U El):Prop where
 mixed:P.follows .mixedOrders=true
 u:oJ P X.E
 td:∀t d,dS X.iH t=some d->G8 P X.E t d
 z:∀t v,xN X.zeros t=some v->∃i,P.info? t=some i/\i.zero=some v
 one:∀t td,dS X.iH t=some td->∃i,P.info? t=some i/\(PD P t=false->i.size=1)
 eq:∀t,uh X.eqs t≠[]->Rz P t (uh X.eqs t)
 pe:∀f vs,∃oo:Option (AV U El×bI U El),∀k,X.spec f vs k=oo.bind λp=>k p.1 p.2
 VS:∀f sp,X.wg f=some sp->wB P X.E f sp
 spec:∀f vs k r,X.spec f vs k=some r->∃res ex,(cV P X.E f vs res ex\/yH P X.E f vs res ex)/\k res ex=some r
variable{P:Program}{X:Ctx U El}{S:Nat->Prop}{ρ:eJ}{w:World}{E:fZ U El}
theorem jR{t:TypeId}{d:TypeDesc}(h:P.underlying t=some d)(w:World):(isAgg t).run P w=.ok (C5 d) w:=by cases d<;>simp[isAgg,run_underlying h,C5]
theorem kT{t:TypeId}{i:TypeInfo}(h:P.info? t=some i)(w:World):(sizeOf t).run P w=.ok i.size w:=by simp[sizeOf,typeInfo,h]
theorem Kv{t:TypeId}{i:TypeInfo}(h:P.info? t=some i):MQ P t=i.size:=by simp[MQ,h]
theorem MH{t:TypeId}{d:TypeDesc}(h:P.underlying t=some d):PD P t=C5 d:=by simp[PD,h]
theorem aQ{R:Type}{b:Bool}{x:Option R}{r:R}(h:aU b x=some r):b=true/\x=some r:=by
 cases b
 ·cases h
 ·exact⟨rfl,h⟩
theorem ET{R:Type}{i:Int}{k:Nat->Option R}{r:R}:∀(m j:Nat),xm i j m k=some r->∃q,j<=q/\q<j+m/\i=Int.ofNat q/\k q=some r:=by
 intro m;induction m with
 |zero=>intro j h;cases h
 |succ m ih=>
  intro j h;simp only[xm]at h;cases hb:(i==Int.ofNat j)with
  |true=>rw[hb]at h;exact⟨j,aY _,ab,by simpa using hb,h⟩
  |false=>
   rw[hb]at h;obtain⟨q,h1,h2,h3,h4⟩:=ih (j+1) h;exact⟨q,ab,ab,h3,h4⟩
theorem qP{R:Type}{n:Nat}{i:Int}{k:Nat->Option R}{r:R}(h:Gh n i k=some r):dV i n=true/\k i.toNat=some r:=by
 unfold Gh at h;cases hb:Nat.ble n 8 with
 |true=>
  rw[hb]at h;obtain⟨q,_,h2,rfl,h4⟩:=ET _ _ h;refine⟨?_,h4⟩
  simp only[dV,bg,bz,aj,decide_eq_true_eq]
  simp;omega
 |false=>rw[hb]at h;exact aQ h
theorem rM:∀(l:ah Value) (i:Nat) c v,(jL.kP l:ah (AV U El))[i]?=some c->l[i]?=some v->Rel E S ρ w c v:=by
 intro l;induction l with
 |nil=>intro i c v h;simp[jL.kP]at h
 |cons x l ih=>
  intro i c v hc hv;unfold jL.kP at hc;split at hc<;>(cases i with
   |zero=>first|(simp at hc hv;done)|(simp at hc hv;subst hc;first|(subst hv;constructor;done)|(cases ‹_=_›;subst hv;constructor;done)|(simp_all;subst_vars;first|exact .any _|exact .bool _|exact .int _ _|exact .str _|exact .j5|exact .cL|exact .oz|exact .oT|exact .lN))
   |succ i=>first|(simp at hc hv;done)|(simp at hc hv;first|exact ih i c v hc hv|(simp_all;exact ih i c v hc hv)))
theorem rL:∀(l:ah Value),(jL.kP l:ah (AV U El)).length=l.length:=by
 intro l;induction l with
 |nil=>rfl
 |cons x l ih=>
  unfold jL.kP;split<;>simp_all
theorem Rel.const(v:Value):Rel E S ρ w (jL v:AV U El) v:=by
 unfold jL;split
 ·exact .bool _
 ·exact .int _ _
 ·exact .str _
 ·exact .j5
 ·exact .cL
 ·exact .oz
 ·exact .oT
 ·exact .lN
 ·exact .agg _ _ (by simp[rL]) λi c v hc hv=>rM _ i c v hc (by simpa using hv)
 ·exact .bP _ _ (by simp[rL]) λi c v hc hv=>rM _ i c v hc (by simpa using hv)
 ·exact .any _
def mC(E:fZ U El)(S:Nat->Prop)(ρ:eJ)(w:World)(o:Oper)(t:eH U El)(a:Act):Prop:=∀i,.tmp i∈o.op.operands->Rel E S ρ w (cC t i) (a.tmps.getD i undef)
theorem Rel.bm{t:eH U El}{a:Act}{x:Operand}(h:∀i,x=.tmp i->Rel E S ρ w (cC t i) (a.tmps.getD i undef)):Rel E S ρ w (bm t x) (a.eval x):=by
 cases x with
 |tmp i=>exact h i rfl
 |const v=>exact Rel.const v
 |global g=>exact .any _
 |func f=>exact .fn f [] [] #[] #[] rfl rfl ae ae
theorem mC.get{o:Oper}{t:eH U El}{a:Act}(h:mC E S ρ w o t a){x:Operand}(hx:x∈o.op.operands):Rel E S ρ w (bm t x) (a.eval x):=Rel.bm λi e=>h i (e▸hx)
variable [DecidableEq U]
def fG(P:Program)(E:fZ U El)(S:Nat->Prop)(ρ:eJ)(w:World)(o:Oper)(a:Act)(d:Nat)(out:Out U El):Prop:=
 ∀(next:Act->World->Prop) (Q:Exit->Act->World->Prop),
  (∀v w' S' ρ',Step S ρ w S' ρ' w'->Rel E S' ρ' w' out.v v->fa E S' ρ' w' (From w) out.new->(∀id b,aN out.new id=some b->id∈dP o d)->(∀id,id∉dP o d->ρ' id=ρ id)->next (a.put o.dst v) w')->
  o.wp P a w next Q
theorem fa.nil(hlt:∀b,S b->b<w.heap.size)(B:Bd):fa E S ρ w B ([]:bI U El):=⟨by simp[aN],by simp[aN],hlt⟩
theorem bR{o:Oper}{a:Act}{d:Nat}{av:AV U El}{v:Value}(de:(execOp a.eval o).run P w=.ok (.value v) w)(hr:Rel E S ρ w av v)(hlt:∀b,S b->b<w.heap.size):
 fG P E S ρ w o a d ⟨av,[]⟩:=by
 intro next Q hn
 unfold Oper.wp;rw[de]
 exact hn v w S ρ (Step.refl hlt) hr (fa.nil hlt _) (by simp[aN]) (λ_ _=>rfl)
theorem lD(w:World)(o:Obj):(w.alloc o).heap[w.heap.size]?=some o:=heap_alloc_new w o
theorem aO{a b:Nat}(h:a≠b):Nat.beq a b=false:=by
 cases hq:Nat.beq a b with
 |false=>rfl
 |true=>exact absurd (al hq) h
theorem uX{o:Oper}{a:Act}{d:Nat}{av:AV U El}{blk:qm U El}{v:Value}{ob:Obj}(l:Loc)(hn:d∈dP o d)(hd:ρ d=none)
 (de:(execOp a.eval o).run P w=.ok (.value v) (w.alloc ob)) (hlt:∀b,S b->b<w.heap.size)
 (hl:l.n≠0->l.b=w.heap.size)
 (hr:∀ρ',ρ' d=some l->(∀id l,ρ id=some l->ρ' id=some l)->Rel E S ρ' (w.alloc ob) av v)
 (hb:∀ρ',ρ' d=some l->(∀id l,ρ id=some l->ρ' id=some l)->¬S w.heap.size->dt E S ρ' (w.alloc ob) (From w) l blk):
 fG P E S ρ w o a d ⟨av,[(d,blk)]⟩:=by
 intro next Q Xc
 unfold Oper.wp;rw[de]
 have rW:¬S w.heap.size:=λh=>by have:=hlt _ h;omega
 have e1:(ρ.set d l) d=some l:=by simp[eJ.set]
 have e2:∀id l',ρ id=some l'->(ρ.set d l) id=some l':=λid l' h=>by
  by_cases e:id=d
  ·subst e;rw[hd]at h;cases h
  ·simp[eJ.set,e,h]
 refine Xc v _ S (ρ.set d l) ⟨⟨rfl,rfl,rfl,ae,λ_=>aY _,λk hk _=>heap_alloc_old w _ k hk⟩,λ_ h=>h,λ_ h=>.inl h,e2,hlt⟩ (hr _ e1 e2) ⟨?_,?_,?_⟩ ?_ ?_
 ·intro id b hg;simp only[aN]at hg;by_cases e:d=id
  ·subst e;simp[cond]at hg;subst hg;exact⟨l,e1,hb _ e1 e2 rW⟩
  ·have:Nat.beq d id=false:=aO e;simp[this,cond]at hg
 ·intro i j b b' l1 l2 hi hj gn;exfalso;simp only[aN]at hi hj;have h1:d=i:=by
   by_cases e:d=i
   ·exact e
   ·have:Nat.beq d i=false:=aO e;simp[this,cond]at hi
  have h2:d=j:=by
   by_cases e:d=j
   ·exact e
   ·have:Nat.beq d j=false:=aO e;simp[this,cond]at hj
  omega
 ·intro b pO;have:=hlt b pO;simp;omega
 ·intro id b hg;simp only[aN]at hg;by_cases e:d=id
  ·subst e;exact hn
  ·have:Nat.beq d id=false:=aO e;simp[this,cond]at hg
 ·intro id hi;have:id≠d:=by rintro rfl;exact hi hn
  simp[eJ.set,this]
theorem pE{o:Oper}{a:Act}{d:Nat}{av:AV U El}{blk:qm U El}{v:Value}{c:Array Value}{e:TypeId}(l:Loc)(hn:d∈dP o d)(hd:ρ d=none)
 (de:(execOp a.eval o).run P w=.ok (.value v) (w.alloc (.cells c e))) (hlt:∀b,S b->b<w.heap.size)
 (hl:l.n≠0->l.b=w.heap.size)
 (hr:∀ρ',ρ' d=some l->(∀id l,ρ id=some l->ρ' id=some l)->Rel E S ρ' (w.alloc (.cells c e)) av v)
 (hb:∀ρ',ρ' d=some l->(∀id l,ρ id=some l->ρ' id=some l)->¬S w.heap.size->dt E S ρ' (w.alloc (.cells c e)) (From w) l blk):
 fG P E S ρ w o a d ⟨av,[(d,blk)]⟩:=
 uX (ob:=.cells c e) l hn hd de hlt hl hr hb
section ops
variable{o:Oper}{a:Act}{t:eH U El}{h H:bI U El}{B:Bd}{d:Nat}{k:Out U El->Option (Fin U El)}{r:Fin U El}
theorem HH{x:Operand}(ho:o.op=.move x\/o.op=.assign x)(hT:mC X.E S ρ w o t a)(hlt:∀b,S b->b<w.heap.size):fG P X.E S ρ w o a d ⟨bm t x,[]⟩:=by
 have hm:x∈o.op.operands:=by rcases ho with ho|ho<;>simp[ho,Op.operands]
 refine bR ?_ (hT.get hm) hlt;rcases ho with ho|ho<;>simp[execOp,ho]
theorem HG{c x y:Operand}{b:Bool}(ho:o.op=.pick c x y)(hc:bm t c=.bool b)(hT:mC X.E S ρ w o t a)(hlt:∀b,S b->b<w.heap.size):fG P X.E S ρ w o a d ⟨bif b then bm t x else bm t y,[]⟩:=by
 have h1:=hT.get (x:=c) (by simp[ho,Op.operands])
 have h2:=hT.get (x:=x) (by simp[ho,Op.operands])
 have h3:=hT.get (x:=y) (by simp[ho,Op.operands])
 rw[hc]at h1;generalize _Y:a.eval c=vc at h1;cases h1;refine bR (v:=if b then a.eval x else a.eval y) ?_ (by cases b<;>simpa) hlt;simp[execOp,ho,_Y,asBool]
theorem kh{av:AV U El}{v:Value}{cs:ah (AV U El)}(h:Rel E S ρ w av v)(hc:cellsOf av=some cs):v.cells.size=cs.length/\∀(j:Nat) c x,cs[j]?=some c->v.cells[j]?=some x->Rel E S ρ w c x:=by
 unfold cellsOf at hc;split at hc
 ·cases hc;cases h with|agg _ vs hl h=>exact⟨hl,h⟩
 ·cases hc
 ·cases hc
 ·rename_i h1 h2 h3;cases hc;have hv:v.cells=#[v]:=by
   cases h<;>first|rfl|(exfalso;exact h1 _ rfl)|(exfalso;exact h2 rfl)|(exfalso;exact h3 _ rfl)
  rw[hv]
  refine⟨rfl,λj c x hj hx=>?_⟩
  cases j with
  |zero=>simp at hj hx;subst hj;subst hx;exact h
  |succ j=>simp at hj
theorem P7{e:TypeId}{x:Operand}{cs:ah (AV U El)}(ho:o.op=.box e x)(hc:cellsOf (bm t x)=some cs)(hT:mC X.E S ρ w o t a)(hlt:∀b,S b->b<w.heap.size)(hd:ρ d=none):fG P X.E S ρ w o a d ⟨.ptr d 0,[(d,.box 0 cs)]⟩:=by
 have h1:=hT.get (x:=x) (by simp[ho,Op.operands])
 obtain⟨h2,h3⟩:=kh h1 hc;refine pE (v:=.pointer (some ⟨w.heap.size,0,none⟩)) (c:=(a.eval x).cells) (e:=e) ⟨w.heap.size,cs.length,0,0⟩ (by simp[dP,ho]) hd ?_ hlt (λ_=>rfl) (λρ' e1 e2=>.ptr d 0 _ e1) (λρ' e1 e2 rW=>⟨.inl rfl,rfl,λhn=>⟨aY _,rW,_,e,lD _ _,h2,λj c hj=>?_⟩⟩)
 ·simp[execOp,ho,Instr.box,newVar,newRow]
 ·have xI:j<(a.eval x).cells.size:=by rw[h2];exact(ak.1 hj).1
  refine⟨_,aC xI,?_⟩
  exact(h3 j c _ hj (aC xI)).mono (λ_ h=>h) (λb hb=>heap_alloc_old w _ b (hlt b hb)) e2
theorem K5{e:TypeId}{z:Value}{cs:ah (AV U El)}(hX:bp P X)(ho:o.op=.alloc e)(hz:xN X.zeros e=some z)(hc:cellsOf (jL z)=some cs)(hlt:∀b,S b->b<w.heap.size)(hd:ρ d=none):fG P X.E S ρ w o a d ⟨.ptr d 0,[(d,.box 0 cs)]⟩:=by
 obtain⟨i,hi,Xr⟩:=hX.z _ _ hz;obtain⟨h2,h3⟩:=kh (Rel.const (E:=X.E) (S:=S) (ρ:=ρ) (w:=w) z) hc;refine pE (v:=.pointer (some ⟨w.heap.size,0,none⟩)) (c:=z.cells) (e:=e) ⟨w.heap.size,cs.length,0,0⟩ (by simp[dP,ho]) hd ?_ hlt (λ_=>rfl) (λρ' e1 e2=>.ptr d 0 _ e1) (λρ' e1 e2 rW=>⟨.inl rfl,rfl,λhn=>⟨aY _,rW,_,e,lD _ _,h2,λj c hj=>?_⟩⟩)
 ·simp[execOp,ho,Instr.alloc,zeroValue,typeInfo,hi,Xr,newVar,newRow]
 ·have xI:j<z.cells.size:=by rw[h2];exact(ak.1 hj).1
  refine⟨_,aC xI,?_⟩
  exact(h3 j c _ hj (aC xI)).mono (λ_ h=>h) (λb hb=>heap_alloc_old w _ b (hlt b hb)) e2
theorem I6{e:TypeId}{u:U}(hX:bp P X)(ho:o.op=.alloc e)(ht:dS X.iH e=some (.uk u))(hp:0<d)(hlt: ∀b,S b->b<w.heap.size)(hd:ρ d=none)(rZ:ρ (d*1000)=none):
 fG P X.E S ρ w o a d ⟨.ptr d 0,[(d,.uk e (d*1000)),(d*1000,.rows u [])]⟩:=by
 obtain⟨hsz,_,i,hi,his,Xr⟩:=hX.td _ _ ht;have gn:d*1000≠d:=ab
 have rW:¬S w.heap.size:=λh=>by have:=hlt _ h;omega
 intro next Q hn
 have de:(execOp a.eval o).run P w=.ok (.value (.pointer (some ⟨w.heap.size,0,none⟩))) (w.alloc (.cells #[.pointer none,.slice none 0 0] e (0,0))):=by
  simp[execOp,ho,Instr.alloc,zeroValue,typeInfo,hi,Xr,newVar,newRow,Value.cells]
 unfold Oper.wp;rw[de]
 have e1:((ρ.set d ⟨w.heap.size,2,0,0⟩).set (d*1000) ⟨0,0,X.E.sz u,0⟩) d=some ⟨w.heap.size,2,0,0⟩:=by simp[eJ.set,cq gn]
 have e2:((ρ.set d ⟨w.heap.size,2,0,0⟩).set (d*1000) ⟨0,0,X.E.sz u,0⟩) (d*1000)=some ⟨0,0,X.E.sz u,0⟩:=by simp[eJ.set]
 have hold:∀k,k<w.heap.size->(w.alloc (.cells #[.pointer none,.slice none 0 0] e (0,0))).heap[k]?=w.heap[k]?:=λk hk=>heap_alloc_old w _ k hk
 refine hn _ _ S ((ρ.set d ⟨w.heap.size,2,0,0⟩).set (d*1000) ⟨0,0,X.E.sz u,0⟩) ⟨⟨rfl,rfl,rfl,ae,λ_=>aY _,λk hk _=>hold k hk⟩,λ_ h=>h,λ_ h=>.inl h,λid l h=>?_,hlt⟩ (.ptr d 0 _ e1) ⟨λid b hg=>?_,λi j b b' l l' kY lG H9 oL lV o7 pN=>?_,λb hb=>by have:=hlt b hb;simp;omega⟩ (λid b hg=>?_) (λid hid=>?_)
 ·by_cases h1:id=d
  ·subst h1;rw[hd]at h;cases h
  ·by_cases h2:id=d*1000
   ·subst h2;rw[rZ]at h;cases h
   ·simp[eJ.set,h1,h2,h]
 ·simp only[aN]at hg;by_cases h1:d=id
  ·subst h1;rw[aG]at hg;cases hg;exact⟨_,e1,rfl,aY _,rW,_,_,lD _ _,.inl rfl,(λ_ _ h=>by simp at h),.j7 _ _ e2 rfl rfl⟩
  ·rw[aO h1]at hg;simp only[cond]at hg;by_cases h2:d*1000=id
   ·subst h2;rw[aG]at hg;cases hg;exact⟨_,e2,rfl,rfl,ae,λh=>absurd rfl h⟩
   ·rw[aO h2]at hg;cases hg
 ·simp only[aN]at kY lG;by_cases h1:d=i
  ·subst h1;rw[aO H9]at lG;simp only[cond]at lG;by_cases h2:d*1000=j
   ·subst h2;rw[e2]at lV;cases lV;exact absurd rfl pN
   ·rw[aO h2]at lG;cases lG
  ·rw[aO h1]at kY;simp only[cond]at kY;by_cases h2:d*1000=i
   ·subst h2;rw[e2]at oL;cases oL;exact absurd rfl o7
   ·rw[aO h2]at kY;cases kY
 ·simp only[dP,ho]
  simp only[aN]at hg;by_cases h1:d=id
  ·simp[h1]
  ·rw[aO h1]at hg;simp only[cond]at hg;by_cases h2:d*1000=id
   ·simp[h2]
   ·rw[aO h2]at hg;cases hg
 ·simp only[dP,ho,bN,lK,or_false,not_or]at hid;simp[eJ.set,hid.1,hid.2]
theorem HF{ty:TypeId}{x:Operand}{u:UnOp}{av:AV U El}(ho:o.op=.unOp u ty x)
 (hv:(∃b,u=.not/\bm t x=.bool b/\av=.bool (!b))\/(∃kd n,u=.neg/\bm t x=.int kd n/\av=.int kd (kd.wrap (0-n)))) (hT:mC X.E S ρ w o t a) (hlt:∀b,S b->b<w.heap.size):fG P X.E S ρ w o a d ⟨av,[]⟩:=by
 have h1:=hT.get (x:=x) (by simp[ho,Op.operands])
 rcases hv with⟨b,rfl,hx,rfl⟩|⟨kd,n,rfl,hx,rfl⟩<;>rw[hx]at h1<;>generalize RG:a.eval x=vx at h1<;>cases h1
 ·exact bR (v:=.bool (!b)) (by simp[execOp,ho,RG,Op.unary]) (.bool _) hlt
 ·exact bR (v:=.int kd (kd.wrap (0-n))) (by simp[execOp,ho,RG,Op.unary,Op.intArith]) (.int _ _) hlt
theorem p8{x:Operand}(ho:o.op=.nilCheck x)(hv:(∃i f,bm t x=.ptr i f)\/(∃i j f,bm t x=.row i j f)\/(∃u xs i f,bm t x=.pel u xs i f)\/(∃cs f,bm t x=.pcs cs f))(hT:mC X.E S ρ w o t a)(hlt:∀b,S b->b<w.heap.size):fG P X.E S ρ w o a d ⟨bm t x,[]⟩:=by
 have h1:=hT.get (x:=x) (by simp[ho,Op.operands])
 refine bR ?_ h1 hlt;rcases hv with⟨_,_,e⟩|⟨_,_,_,e⟩|⟨_,_,_,_,e⟩|⟨_,_,e⟩<;>rw[e]at h1<;>generalize RG:a.eval x=vx at h1<;>cases h1<;>simp[execOp,ho,RG]
theorem F6{x:Operand}{i:Nat}{cs:ah (AV U El)}{av:AV U El}(ho:o.op=.extract x i)(hx:bm t x=.bP cs)(hi:cs[i]?=some av)(hT:mC X.E S ρ w o t a)(hlt:∀b,S b->b<w.heap.size):fG P X.E S ρ w o a d ⟨av,[]⟩:=by
 have h1:=hT.get (x:=x) (by simp[ho,Op.operands])
 rw[hx]at h1;generalize RG:a.eval x=vx at h1;cases h1 with
 |bP _ vs hl h2=>
  have hj:i<vs.size:=by rw[hl];exact(ak.1 hi).1
  refine bR (v:=vs[i]) ?_ (h2 i av _ hi (aC hj)) hlt;simp[execOp,ho,RG,Instr.extract,aC hj]
theorem DQ{f:FuncId}{aaa bs:Array Operand}(ho:o.op=.makeFunc (.func f) aaa bs)(hT:mC X.E S ρ w o t a)(hlt:∀b,S b->b<w.heap.size):fG P X.E S ρ w o a d ⟨.fn f (aaa.toList.map (bm t)) (bs.toList.map (bm t)),[]⟩:=by
 refine bR (v:=.func (.func f) (aaa.map a.eval) (bs.map a.eval)) ?_ ?_ hlt
 ·simp[execOp,ho,Instr.makeFunc]
 ·refine .fn f _ _ _ _ ae ae ?_ ?_<;>intro i c v hc hv
  ·simp only[bo,aJ,Array.getElem?_map,bO]at hc hv;obtain⟨x,hx,rfl⟩:=hc;obtain⟨y,hy,rfl⟩:=hv;rw[hx]at hy;cases hy;exact hT.get (by simp[ho,Op.operands];exact .inl (iU hx))
  ·simp only[bo,aJ,Array.getElem?_map,bO]at hc hv;obtain⟨x,hx,rfl⟩:=hc;obtain⟨y,hy,rfl⟩:=hv;rw[hx]at hy;cases hy;exact hT.get (by simp[ho,Op.operands];exact .inr (iU hx))
end ops
end
end Go.Proofs.YtfmamkmmohilgaaGreatDoor
namespace Go.Proofs.YtfmamkmmohilgaaGreatDoor
open IntKind
set_option linter.all false
open Go.RowKit
section
variable{U:Type}{El:U->Type}{P:Program}{X:Ctx U El}{S:Nat->Prop}{ρ:eJ}{w:World} [DecidableEq U] [tD]
variable{o:Oper}{a:Act}{t:eH U El}{h H:bI U El}{B:Bd}{d:Nat}{r:Fin U El}
theorem gV(b o n:Nat):Addr.add ⟨b,o,none⟩ n=⟨b,o+n,none⟩:=Addr.add_lit b o n
theorem Di{p:AV U El}{v:Value}{k:ah (AV U El)->Nat->Option (Fin U El)}(hX:bp P X)(hH:fa X.E S ρ w B H)(hs: ∀id b,aN h id=some b->aN H id=some b)(hr:Rel X.E S ρ w p v)(hv:view X h p k=some r):
 ∃cs off b o,k cs off=some r/\v=.pointer (some ⟨b,o+off,none⟩)/\∀(j:Nat) c,cs[j]?=some c->∃x,w.cell? ⟨b,o+j,none⟩=some x/\Rel X.E S ρ w c x:=by
 unfold view at hv;split at hv
 ·rename_i id off;split at hv
  ·rename_i tg cs hg;obtain⟨l,hl,hb⟩:=hH.get _ _ (hs _ _ hg)
   cases hr with
   |ptr _ _ l' dq=>
    rw[hl]at dq;cases dq;refine⟨cs,off,l.b,0,hv,ae,λj c hj=>?_⟩
    obtain⟨_,h1,h2⟩:=hb;have mQ:=(ak.1 hj).1;obtain⟨_,_,c',e,hh,h3,h4⟩:=h2 ab
    obtain⟨x,hx,CH⟩:=h4 j c hj;exact⟨x,by rw[bZ,cell_of_row w l.b j c' e (0,0) hh];exact hx,CH⟩
  ·cases hv
 ·rename_i id i off;split at hv
  ·rename_i u xs hg;obtain⟨h0,hv⟩:=aQ hv;have hi:i<xs.length:=by simpa[lU]using h0
   obtain⟨l,hl,hb⟩:=hH.get _ _ (hs _ _ hg)
   cases hr with
   |row _ _ _ l' dq=>
    rw[hl]at dq;cases dq;obtain⟨h1,h1',X1,h2⟩:=hb;refine⟨_,off,l.b,i*X.E.sz u,hv,by rw[h1],λj c hj=>?_⟩
    have hp:=hX.u.pos u;have hn:l.n≠0:=by
     have:0<xs.length*X.E.sz u:=fP ab hp;omega
    obtain⟨_,_,c',hh,h3,h4⟩:=h2 hn;have Lq:xs[i]?=some (xs.getD i (X.E.iL u)):=by simp[List.getD,az hi]
    obtain⟨x,hx,CH⟩:=h4 i _ j c Lq hj;exact⟨x,by rw[cell_of_row w l.b _ c' _ (0,0) hh];exact hx,CH⟩
  ·rename_i tg u xs hg;obtain⟨h0,hv⟩:=aQ hv;have hi:i<xs.length:=by simpa[lU]using h0
   obtain⟨l,hl,hb⟩:=hH.get _ _ (hs _ _ hg)
   cases hr with
   |row _ _ _ l' dq=>
    rw[hl]at dq;cases dq;obtain⟨_,h1,h1',X1,h2⟩:=hb;refine⟨_,off,l.b,i*X.E.sz u,hv,by rw[h1],λj c hj=>?_⟩
    have hp:=hX.u.pos u;have hn:l.n≠0:=by
     have:0<xs.length*X.E.sz u:=fP ab hp;omega
    obtain⟨_,_,c',hh,h3,h4⟩:=h2 hn;have Lq:xs[i]?=some (xs.getD i (X.E.iL u)):=by simp[List.getD,az hi]
    obtain⟨x,hx,CH⟩:=h4 i _ j c Lq hj;exact⟨x,by rw[cell_of_row w l.b _ c' _ (0,0) hh];exact hx,CH⟩
  ·cases hv
 ·rename_i u xs i off;cases hr with
  |pel _ _ _ _ b o cap hl hi=>
   refine⟨_,off,b,o+i*X.E.sz u,hv,rfl,λj c hj=>?_⟩
   have Lq:xs[i]?=some (xs.getD i (X.E.iL u)):=by simp[List.getD,az hi]
   generalize hq:Value.slice (some ⟨b,o,none⟩) xs.length cap=q at hl;cases hl with
   |jy=>exact absurd hi ae
   |au _ _ b' o' Rm val hS hc hcell hrel=>
    cases hq;exact⟨_,hcell i _ j c Lq hj,hrel i _ j c Lq hj⟩
 ·rename_i cs off;cases hr with
  |pcs _ _ b o val hS hcell hrel=>exact⟨cs,off,b,o,hv,rfl,λj c hj=>⟨_,hcell j c hj,hrel j c hj⟩⟩
 ·cases hv
theorem Cb{ty:TypeId}{td:TD U}{sz:Nat}{ag:Bool}(hk:G8 P X.E ty td)(h:xy td=some (sz,ag)):(∃d,P.underlying ty=some d/\C5 d=ag)/\(ag=true->∃i,P.info? ty=some i/\i.size=sz):=by
 cases td with
 |one=>cases h;obtain⟨d,h1,h2⟩:=hk;exact⟨⟨d,h1,h2⟩,λh=>by cases h⟩
 |bool=>cases h;exact⟨⟨_,hk,rfl⟩,λh=>by cases h⟩
 |ptr=>cases h;obtain⟨e,h1⟩:=hk;exact⟨⟨_,h1,rfl⟩,λh=>by cases h⟩
 |iface=>cases h;obtain⟨e,h1⟩:=hk;exact⟨⟨_,h1,rfl⟩,λh=>by cases h⟩
 |int k=>cases h;exact⟨⟨_,hk,rfl⟩,λh=>by cases h⟩
 |str=>cases h;exact⟨⟨_,hk,rfl⟩,λh=>by cases h⟩
 |slice u=>cases h;exact⟨⟨_,hk,rfl⟩,λh=>by cases h⟩
 |struct fs sz=>cases h;obtain⟨fields,h1,⟨i,h2,h3,_⟩,_⟩:=hk;exact⟨⟨_,h1,rfl⟩,λ_=>⟨i,h2,h3⟩⟩
 |arr n es ea sz=>cases h;obtain⟨e,h1,⟨i,h2,h3,_⟩,_⟩:=hk;exact⟨⟨_,h1,rfl⟩,λ_=>⟨i,h2,h3⟩⟩
 |uk u=>cases h
 |map u v=>cases h;exact⟨⟨_,hk,rfl⟩,λh=>by cases h⟩
 |jC u=>cases h;obtain⟨v,e,h1,_⟩:=hk;exact⟨⟨_,h1,rfl⟩,λh=>by cases h⟩
theorem BS{ty:TypeId}{sz:Nat}{ag:Bool}{cs:ah (AV U El)}{off b o:Nat}{k:AV U El->Option (Fin U El)}(ht: ∃d,P.underlying ty=some d/\C5 d=ag)(hz:ag=true-> ∃i,P.info? ty=some i/\i.size=sz)
 (hc:∀(j:Nat) c,cs[j]?=some c->∃x,w.cell? ⟨b,o+j,none⟩=some x/\Rel X.E S ρ w c x) (hp:partOf cs off sz ag k=some r):
 ∃av v,k av=some r/\(loadVar ty ⟨b,o+off,none⟩).run P w=.ok v w/\Rel X.E S ρ w av v:=by
 obtain⟨d,hd,vk⟩:=ht;unfold partOf at hp;cases ag with
 |true=>
  simp only[cond]at hp;obtain⟨h0,hp⟩:=aQ hp;have hle:off+sz<=cs.length:=aV h0;obtain⟨i,hi,hsz⟩:=hz rfl;have hcell:∀j,j<sz->w.cell? (Addr.add ⟨b,o+off,none⟩ j)=some ((w.cell? ⟨b,o+off+j,none⟩).getD undef):=λj hj=>by
   obtain⟨x,hx,_⟩:=hc (off+j) _ (az ab)
   rw[gV,fb,hx];rfl
  refine⟨_,.agg (((List.range sz).map λj=>(w.cell? ⟨b,o+off+j,none⟩).getD undef)).toArray,hp,?_,?_⟩
  ·have hl:=run_loadCells (P:=P) w ⟨b,o+off,none⟩ sz _ hcell;simp[loadVar,jR hd,vk,kT hi,hsz,hl]
  ·refine .agg _ _ (by simp;omega) λj c v hj hv=>?_
   have Vw:j<sz:=by
    have:=(ak.1 hj).1;simp at this;omega
   simp[Vw]at hv;rw[cd Vw,cg]at hj;obtain⟨x,hx,CH⟩:=hc (off+j) c hj;rw[<-fb]at hx;rw[hx]at hv;simp at hv;subst hv;exact CH
 |false=>
  simp only[cond]at hp;split at hp
  ·rename_i c pz;obtain⟨x,hx,CH⟩:=hc off c pz;exact⟨c,x,hp,by simp[loadVar,jR hd,vk,hx],CH⟩
  ·cases hp
theorem NL{ty:TypeId}{p:Operand}{td:TD U}{sz:Nat}{ag:Bool}{k:Out U El->Option (Fin U El)}(hX:bp P X)(ho:o.op=.load ty p)(gM:dS X.iH ty=some td)(vk:xy td=some (sz,ag))
 (hv:view X h (bm t p) (λcs off=>partOf cs off sz ag λv=>k ⟨v,[]⟩)=some r)
 (hT:mC X.E S ρ w o t a) (hH:fa X.E S ρ w B H) (hs:∀id b,aN h id=some b->aN H id=some b):∃out,k out=some r/\fG P X.E S ρ w o a d out:=by
 have h1:=hT.get (x:=p) (by simp[ho,Op.operands])
 obtain⟨cs,off,b,o',hk,WV,hc⟩:=Di hX hH hs h1 hv;obtain⟨ht,hz⟩:=Cb (hX.td _ _ gM) vk;obtain⟨av,v,rm,de,hr⟩:=BS ht hz hc hk;refine⟨_,rm,bR (v:=v) ?_ hr hH.lt⟩
 simp[execOp,ho,Instr.loadAt,Instr.sureAddr,WV,de]
theorem vC{s:TypeId}{fs:ah (Nat×Nat×Bool)}{sz f off Oq:Nat}{ag:Bool}(hk:G8 P X.E s (.struct fs sz))(hf:fs[f]?=some (off,Oq,ag)):
 ∃fields fl,P.underlying s=some (.struct fields)/\fields[f]?=some fl/\fl.offset=off/\(∃d,P.underlying fl.type=some d/\C5 d=ag)/\(∃i,P.info? fl.type=some i/\i.size=Oq/\i.size≠0):=by
 obtain⟨fields,h1,_,_,_,h2,h3⟩:=hk;rw[h2]at hf;simp only[bo,aJ,bO]at hf;obtain⟨fl,H_,e⟩:=hf;have hm:fl∈fields.toList:=by simpa using iU H_
 obtain⟨⟨dd,hd⟩,i,hi,rG⟩:=h3 fl hm;simp only[dw]at e;exact⟨fields,fl,h1,H_,e.1,⟨dd,hd,by rw[<-e.2.2,MH hd]⟩,⟨i,hi,by rw[<-e.2.1,Kv hi],rG⟩⟩
theorem Cq{s:TypeId}{p:Operand}{f:Nat}{fs:ah (Nat×Nat×Bool)}{sz off Oq:Nat}{ag:Bool}{k:Out U El->Option (Fin U El)}(hX:bp P X)(ho:o.op=.fieldAddr s p f)(gM:dS X.iH s=some (.struct fs sz))(hf:fs[f]?=some (off,Oq,ag))
 (hv:(match bm t p with
  |.ptr id o=>k ⟨.ptr id (o+off),[]⟩
  |.row id i o=>k ⟨.row id i (o+off),[]⟩
  |.pel u xs i o=>k ⟨.pel u xs i (o+off),[]⟩
  |.pcs cs o=>k ⟨.pcs cs (o+off),[]⟩
  |_=>none)=some r)
 (hT:mC X.E S ρ w o t a) (hlt:∀b,S b->b<w.heap.size):∃out,k out=some r/\fG P X.E S ρ w o a d out:=by
 have h1:=hT.get (x:=p) (by simp[ho,Op.operands])
 obtain⟨fields,fl,hu,H_,QN,_,⟨i,hi,_,rG⟩⟩:=vC (hX.td _ _ gM) hf;have de:∀(b o':Nat),a.eval p=.pointer (some ⟨b,o',none⟩)->(execOp a.eval o).run P w=.ok (.value (.pointer (some ⟨b,o'+off,none⟩))) w:=λb o' e=>by
  simp[execOp,ho,Instr.fieldAt,run_underlying hu,H_,Instr.sureAddr,e,fieldPlace,kT hi,rG,gV,QN]
 split at hv
 ·rename_i id o' e;rw[e]at h1;generalize hq:a.eval p=q at h1;cases h1 with|ptr _ _ l hl=>exact⟨_,hv,bR (de _ _ hq) (.ptr id (o'+off) l hl) hlt⟩
 ·rename_i id i o' e;rw[e]at h1;generalize hq:a.eval p=q at h1;cases h1 with|row _ _ _ l hl=>exact⟨_,hv,bR (de _ _ hq) (by rw[fb];exact .row id i (o'+off) l hl) hlt⟩
 ·rename_i u xs i o' e;rw[e]at h1;generalize hq:a.eval p=q at h1;cases h1 with|pel _ _ _ _ b o2 cap hl hi=>exact⟨_,hv,bR (de _ _ hq) (by rw[fb];exact .pel u xs i (o'+off) b o2 cap hl hi) hlt⟩
 ·rename_i cs o' e;rw[e]at h1;generalize hq:a.eval p=q at h1;cases h1 with|pcs _ _ b o2 val hS hcell hr=>exact⟨_,hv,bR (de _ _ hq) (by rw[fb];exact .pcs cs (o'+off) b o2 val hS hcell hr) hlt⟩
 ·cases hv
theorem DN{ty:TypeId}{sz:Nat}{ag:Bool}{cs:ah (AV U El)}{vs:Array Value}{off:Nat}{k:AV U El->Option (Fin U El)}(ht:∃d,P.underlying ty=some d/\C5 d=ag)(hz:∃i,P.info? ty=some i/\i.size=sz)
 (hl:vs.size=cs.length) (hc:∀(i:Nat) c v,cs[i]?=some c->vs[i]?=some v->Rel X.E S ρ w c v) (hp:partOf cs off sz ag k=some r):
 ∃av v,k av=some r/\(part ty vs off).run P w=.ok v w/\Rel X.E S ρ w av v:=by
 obtain⟨d,hd,vk⟩:=ht;unfold partOf at hp;cases ag with
 |true=>
  simp only[cond]at hp;obtain⟨h0,hp⟩:=aQ hp;have hle:off+sz<=cs.length:=aV h0;obtain⟨i,hi,hsz⟩:=hz;refine⟨_,.agg (vs.extract off (off+sz)),hp,by simp[part,jR hd,vk,kT hi,hsz],?_⟩
  refine .agg _ _ (by simp;omega) λj c v hj hv=>?_
  have Vw:j<sz:=by
   have:=(ak.1 hj).1;simp at this;omega
  rw[cd Vw,cg]at hj;rw[Array.getElem?_extract]at hv;split at hv
  ·exact hc (off+j) c v hj hv
  ·cases hv
 |false=>
  simp only[cond]at hp;split at hp
  ·rename_i c pz;have hj:off<vs.size:=by rw[hl];exact(ak.1 pz).1
   exact⟨c,vs[off],hp,by simp[part,jR hd,vk,aC hj],hc off c _ pz (aC hj)⟩
  ·cases hp
theorem K2{s:TypeId}{x:Operand}{f:Nat}{fs:ah (Nat×Nat×Bool)}{sz off Oq:Nat}{ag:Bool}{cs:ah (AV U El)}{k:Out U El->Option (Fin U El)}(hX:bp P X)(ho:o.op=.field s x f)(gM:dS X.iH s=some (.struct fs sz))(hf:fs[f]?=some (off,Oq,ag))
 (hx:bm t x=.agg cs) (hv:partOf cs off Oq ag (λv=>k ⟨v,[]⟩)=some r)
 (hT:mC X.E S ρ w o t a) (hlt:∀b,S b->b<w.heap.size):∃out,k out=some r/\fG P X.E S ρ w o a d out:=by
 have h1:=hT.get (x:=x) (by simp[ho,Op.operands])
 obtain⟨fields,fl,hu,H_,QN,ht,⟨i,hi,AP,rG⟩⟩:=vC (hX.td _ _ gM) hf;rw[hx]at h1;generalize hq:a.eval x=q at h1;cases h1 with
 |agg _ vs hl hc=>
  obtain⟨av,v,hk,de,hr⟩:=DN ht ⟨i,hi,AP⟩ hl hc hv;refine⟨_,hk,bR (v:=v) ?_ hr hlt⟩
  simp[execOp,ho,Instr.field,run_underlying hu,H_,asAgg,hq,QN,de]
theorem nv{i:Int}{n:Nat}(h:dV i n=true):0<=i/\i<n:=by simpa[dV,bg,bz]using h
theorem Bg{ty:TypeId}{x ix:Operand}{u:U}{kd:IntKind}{i:Int}{k:Out U El->Option (Fin U El)}(hX:bp P X)(ho:o.op=.indexAddr ty x ix)(gM:dS X.iH ty=some (.slice u))(hix:bm t ix=.int kd i)
 (hv:(match bm t x with
  |.au u' xs=>aU (decide (u'=u)) (aU (dV i xs.length) (k ⟨.pel u' xs i.toNat 0,[]⟩))
  |.cf id=>match aN h id with
   |some (.rows u' xs)=>aU (decide (u'=u)) (aU (dV i xs.length) (k ⟨.row id i.toNat 0,[]⟩))
   |some (.pZ _ u' xs)=>aU (decide (u'=u)) (aU (dV i xs.length) (k ⟨.row id i.toNat 0,[]⟩))
   |_=>none
  |.own id lo len=>match aN h id with
   |some (.rows u' xs)=>aU (decide (u'=u)) (aU (dV i len) (k ⟨.row id (lo+i.toNat) 0,[]⟩))
   |some (.box _ _)=>aU (Nat.beq lo 0) (Gh len i λq=>k ⟨.ptr id (q*X.E.sz u),[]⟩)
   |_=>none
  |_=>none)=some r)
 (hT:mC X.E S ρ w o t a) (hH:fa X.E S ρ w B H) (hs:∀id b,aN h id=some b->aN H id=some b):∃out,k out=some r/\fG P X.E S ρ w o a d out:=by
 have h1:=hT.get (x:=x) (by simp[ho,Op.operands])
 have h2:=hT.get (x:=ix) (by simp[ho,Op.operands])
 have hu:P.underlying ty=some (.slice (X.E.tid u)):=hX.td _ _ gM;obtain⟨inf,z,hi,hsz,_⟩:=hX.u.info u;rw[hix]at h2;generalize Jr:a.eval ix=q2 at h2;cases h2;have de:∀(b o' len cap:Nat),a.eval x=.slice (some ⟨b,o',none⟩) len cap->0<=i->i<len->(execOp a.eval o).run P w=.ok (.value (.pointer (some ⟨b,o'+i.toNat*X.E.sz u,none⟩))) w:=λb o' len cap e h0 hl=>by
  simp[execOp,ho,Instr.indexAt,asIntOf,Jr,run_underlying hu,e,h0,hl,kT hi,hsz,gV]
 split at hv
 ·rename_i u' xs e;obtain⟨hd,gq⟩:=aQ hv;obtain⟨hb,qv⟩:=aQ gq;clear hv gq;have hd:u'=u:=by simpa using hd
  subst hd;obtain⟨rG,AP⟩:=nv hb;rw[e]at h1;generalize hq:a.eval x=q at h1;cases h1 with
  |jy=>exfalso;simp at AP;omega
  |au _ _ b off cap val hS hc hcell hrel=>
   exact⟨_,qv,bR (de _ _ _ _ hq rG AP) (by rw[<-gg (off+_)];exact .pel u' xs i.toNat 0 b off cap (.au u' xs b off cap val hS hc hcell hrel) ab) hH.lt⟩
 ·rename_i id e;split at hv
  ·rename_i u' xs hg;obtain⟨hd,gq⟩:=aQ hv;obtain⟨hb,qv⟩:=aQ gq;clear hv gq;have hd:u'=u:=by simpa using hd
   subst hd;obtain⟨rG,AP⟩:=nv hb;obtain⟨l,hl,iV⟩:=hH.get _ _ (hs _ _ hg)
   obtain⟨b1,b2,_⟩:=iV;rw[e]at h1;generalize hq:a.eval x=q at h1;cases h1 with
   |cf _ cap l' dq hc1 hc2=>
    rw[hl]at dq;cases dq;exact⟨_,qv,bR (de _ _ _ _ hq rG (by rw[b2];exact AP)) (by rw[bZ,<-b1,<-gg (i.toNat*l.s)];exact .row id i.toNat 0 l hl) hH.lt⟩
   |j7 _ l' dq hc1 hc2=>rw[hl]at dq;cases dq;exfalso;omega
  ·rename_i tg u' xs hg;obtain⟨hd,gq⟩:=aQ hv;obtain⟨hb,qv⟩:=aQ gq;clear hv gq;have hd:u'=u:=by simpa using hd
   subst hd;obtain⟨rG,AP⟩:=nv hb;obtain⟨l,hl,iV⟩:=hH.get _ _ (hs _ _ hg)
   obtain⟨_,b1,b2,_⟩:=iV;rw[e]at h1;generalize hq:a.eval x=q at h1;cases h1 with
   |cf _ cap l' dq hc1 hc2=>
    rw[hl]at dq;cases dq;exact⟨_,qv,bR (de _ _ _ _ hq rG (by rw[b2];exact AP)) (by rw[bZ,<-b1,<-gg (i.toNat*l.s)];exact .row id i.toNat 0 l hl) hH.lt⟩
   |j7 _ l' dq hc1 hc2=>rw[hl]at dq;cases dq;exfalso;omega
  ·cases hv
 ·rename_i id lo len e;split at hv
  ·rename_i u' xs hg;obtain⟨hd,gq⟩:=aQ hv;obtain⟨hb,qv⟩:=aQ gq;clear hv gq;have hd:u'=u:=by simpa using hd
   subst hd;obtain⟨rG,AP⟩:=nv hb;obtain⟨l,hl,iV⟩:=hH.get _ _ (hs _ _ hg)
   obtain⟨b1,b2,_⟩:=iV;rw[e]at h1;generalize hq:a.eval x=q at h1;cases h1 with
   |own _ _ _ cap l' dq hc1 hc2 hc3=>
    rw[hl]at dq;cases dq;exact⟨_,qv,bR (de _ _ _ _ hq rG AP) (by rw[<-b1,<-cY,<-gg ((lo+i.toNat)*l.s)];exact .row id (lo+i.toNat) 0 l hl) hH.lt⟩
   |nH=>exfalso;omega
  ·obtain⟨hz,gq⟩:=aQ hv;obtain rfl:lo=0:=al hz;obtain⟨hb,qv⟩:=qP gq;obtain⟨rG,AP⟩:=nv hb;rw[e]at h1;generalize hq:a.eval x=q at h1;cases h1 with
   |own _ _ _ cap l' dq hc1 hc2 hc3=>
    exact⟨_,qv,bR (de _ _ _ _ hq rG AP) (by rw[Nat.zero_mul,bZ];exact .ptr id _ l' dq) hH.lt⟩
   |nH=>exfalso;omega
  ·cases hv
 ·cases hv
theorem DT{ty:TypeId}{x ix:Operand}{n es sz:Nat}{ea:Bool}{kd:IntKind}{i:Int}{k:Out U El->Option (Fin U El)}(hX:bp P X)(ho:o.op=.indexAddr ty x ix)(gM:dS X.iH ty=some (.arr n es ea sz))(hix:bm t ix=.int kd i)
 (hv:(match bm t x with
  |.ptr id off=>Gh n i λq=>k ⟨.ptr id (off+q*es),[]⟩
  |.row id j off=>Gh n i λq=>k ⟨.row id j (off+q*es),[]⟩
  |.pel u xs j off=>Gh n i λq=>k ⟨.pel u xs j (off+q*es),[]⟩
  |.pcs cs off=>Gh n i λq=>k ⟨.pcs cs (off+q*es),[]⟩
  |_=>none)=some r)
 (hT:mC X.E S ρ w o t a) (hlt:∀b,S b->b<w.heap.size):∃out,k out=some r/\fG P X.E S ρ w o a d out:=by
 have h1:=hT.get (x:=x) (by simp[ho,Op.operands])
 have h2:=hT.get (x:=ix) (by simp[ho,Op.operands])
 obtain⟨e,hu,_,⟨inf,hi,hsz⟩,_⟩:=hX.td _ _ gM;rw[hix]at h2;generalize Jr:a.eval ix=q2 at h2;cases h2;have de:∀(b o':Nat),a.eval x=.pointer (some ⟨b,o',none⟩)->dV i n=true->(execOp a.eval o).run P w=.ok (.value (.pointer (some ⟨b,o'+i.toNat*es,none⟩))) w:=λb o' e hb=>by
  obtain⟨h0,hl⟩:=nv hb;simp[execOp,ho,Instr.indexAt,asIntOf,Jr,run_underlying hu,Instr.sureAddr,e,h0,hl,kT hi,hsz,gV]
 split at hv
 ·rename_i id o' e;obtain⟨hb,hv⟩:=qP hv;rw[e]at h1;generalize hq:a.eval x=q at h1;cases h1 with|ptr _ _ l hl=>exact⟨_,hv,bR (de _ _ hq hb) (.ptr id _ l hl) hlt⟩
 ·rename_i id i o' e;obtain⟨hb,hv⟩:=qP hv;rw[e]at h1;generalize hq:a.eval x=q at h1;cases h1 with|row _ _ _ l hl=>exact⟨_,hv,bR (de _ _ hq hb) (by rw[fb];exact .row id _ _ l hl) hlt⟩
 ·rename_i u xs i o' e;obtain⟨hb,hv⟩:=qP hv;rw[e]at h1;generalize hq:a.eval x=q at h1;cases h1 with|pel _ _ _ _ b o2 cap hl hi=>exact⟨_,hv,bR (de _ _ hq hb) (by rw[fb];exact .pel u xs _ _ b o2 cap hl hi) hlt⟩
 ·rename_i cs o' e;obtain⟨hb,hv⟩:=qP hv;rw[e]at h1;generalize hq:a.eval x=q at h1;cases h1 with|pcs _ _ b o2 val hS hcell hr=>exact⟨_,hv,bR (de _ _ hq hb) (by rw[fb];exact .pcs cs _ b o2 val hS hcell hr) hlt⟩
 ·cases hv
theorem DS{ty:TypeId}{x ix:Operand}{kd:IntKind}{i:Int}{s:ah UInt8}(hX:bp P X)(ho:o.op=.index ty x ix)(gM:dS X.iH ty=some .str)(hix:bm t ix=.int kd i)(hx:bm t x=.str s)(hb:dV i s.length=true)
 (hT:mC X.E S ρ w o t a) (hlt:∀b,S b->b<w.heap.size):fG P X.E S ρ w o a d ⟨.int .u8 (s.getD i.toNat 0).toNat,[]⟩:=by
 have h1:=hT.get (x:=x) (by simp[ho,Op.operands])
 have h2:=hT.get (x:=ix) (by simp[ho,Op.operands])
 have hu:P.underlying ty=some .string:=hX.td _ _ gM;rw[hix]at h2;rw[hx]at h1;generalize hq:a.eval x=q at h1;generalize Jr:a.eval ix=q2 at h2;cases h2;cases h1;obtain⟨h0,hl⟩:=nv hb;have hj:i.toNat<s.length:=ab
 have hg:(⟨s.toArray⟩:ByteArray)[i.toNat]?=some (s.getD i.toNat 0):=by
  have hsz:i.toNat<(⟨s.toArray⟩:ByteArray).size:=by simpa[ByteArray.size]using hj
  rw[getElem?_pos (⟨s.toArray⟩:ByteArray) i.toNat hsz]
  simp[ByteArray.getElem_eq_getElem_data,List.getD,az hj]
 refine bR ?_ (.int _ _) hlt;simp[execOp,ho,Instr.index,asIntOf,hq,Jr,run_underlying hu,h0,hg]
theorem DU{ty:TypeId}{x ix:Operand}{n es sz:Nat}{ea:Bool}{kd:IntKind}{i:Int}{cs:ah (AV U El)}{k:Out U El->Option (Fin U El)}(hX:bp P X)(ho:o.op=.index ty x ix)(gM:dS X.iH ty=some (.arr n es ea sz))(hix:bm t ix=.int kd i)(hx:bm t x=.agg cs)(hb:dV i n=true)
 (hv:partOf cs (i.toNat*es) es ea (λv=>k ⟨v,[]⟩)=some r)
 (hT:mC X.E S ρ w o t a) (hlt:∀b,S b->b<w.heap.size):∃out,k out=some r/\fG P X.E S ρ w o a d out:=by
 have h1:=hT.get (x:=x) (by simp[ho,Op.operands])
 have h2:=hT.get (x:=ix) (by simp[ho,Op.operands])
 obtain⟨e,hu,_,⟨inf,hi,hsz⟩,⟨dd,hd,vk⟩⟩:=hX.td _ _ gM;rw[hix]at h2;rw[hx]at h1;generalize hq:a.eval x=q at h1;generalize Jr:a.eval ix=q2 at h2;cases h2;obtain⟨h0,hl⟩:=nv hb;cases h1 with
 |agg _ vs hlen hc=>
  obtain⟨av,v,hk,de,hr⟩:=DN ⟨dd,hd,vk⟩ ⟨inf,hi,hsz⟩ hlen hc hv;refine⟨_,hk,bR (v:=v) ?_ hr hlt⟩
  simp[execOp,ho,Instr.index,asIntOf,hq,Jr,run_underlying hu,h0,hl,kT hi,hsz,de]
end
end Go.Proofs.YtfmamkmmohilgaaGreatDoor
namespace Go.Proofs.YtfmamkmmohilgaaGreatDoor
open IntKind
set_option linter.all false
open Go.RowKit
section
variable{U:Type}{El:U->Type}{P:Program}{X:Ctx U El}{S:Nat->Prop}{ρ:eJ}{w:World} [DecidableEq U] [tD]
variable{o:Oper}{a:Act}{t:eH U El}{h H:bI U El}{B:Bd}{d:Nat}{r:Fin U El}
theorem CZ{e:TypeId}{k:Nat}(hk:xw P e k): ∀(m:Nat) (xs ys:ah (AV U El)) (n:Nat) (vx vy:Array Value) (b:Bool),
 (∀(i:Nat) c,xs[i]?=some c->∃v,vx[n+i]?=some v/\Rel X.E S ρ w c v)->(∀(i:Nat) c,ys[i]?=some c->∃v,vy[n+i]?=some v/\Rel X.E S ρ w c v)->
 gS (List.replicate m k) xs ys=some b->∀D,(Op.eqItems (D+1) e 1 vx vy (List.range' n m)).run P w=.ok b w:=by
 intro m;induction m with
 |zero=>
  intro xs ys n vx vy b hx hy hc D;simp only[List.replicate_zero]at hc;unfold gS at hc;split at hc<;>simp_all [Op.eqItems]
 |succ m ih=>
  intro xs ys n vx vy b hx hy hc D;rw[List.replicate_succ]at hc;have uv:∀(c c':AV U El) (x y:ah (AV U El)),xs=c::x->ys=c'::y->(∃v v',vx[n]?=some v/\vy[n]?=some v'/\Rel X.E S ρ w c v/\Rel X.E S ρ w c' v')/\∀b',gS (List.replicate m k) x y=some b'->(Op.eqItems (D+1) e 1 vx vy (List.range' (n+1) m)).run P w=.ok b' w:=by
   intro c c' x y ex ey;subst ex ey;obtain⟨v,hv,hr⟩:=hx 0 c rfl;obtain⟨v',eC,nP⟩:=hy 0 c' rfl;refine⟨⟨v,v',hv,eC,hr,nP⟩,λb' pO=>ih x y (n+1) vx vy b' (λi c hi=>?_) (λi c hi=>?_) pO D⟩
   ·have:=hx (i+1) c hi;rwa [show n+(i+1)=n+1+i by omega]at this
   ·have:=hy (i+1) c hi;rwa [show n+(i+1)=n+1+i by omega]at this
  rw[lJ]
  generalize TS:List.replicate m k=ts at hc uv;unfold gS at hc;split at hc
  ·cases ‹_::_=[]›
  ·rename_i MP ka av x kb bv y e1;cases e1;obtain⟨kd,hu⟩:=hk;obtain⟨⟨v,v',hv,eC,hr,nP⟩,hk⟩:=uv _ _ _ _ rfl rfl;cases hr;cases nP;cases hd:decide (ka=kb)with
   |false=>rw[hd]at hc;cases hc
   |true=>
    rw[hd]at hc;simp only[cond]at hc;have xb:ka=kb:=by simpa using hd
    subst xb;split at hc
    ·rename_i r' nP;cases hc;simp[Op.eqItems,part,jR hu,C5,hv,eC,run_equalIn_int _ _ _ _ _ _ _ hu,hk r' nP]
     split<;>simp_all
    ·cases hc
  ·rename_i MP av x bv y e1;cases e1;obtain⟨⟨v,v',hv,eC,hr,nP⟩,rm⟩:=uv _ _ _ _ rfl rfl;cases hr;cases nP;have hk:P.underlying e=some .bool:=hk;split at hc
   ·rename_i r' nP;cases hc;simp[Op.eqItems,part,jR hk,C5,hv,eC,run_equalIn_bool' _ _ _ _ _ hk,rm r' nP]
    split<;>simp_all
   ·cases hc
  ·rename_i MP av x bv y e1;cases e1;obtain⟨⟨v,v',hv,eC,hr,nP⟩,rm⟩:=uv _ _ _ _ rfl rfl;cases hr;cases nP;have hk:P.underlying e=some .string:=hk;split at hc
   ·rename_i r' nP;cases hc;simp[Op.eqItems,part,jR hk,C5,hv,eC,run_equalIn_string _ _ _ _ _ hk,rm r' nP,Lib.toList_data]
    split<;>simp_all
   ·cases hc
  ·cases hc
theorem xL{ty:TypeId}: ∀(ts:ah Nat) (xs ys:ah (AV U El)) (n:Nat) (fs:ah Field) (vx vy:Array Value) (b:Bool),
 (∀(i:Nat) (f:Field) (k:Nat),fs[i]?=some f->ts[i]?=some k->f.name≠ "_" /\f.offset=n+i/\xw P f.type k)->fs.length=ts.length->
 (∀(i:Nat) c,xs[i]?=some c->∃v,vx[n+i]?=some v/\Rel X.E S ρ w c v)->(∀(i:Nat) c,ys[i]?=some c->∃v,vy[n+i]?=some v/\Rel X.E S ρ w c v)->
 gS ts xs ys=some b->∀D,(Op.eqFields (D+1) vx vy fs).run P w=.ok b w:=by
 intro ts;induction ts with
 |nil=>
  intro xs ys n fs vx vy b hf hl hx hy hc D;have:fs=[]:=by simpa using hl
  subst this;unfold gS at hc;split at hc<;>simp_all [Op.eqFields]
 |cons k ts ih=>
  intro xs ys n fs vx vy b hf hl hx hy hc D;cases fs with
  |nil=>simp at hl
  |cons f fs=>
   obtain⟨h1,h2,h3⟩:=hf 0 f k rfl rfl;have Xw: ∀(i:Nat) (g:Field) (k:Nat),fs[i]?=some g->ts[i]?=some k->g.name≠ "_" /\g.offset=n+1+i/\xw P g.type k:=λi g k' hg hk=>by
    have:=hf (i+1) g k' hg hk;rwa [show n+(i+1)=n+1+i by omega]at this
   have dq:fs.length=ts.length:=by simpa using hl
   have uv:∀(c c':AV U El) (x y:ah (AV U El)),xs=c::x->ys=c'::y->(∃v v',vx[n]?=some v/\vy[n]?=some v'/\Rel X.E S ρ w c v/\Rel X.E S ρ w c' v')/\∀b',gS ts x y=some b'->(Op.eqFields (D+1) vx vy fs).run P w=.ok b' w:=by
    intro c c' x y ex ey;subst ex ey;obtain⟨v,hv,hr⟩:=hx 0 c rfl;obtain⟨v',eC,nP⟩:=hy 0 c' rfl;refine⟨⟨v,v',hv,eC,hr,nP⟩,λb' pO=>ih x y (n+1) fs vx vy b' Xw dq (λi c hi=>?_) (λi c hi=>?_) pO D⟩
    ·have:=hx (i+1) c hi;rwa [show n+(i+1)=n+1+i by omega]at this
    ·have:=hy (i+1) c hi;rwa [show n+(i+1)=n+1+i by omega]at this
   have W_:f.offset=n:=by simpa using h2
   unfold gS at hc;split at hc
   ·cases ‹k::ts=[]›
   ·rename_i MP ka av x kb bv y e;cases e;obtain⟨kd,hu⟩:=h3;obtain⟨⟨v,v',hv,eC,hr,nP⟩,hk⟩:=uv _ _ _ _ rfl rfl;cases hr;cases nP;cases hd:decide (ka=kb)with
    |false=>rw[hd]at hc;cases hc
    |true=>
     rw[hd]at hc;simp only[cond]at hc;have xb:ka=kb:=by simpa using hd
     subst xb;split at hc
     ·rename_i r' nP;cases hc;simp[Op.eqFields,h1,part,jR hu,C5,W_,hv,eC,run_equalIn_int _ _ _ _ _ _ _ hu,hk r' nP]
      split<;>simp_all
     ·cases hc
   ·rename_i MP av x bv y e;cases e;obtain⟨⟨v,v',hv,eC,hr,nP⟩,hk⟩:=uv _ _ _ _ rfl rfl;cases hr;cases nP;split at hc
    ·rename_i r' nP;cases hc;simp[Op.eqFields,h1,part,jR h3,C5,W_,hv,eC,run_equalIn_bool' _ _ _ _ _ h3,hk r' nP]
     split<;>simp_all
    ·cases hc
   ·rename_i MP av x bv y e;cases e;obtain⟨⟨v,v',hv,eC,hr,nP⟩,hk⟩:=uv _ _ _ _ rfl rfl;cases hr;cases nP;split at hc
    ·rename_i r' nP;cases hc;simp[Op.eqFields,h1,part,jR h3,C5,W_,hv,eC,run_equalIn_string _ _ _ _ _ h3,hk r' nP,Lib.toList_data]
     split<;>simp_all
    ·cases hc
   ·cases hc
theorem G6{op:BinOp}{x y:Int}{b:Bool}(h:AA op x y=some b):(Op.intCmp op x y).run P w=.ok (.bool b) w:=by unfold AA at h;cases op<;>simp at h<;>subst h<;>simp[Op.intCmp,bz,bg]
theorem mc{t:TypeId}{x y:Value}{b:Bool}(e:binOp .eql t x y=(do pure (.bool (<-Op.equal t x y))))(h:(Op.equalIn (9999+1) t x y).run P w=.ok b w):(binOp .eql t x y).run P w=.ok (.bool b) w:=by
 have h':(Op.equal t x y).run P w=.ok b w:=h;rw[e]
 simp only[Sem.run_bind,h',Result.andThen_ok,Sem.run_pure]
theorem mb{t:TypeId}{x y:Value}{b:Bool}(e:binOp .neq t x y=(do pure (.bool (!(<-Op.equal t x y)))))(h:(Op.equalIn (9999+1) t x y).run P w=.ok b w):(binOp .neq t x y).run P w=.ok (.bool (!b)) w:=by
 have h':(Op.equal t x y).run P w=.ok b w:=h;rw[e]
 simp only[Sem.run_bind,h',Result.andThen_ok,Sem.run_pure]
theorem Ih{t e:TypeId}(D:Nat)(hu:P.underlying t=some (.pointer e)):(Op.equalIn (D+1) t (.pointer none) (.pointer none)).run P w=.ok true w:=by simp only[Op.equalIn,Sem.run_bind,run_underlying hu,Result.andThen_ok];rfl
theorem tW{t e:TypeId}(D:Nat)(a:Addr)(hu:P.underlying t=some (.pointer e)):(Op.equalIn (D+1) t (.pointer (some a)) (.pointer none)).run P w=.ok false w:=by simp only[Op.equalIn,Sem.run_bind,run_underlying hu,Result.andThen_ok];rfl
theorem Ii{t:TypeId}{e:Array (String×TypeId)}(D:Nat)(hu:P.underlying t=some (.interface e)):(Op.equalIn (D+1) t .nilIface .nilIface).run P w=.ok true w:=by simp only[Op.equalIn,Sem.run_bind,run_underlying hu,Result.andThen_ok];rfl
theorem Ig{t:TypeId}{e:Array (String×TypeId)}(D:Nat)(u:TypeId)(v:Value)(hu:P.underlying t=some (.interface e)):(Op.equalIn (D+1) t (.iface u v) .nilIface).run P w=.ok false w:=by simp only[Op.equalIn,Sem.run_bind,run_underlying hu,Result.andThen_ok];rfl
theorem Nr(s s':ah UInt8):(⟨s.toArray⟩:ByteArray)++⟨s'.toArray⟩=⟨(s++s').toArray⟩:=by
 apply ByteArray.ext;rw[ByteArray.data_append]
 simp
set_option maxHeartbeats 1000000 in
theorem yC{t e:TypeId}(d:Nat)(ao:Addr)(n c:Nat)(hu:P.underlying t=some (.slice e)):(Op.equalIn (d+1) t (.slice (some ao) n c) (.slice none 0 0)).run P w=.ok false w:=by simp[Op.equalIn,run_underlying hu]
theorem G7{op:BinOp}{ty:TypeId}{xo yo:Operand}{x y:AV U El}{vx vy:Value}{k:AV U El->Option (Fin U El)}(hX:bp P X)(hx:Rel X.E S ρ w x vx)(hy:Rel X.E S ρ w y vy)
 (hc:y=.lN->∃v,yo=.const v) (hp:y=.j5->∃e,P.underlying ty=some (.pointer e)) (hi:y=.lN->∃e,P.underlying ty=some (.interface e)) (hb:∀b,y=.bool b->P.underlying ty=some .bool) (hsl:y=.cL->∃e,P.underlying ty=some (.slice e))
 (h:xt op (uh X.eqs ty) x y k=some r):
 ∃av v,k av=some r/\(do eqGuard op ty xo yo vx vy;binOp op ty vx vy:Sem Value).run P w=.ok v w/\Rel X.E S ρ w av v:=by
 have str:∀(s s':ah UInt8) (vx vy:Value),vx=.string ⟨s.toArray⟩->vy=.string ⟨s'.toArray⟩->(eqGuard op ty xo yo vx vy).run P w=.ok () w:=λs s' vx vy e e'=>by subst e e';cases op<;>simp[eqGuard]
 unfold xt at h;split at h
 ·rename_i ka xv kb yv;cases hx;cases hy;have hg:(eqGuard op ty xo yo (.int ka xv) (.int kb yv)).run P w=.ok () w:=by cases op<;>simp[eqGuard]
  cases op<;>dsimp only at h<;>obtain⟨h1,h2⟩:=aQ h
  case shl=>have h1:0<=yv:=by simpa[bg]using h1
            exact⟨_,_,h2,by simp[hg,binOp,Op.shift,show¬yv<0 by omega],.int _ _⟩
  case shr=>have h1:0<=yv:=by simpa[bg]using h1
            exact⟨_,_,h2,by simp[hg,binOp,Op.shift,show¬yv<0 by omega],.int _ _⟩
  all_goals (have hk:ka=kb:=by simpa using h1
             subst hk)
  case add=>exact⟨_,_,h2,by simp[hg,binOp,Op.intArith],.int _ _⟩
  case sub=>exact⟨_,_,h2,by simp[hg,binOp,Op.intArith],.int _ _⟩
  case mul=>exact⟨_,_,h2,by simp[hg,binOp,Op.intArith],.int _ _⟩
  case quo=>obtain⟨h3,h4⟩:=aQ h2
            have h3:yv≠0:=by simpa using h3
            exact⟨_,_,h4,by simp[hg,binOp,Op.intDiv,h3],.int _ _⟩
  case rem=>obtain⟨h3,h4⟩:=aQ h2
            have h3:yv≠0:=by simpa using h3
            exact⟨_,_,h4,by simp[hg,binOp,Op.intDiv,h3],.int _ _⟩
  case and=>exact⟨_,_,h2,by simp[hg,binOp,Op.intBits],.int _ _⟩
  case or=>exact⟨_,_,h2,by simp[hg,binOp,Op.intBits],.int _ _⟩
  case xor=>exact⟨_,_,h2,by simp[hg,binOp,Op.intBits],.int _ _⟩
  all_goals (split at h2
             ·rename_i b pO;first
               |(simp[AA]at pO;done)
               |exact⟨_,_,h2,by simp only[Sem.run_bind,hg,Result.andThen_ok,binOp];simp;exact G6 pO,.bool _⟩
             ·cases h2)
 ·rename_i s s';cases hx;cases hy;have hg:=str s s' _ _ rfl rfl;have e1:(⟨s.toArray⟩:ByteArray).toList=s:=by rw[Lib.toList_data]
  have e2:(⟨s'.toArray⟩:ByteArray).toList=s':=by rw[Lib.toList_data]
  cases op<;>dsimp only at h
  case add=>
   obtain⟨h1,h2⟩:=aQ h;have h1:s.length+s'.length<=9223372036854775807:=by simpa[bU]using h1
   have hz:¬((((⟨s.toArray⟩:ByteArray).size+(⟨s'.toArray⟩:ByteArray).size:Nat):Int)>i64.max):=by
    simp[ByteArray.size,IntKind.max,IntKind.signed,IntKind.bits];omega
   exact⟨_,_,h2,by simp only[Sem.run_bind,hg,Result.andThen_ok,binOp,Op.stringOp,if_neg hz,Nr,Sem.run_pure],.str _⟩
  all_goals first
   |(cases h;done)
   |exact⟨_,_,h,by simp only[Sem.run_bind,hg,Result.andThen_ok,binOp,Op.stringOp,e1,e2,slt,Sem.run_pure],.bool _⟩
 ·rename_i b b';cases hx;cases hy;have hu:=hb b' rfl;have he:=run_equalIn_bool' (P:=P) w 9999 ty b b' hu;cases op<;>dsimp only at h
  case eql=>exact⟨_,_,h,by simp only[Sem.run_bind,show(eqGuard .eql ty xo yo (.bool b) (.bool b')).run P w=.ok () w from by simp[eqGuard],Result.andThen_ok];exact mc rfl he,.bool _⟩
  case neq=>exact⟨_,_,h,by simp only[Sem.run_bind,show(eqGuard .neq ty xo yo (.bool b) (.bool b')).run P w=.ok () w from by simp[eqGuard],Result.andThen_ok];exact mb rfl he,.bool _⟩
  all_goals cases h
 ·rename_i cx cy;cases hx with
  |agg _ ax Ju ZD=>
   cases hy with
   |agg _ ay Zq ZC=>
    have key:∀b,uh X.eqs ty≠[]->gS (uh X.eqs ty) cx cy=some b->(Op.equalIn 10000 ty (.agg ax) (.agg ay)).run P w=.ok b w/\(eqGuard op ty xo yo (.agg ax) (.agg ay)).run P w=.ok () w:=by
     intro b gn hb;have MU:∀(i:Nat) c,cx[i]?=some c->∃v,ax[0+i]?=some v/\Rel X.E S ρ w c v:=λi c hc=>by
      have hj:i<ax.size:=by rw[Ju];exact(ak.1 hc).1
      exact⟨_,by rw[bZ];exact aC hj,ZD i c _ hc (aC hj)⟩
     have _P:∀(i:Nat) c,cy[i]?=some c->∃v,ay[0+i]?=some v/\Rel X.E S ρ w c v:=λi c hc=>by
      have hj:i<ay.size:=by rw[Zq];exact(ak.1 hc).1
      exact⟨_,by rw[bZ];exact aC hj,ZC i c _ hc (aC hj)⟩
     rcases hX.eq ty gn with⟨fields,hu,mq,heq,hlen,hf⟩|⟨n,e,ie,k,hu,hi,XD,heq,hts,hk⟩
     case inr=>
      refine⟨?_,run_eqGuard_agg w op ty xo yo ax ay heq⟩
      rw[show(10000:Nat)=9999+1 from rfl,run_equalIn_array w 9999 ax ay hu hi,XD,k_]
      rw[hts]at hb;exact CZ hk n cx cy 0 ax ay b MU _P hb 9998
     have Uk:P.fieldsOf ty=fields:=by simp[Program.fieldsOf,hu]
     refine⟨?_,run_eqGuard_agg w op ty xo yo ax ay heq⟩
     rw[show(10000:Nat)=9999+1 from rfl,run_equalIn_agg w 9999 ty ax ay (by rw[Uk];exact hu) mq,Uk]
     have:=xL (X:=X) (P:=P) (S:=S) (ρ:=ρ) (w:=w) (ty:=ty) (uh X.eqs ty) cx cy 0 fields.toList ax ay b (λi f k' h1 h2=>by have:=hf i f k' h1 h2;simpa using this) hlen
      (λi c hc=>by
       have hj:i<ax.size:=by rw[Ju];exact(ak.1 hc).1
       exact⟨_,by rw[bZ];exact aC hj,ZD i c _ hc (aC hj)⟩)
      (λi c hc=>by
       have hj:i<ay.size:=by rw[Zq];exact(ak.1 hc).1
       exact⟨_,by rw[bZ];exact aC hj,ZC i c _ hc (aC hj)⟩) hb 9998
     exact this
    split at h
    ·cases CJ:(uh X.eqs ty).isEmpty with
     |true=>rw[CJ]at h;cases h
     |false=>
      rw[CJ]at h;simp only[cond]at h;split at h
      ·rename_i b hb;obtain⟨k1,k2⟩:=key b (by intro e;rw[e]at CJ;cases CJ) hb;exact⟨_,_,h,by simp only[Sem.run_bind,k2,Result.andThen_ok];rw[run_eql_struct,k1];rfl,.bool _⟩
      ·cases h
    ·cases CJ:(uh X.eqs ty).isEmpty with
     |true=>rw[CJ]at h;cases h
     |false=>
      rw[CJ]at h;simp only[cond]at h;split at h
      ·rename_i b hb;obtain⟨k1,k2⟩:=key b (by intro e;rw[e]at CJ;cases CJ) hb;exact⟨_,_,h,by simp only[Sem.run_bind,k2,Result.andThen_ok];rw[run_neq_struct,k1];rfl,.bool _⟩
      ·cases h
    ·cases h
 ·obtain⟨e,hu⟩:=hp rfl;cases hx;cases hy;cases op<;>dsimp only at h
  case eql=>exact⟨_,_,h,by simp only[Sem.run_bind,show(eqGuard .eql ty xo yo (.pointer none) (.pointer none)).run P w=.ok () w from by simp[eqGuard],Result.andThen_ok];exact mc rfl (Ih _ hu),.bool _⟩
  case neq=>exact⟨_,_,h,by simp only[Sem.run_bind,show(eqGuard .neq ty xo yo (.pointer none) (.pointer none)).run P w=.ok () w from by simp[eqGuard],Result.andThen_ok];exact mb rfl (Ih _ hu),.bool _⟩
  all_goals cases h
 ·obtain⟨e,hu⟩:=hp rfl;cases hx;cases hy;cases op<;>dsimp only at h
  case eql=>exact⟨_,_,h,by simp only[Sem.run_bind,show∀a,(eqGuard .eql ty xo yo (.pointer (some a)) (.pointer none)).run P w=.ok () w from λa=>by simp[eqGuard],Result.andThen_ok];exact mc rfl (tW _ _ hu),.bool _⟩
  case neq=>exact⟨_,_,h,by simp only[Sem.run_bind,show∀a,(eqGuard .neq ty xo yo (.pointer (some a)) (.pointer none)).run P w=.ok () w from λa=>by simp[eqGuard],Result.andThen_ok];exact mb rfl (tW _ _ hu),.bool _⟩
  all_goals cases h
 ·obtain⟨e,hu⟩:=hp rfl;cases hx;cases hy;cases op<;>dsimp only at h
  case eql=>exact⟨_,_,h,by simp only[Sem.run_bind,show∀a,(eqGuard .eql ty xo yo (.pointer (some a)) (.pointer none)).run P w=.ok () w from λa=>by simp[eqGuard],Result.andThen_ok];exact mc rfl (tW _ _ hu),.bool _⟩
  case neq=>exact⟨_,_,h,by simp only[Sem.run_bind,show∀a,(eqGuard .neq ty xo yo (.pointer (some a)) (.pointer none)).run P w=.ok () w from λa=>by simp[eqGuard],Result.andThen_ok];exact mb rfl (tW _ _ hu),.bool _⟩
  all_goals cases h
 ·obtain⟨e,hu⟩:=hp rfl;cases hx;cases hy;cases op<;>dsimp only at h
  case eql=>exact⟨_,_,h,by simp only[Sem.run_bind,show∀a,(eqGuard .eql ty xo yo (.pointer (some a)) (.pointer none)).run P w=.ok () w from λa=>by simp[eqGuard],Result.andThen_ok];exact mc rfl (tW _ _ hu),.bool _⟩
  case neq=>exact⟨_,_,h,by simp only[Sem.run_bind,show∀a,(eqGuard .neq ty xo yo (.pointer (some a)) (.pointer none)).run P w=.ok () w from λa=>by simp[eqGuard],Result.andThen_ok];exact mb rfl (tW _ _ hu),.bool _⟩
  all_goals cases h
 ·obtain⟨e,hu⟩:=hi rfl;obtain⟨cv,rfl⟩:=hc rfl;cases hx;cases hy;cases op<;>dsimp only at h
  case eql=>exact⟨_,_,h,by simp only[Sem.run_bind,show(eqGuard .eql ty xo (.const cv) .nilIface .nilIface).run P w=.ok () w from by simp[eqGuard],Result.andThen_ok];exact mc rfl (Ii _ hu),.bool _⟩
  case neq=>exact⟨_,_,h,by simp only[Sem.run_bind,show(eqGuard .neq ty xo (.const cv) .nilIface .nilIface).run P w=.ok () w from by simp[eqGuard],Result.andThen_ok];exact mb rfl (Ii _ hu),.bool _⟩
  all_goals cases h
 ·obtain⟨e,hu⟩:=hi rfl;cases hx;cases hy;cases op<;>dsimp only at h
  case eql=>exact⟨_,_,h,by simp only[Sem.run_bind,show∀t v,(eqGuard .eql ty xo yo (.iface t v) .nilIface).run P w=.ok () w from λt v=>by simp[eqGuard],Result.andThen_ok];exact mc rfl (Ig _ _ _ hu),.bool _⟩
  case neq=>exact⟨_,_,h,by simp only[Sem.run_bind,show∀t v,(eqGuard .neq ty xo yo (.iface t v) .nilIface).run P w=.ok () w from λt v=>by simp[eqGuard],Result.andThen_ok];exact mb rfl (Ig _ _ _ hu),.bool _⟩
  all_goals cases h
 ·obtain⟨e,hu⟩:=hsl rfl;rename_i u xs;have key:∀(ne:0<xs.length),∃ao n c,vx=.slice (some ao) n c:=λne=>by
   cases hx with
   |jy=>simp at ne
   |au _ _ b off cap=>exact⟨_,_,_,rfl⟩
  cases hy;cases op<;>dsimp only at h
  case eql=>
   obtain⟨hl,h⟩:=aQ h;obtain⟨ao,n,c,rfl⟩:=key (by simpa[lU]using hl)
   exact⟨_,_,h,by simp only[Sem.run_bind,show(eqGuard .eql ty xo yo (.slice (some ao) n c) (.slice none 0 0)).run P w=.ok () w from by simp[eqGuard],Result.andThen_ok];exact mc rfl (yC _ ao n c hu),.bool _⟩
  case neq=>
   obtain⟨hl,h⟩:=aQ h;obtain⟨ao,n,c,rfl⟩:=key (by simpa[lU]using hl)
   exact⟨_,_,h,by simp only[Sem.run_bind,show(eqGuard .neq ty xo yo (.slice (some ao) n c) (.slice none 0 0)).run P w=.ok () w from by simp[eqGuard],Result.andThen_ok];exact mb rfl (yC _ ao n c hu),.bool _⟩
  all_goals cases h
 ·cases h
end
end Go.Proofs.YtfmamkmmohilgaaGreatDoor
namespace Go.Proofs.YtfmamkmmohilgaaGreatDoor
open IntKind
set_option linter.all false
open Go.RowKit
section
variable{U:Type}{El:U->Type}{P:Program}{X:Ctx U El}{S:Nat->Prop}{ρ:eJ}{w:World} [DecidableEq U] [tD]
variable{o:Oper}{a:Act}{t:eH U El}{h H:bI U El}{B:Bd}{d:Nat}{r:Fin U El}
theorem K4{op:BinOp}{ty yt:TypeId}{x y:Operand}{k:Out U El->Option (Fin U El)}(hX:bp P X)(ho:o.op=.binOp op ty x y yt)(hb:tu X ty y (bm t y)=true)
 (hv:xt op (uh X.eqs ty) (bm t x) (bm t y) (λv=>k ⟨v,[]⟩)=some r) (hT:mC X.E S ρ w o t a) (hlt:∀b,S b->b<w.heap.size):∃out,k out=some r/\fG P X.E S ρ w o a d out:=by
 have h1:=hT.get (x:=x) (by simp[ho,Op.operands])
 have h2:=hT.get (x:=y) (by simp[ho,Op.operands])
 obtain⟨av,v,hk,de,hr⟩:=G7 (xo:=x) (yo:=y) hX h1 h2
  (λe=>by
   rw[e]at hb;unfold tu at hb;dsimp only at hb;split at hb
   ·cases y<;>first|exact⟨_,rfl⟩|(cases hb;done)
   ·cases hb)
  (λe=>by
   rw[e]at hb;unfold tu at hb;dsimp only at hb;split at hb
   ·rename_i e';exact hX.td _ _ e'
   ·cases hb)
  (λe=>by
   rw[e]at hb;unfold tu at hb;dsimp only at hb;split at hb
   ·rename_i e';exact hX.td _ _ e'
   ·cases hb)
  (λb e=>by
   rw[e]at hb;unfold tu at hb;dsimp only at hb;split at hb
   ·rename_i e';exact hX.td _ _ e'
   ·cases hb)
  (λe=>by
   rw[e]at hb;unfold tu at hb;dsimp only at hb;split at hb
   ·rename_i u e';exact⟨_,hX.td _ _ e'⟩
   ·cases hb) hv
 refine⟨_,hk,bR (v:=v) ?_ hr hlt⟩
 have e:(execOp a.eval o).run P w=(do let v<-(do eqGuard op ty x y (a.eval x) (a.eval y);binOp op ty (a.eval x) (a.eval y):Sem Value);pure (Next.value v):Sem Next).run P w:=by simp only[execOp,ho]
 rw[e]
 simp only[Sem.run_bind]at de⊢;rw[de]
 rfl
theorem mm{Pj:Bool}{len cap:Nat}{lo hi:Option Operand}{kl kg:IntKind}{l g:Int}(hl:(match lo with|some o=>bm t o|none=>AV.int .i64 0)=.int kl l)(hg:(match hi with|some o=>bm t o|none=>AV.int .i64 len)=.int kg g)
 (gr:∀x,lo=some x->Rel X.E S ρ w (bm t x) (a.eval x)) (hhi:∀x,hi=some x->Rel X.E S ρ w (bm t x) (a.eval x)) (h0:0<=l) (h1:l<=g) (h2:g<=len) (h3:len<=cap):
 (Instr.sliceBounds Pj len cap (lo.map a.eval) (hi.map a.eval) none).run P w=.ok (l.toNat,g.toNat,cap) w:=by
 have Vv:∀x,lo=some x->a.eval x=.int kl l:=λx e=>by
  have:=gr x e;subst e;simp only at hl;rw[hl]at this;generalize hq:a.eval x=q at this;cases this;rfl
 have Zw:∀x,hi=some x->a.eval x=.int kg g:=λx e=>by
  have:=hhi x e;subst e;simp only at hg;rw[hg]at this;generalize hq:a.eval x=q at this;cases this;rfl
 have e1:g<=(cap:Int):=ab
 have e2:0<=g:=ab
 have e3:l<=(g.toNat:Int):=ab
 cases lo with
 |none=>
  simp only[AV.int.injEq]at hl;obtain⟨_,rfl⟩:=hl;cases hi with
  |none=>simp only[AV.int.injEq]at hg;obtain⟨_,rfl⟩:=hg;simp[Instr.sliceBounds]
  |some y=>simp[Instr.sliceBounds,Zw y rfl,Instr.sliceBound,asIntOf,e1,e2]
 |some x=>
  cases hi with
  |none=>simp only[AV.int.injEq]at hg;obtain⟨_,rfl⟩:=hg;simp at e3;simp[Instr.sliceBounds,Vv x rfl,Instr.sliceBound,asIntOf,h0,h1]
  |some y=>(simp[Instr.sliceBounds,Vv x rfl,Zw y rfl,Instr.sliceBound,asIntOf,e1,e2,e3,h0];try (intro hh;omega))
theorem pJ{l g:Int}{n:Nat}(h:(bg 0 l&&bg l g&&bg g n)=true):0<=l/\l<=g/\g<=n:=by simp[bg]at h;omega
theorem Hc{α:Type}{s:ah α}{l g:Int}{i:Nat}{x:α}(h0:0<=l)(h:(sub s l g)[i]?=some x):s[l.toNat+i]?=some x/\i<g.toNat-l.toNat:=by
 unfold sub at h;rw[fQ]at h;split at h
 ·rename_i hi;exact⟨by rw[cg]at h;exact h,hi⟩
 ·cases h
theorem Nq{α:Type}{s:ah α}{l g:Int}(h0:0<=l)(h1:l<=g)(h2:g<=s.length):(sub s l g).length=g.toNat-l.toNat:=by unfold sub;simp;omega
theorem NZ{u:U}{xs:ah (El u)}{ao:Option Addr}{cap:Nat}{l g:Int}(hr:Rel X.E S ρ w (.au u xs) (.slice ao xs.length cap))(h0:0<=l)(h1:l<=g)(h2:g<=xs.length):
 Rel X.E S ρ w (.au u (sub xs l g)) (.slice (if cap=l.toNat then ao else ao.map (·.add (l.toNat*X.E.sz u))) (g.toNat-l.toNat) (cap-l.toNat)):=by
 have hlen:=Nq h0 h1 h2;by_cases he:g.toNat-l.toNat=0
 ·have:sub xs l g=[]:=bq (by rw[hlen];exact he)
  rw[this,he]
  exact .jy u _ _
 ·generalize hq:Value.slice ao xs.length cap=q at hr;cases hr with
  |jy=>simp at h2;omega
  |au _ _ b off Rm val hS hc hcell hrel=>
   cases hq;rw[if_neg ab,<-hlen]
   simp only[eK,gV]
   refine .au u _ b _ _ (λi j=>val (l.toNat+i) j) hS ab (λi x j c hi hj=>?_) (λi x j c hi hj=>hrel _ x j c (Hc h0 hi).1 hj)
   have:=hcell _ x j c (Hc h0 hi).1 hj;rwa [show off+(l.toNat+i)*X.E.sz u+j=off+l.toNat*X.E.sz u+i*X.E.sz u+j by rw[cY];omega]at this
theorem K1{ty:TypeId}{x:Operand}{lo hi:Option Operand}{k:Out U El->Option (Fin U El)}(hX:bp P X)(ho:o.op=.slice ty x lo hi none)
 (hv:evalOp X o t h d k=some r)
 (hT:mC X.E S ρ w o t a) (hH:fa X.E S ρ w B H) (hs:∀id b,aN h id=some b->aN H id=some b):∃out,k out=some r/\fG P X.E S ρ w o a d out:=by
 have h1:=hT.get (x:=x) (by simp[ho,Op.operands])
 have gr:∀y,lo=some y->Rel X.E S ρ w (bm t y) (a.eval y):=λy e=>hT.get (by simp[ho,Op.operands,e])
 have hhi:∀y,hi=some y->Rel X.E S ρ w (bm t y) (a.eval y):=λy e=>hT.get (by simp[ho,Op.operands,e])
 simp only[evalOp,ho]at hv;have IQ:∀(u:U) (ao:Option Addr) (len cap:Nat) (l g:Int),P.underlying ty=some (.slice (X.E.tid u))->a.eval x=.slice ao len cap->(Instr.sliceBounds true len cap (lo.map a.eval) (hi.map a.eval) none).run P w=.ok (l.toNat,g.toNat,cap) w->
  (execOp a.eval o).run P w=.ok (.value (.slice (if cap=l.toNat then ao else ao.map (·.add (l.toNat*X.E.sz u))) (g.toNat-l.toNat) (cap-l.toNat))) w:=by
  intro u ao len cap l g hu e hb;obtain⟨inf,z,ku,hsz,_⟩:=hX.u.info u;simp[execOp,ho,Instr.sliceAt,run_underlying hu,Instr.slice,e,hb,kT ku,hsz]
 split at hv
 ·rename_i s gM hx;split at hv
  ·rename_i kl l kg g hl hg;obtain⟨hb,gq⟩:=aQ hv;obtain⟨b0,b1,b2⟩:=pJ hb;have hu:P.underlying ty=some .string:=hX.td _ _ gM;rw[hx]at h1;generalize hq:a.eval x=q at h1;cases h1;have Jq:=mm (P:=P) (Pj:=false) (cap:=s.length) hl hg gr hhi b0 b1 b2 (aY _)
   have hsz:(⟨s.toArray⟩:ByteArray).size=s.length:=by simp[ByteArray.size]
   refine⟨_,gq,bR (v:=.string ⟨(sub s l g).toArray⟩) ?_ (.str _) hH.lt⟩
   have hex:(⟨s.toArray⟩:ByteArray).extract l.toNat g.toNat=⟨(sub s l g).toArray⟩:=by
    apply ByteArray.ext;apply f_;rw[Lib.extract_data]
    rfl
   simp[execOp,ho,Instr.sliceAt,run_underlying hu,Instr.slice,hq,hsz,Jq,hex]
  ·cases hv
 ·rename_i u u' xs gM hx;split at hv
  ·rename_i kl l kg g hl hg;obtain⟨hd,gq⟩:=aQ hv;obtain⟨hb,qv⟩:=aQ gq;have hd:u'=u:=by simpa using hd
   clear hv gq;subst hd;obtain⟨b0,b1,b2⟩:=pJ hb;have hu:P.underlying ty=some (.slice (X.E.tid u')):=hX.td _ _ gM;rw[hx]at h1;generalize hq:a.eval x=q at h1;have hlen:∃ao cap,q=.slice ao xs.length cap/\xs.length<=cap:=by
    cases h1 with
    |jy _ ao cap=>exact⟨ao,cap,rfl,eS _⟩
    |au _ _ b off cap val hS hc hcell hrel=>exact⟨_,_,rfl,hc⟩
   obtain⟨ao,cap,rfl,si⟩:=hlen;have Jq:=mm (P:=P) (Pj:=true) hl hg gr hhi b0 b1 b2 si;exact⟨_,qv,bR (IQ u' ao _ cap l g hu hq Jq) (NZ h1 b0 b1 b2) hH.lt⟩
  ·cases hv
 ·rename_i u id gM hx;split at hv
  ·rename_i u' xs Dd;split at hv
   ·rename_i kl l kg g hl hg;obtain⟨hd,gq⟩:=aQ hv;obtain⟨hb,qv⟩:=aQ gq;have hd:u'=u:=by simpa using hd
    clear hv gq;subst hd;obtain⟨b0,b1,b2⟩:=pJ hb;have hu:P.underlying ty=some (.slice (X.E.tid u')):=hX.td _ _ gM;obtain⟨lc,tR,iV⟩:=hH.get _ _ (hs _ _ Dd)
    obtain⟨c1,c2,c3,_⟩:=iV;rw[hx]at h1;generalize hq:a.eval x=q at h1;cases h1 with
    |cf _ cap l' dq hc1 hc2=>
     rw[tR]at dq;cases dq;rw[c2]at hq hc2;have Jq:=mm (P:=P) (Pj:=true) hl hg gr hhi b0 b1 b2 hc2;refine⟨_,qv,bR (IQ u' _ _ cap l g hu hq Jq) ?_ hH.lt⟩
     by_cases he:g.toNat-l.toNat=0
     ·rw[he];exact .nH _ _ _ _
     ·rw[if_neg ab,<-c1]
      simp only[eK,gV,bZ]
      exact .own id l.toNat _ _ lc tR (by rw[show l.toNat+(cap-l.toNat)=cap by omega];exact hc1) ab ab
    |j7 _ l' dq hc1 hc2=>
     rw[tR]at dq;cases dq;have hx0:xs.length=0:=ab
     have Jq:=mm (P:=P) (Pj:=true) (len:=0) (cap:=0) hl (by rw[hx0]at hg;exact hg) gr hhi b0 b1 ab (aY _)
     refine⟨_,qv,bR (IQ u' _ _ 0 l g hu hq Jq) ?_ hH.lt⟩
     rw[show g.toNat-l.toNat=0 by omega];exact .nH _ _ _ _
   ·cases hv
  ·cases hv
 ·rename_i u id Tk len gM hx;split at hv
  ·rename_i u' xs Dd;split at hv
   ·rename_i kl l kg g hl hg;obtain⟨hd,gq⟩:=aQ hv;obtain⟨hb,qv⟩:=aQ gq;have hd:u'=u:=by simpa using hd
    clear hv gq;subst hd;obtain⟨b0,b1,b2⟩:=pJ hb;have hu:P.underlying ty=some (.slice (X.E.tid u')):=hX.td _ _ gM;obtain⟨lc,tR,iV⟩:=hH.get _ _ (hs _ _ Dd)
    obtain⟨c1,c2,c3,_⟩:=iV;rw[hx]at h1;generalize hq:a.eval x=q at h1;cases h1 with
    |own _ _ _ cap l' dq hc1 hc2 hc3=>
     rw[tR]at dq;cases dq;have Jq:=mm (P:=P) (Pj:=true) hl hg gr hhi b0 b1 b2 hc2;refine⟨_,qv,bR (IQ u' _ _ cap l g hu hq Jq) ?_ hH.lt⟩
     by_cases he:g.toNat-l.toNat=0
     ·rw[he];exact .nH _ _ _ _
     ·rw[if_neg ab,<-c1]
      simp only[eK,gV]
      rw[<-cY]
      exact .own id (Tk+l.toNat) _ _ lc tR (by rw[show Tk+l.toNat+(cap-l.toNat)=Tk+cap by omega];exact hc1) ab ab
    |nH _ _ ao cap=>
     have Jq:=mm (P:=P) (Pj:=true) (len:=0) (cap:=cap) hl hg gr hhi b0 b1 ab (eS _)
     refine⟨_,qv,bR (IQ u' _ _ cap l g hu hq Jq) ?_ hH.lt⟩
     rw[show g.toNat-l.toNat=0 by omega];exact .nH _ _ _ _
   ·cases hv
  ·cases hv
 ·rename_i u gM hx;split at hv
  ·rename_i kl l kg g hl hg;obtain⟨hb,gq⟩:=aQ hv;obtain⟨b0,b1,b2⟩:=pJ (n:=0) hb;have hu:P.underlying ty=some (.slice (X.E.tid u)):=hX.td _ _ gM;rw[hx]at h1;generalize hq:a.eval x=q at h1;cases h1;have Jq:=mm (P:=P) (Pj:=true) (len:=0) (cap:=0) hl hg gr hhi b0 b1 ab (aY _)
   have el:l.toNat=0:=ab
   have eg:g.toNat=0:=ab
   have:=IQ u none 0 0 l g hu hq Jq;rw[el,eg]at this;exact⟨_,gq,bR this .cL hH.lt⟩
  ·cases hv
 ·cases hv
theorem Ks{ty:TypeId}{td:TD U}(hk:G8 P X.E ty td):∃d,P.underlying ty=some d:=by
 cases td with
 |one=>obtain⟨d,h,_⟩:=hk;exact⟨d,h⟩
 |bool=>exact⟨_,hk⟩
 |ptr=>obtain⟨e,h⟩:=hk;exact⟨_,h⟩
 |iface=>obtain⟨e,h⟩:=hk;exact⟨_,h⟩
 |int k=>exact⟨_,hk⟩
 |str=>exact⟨_,hk⟩
 |slice u=>exact⟨_,hk⟩
 |struct fs sz=>obtain⟨f,h,_⟩:=hk;exact⟨_,h⟩
 |arr n es ea sz=>obtain⟨e,h,_⟩:=hk;exact⟨_,h⟩
 |uk u=>exact hk.2.1
 |map u v=>exact⟨_,hk⟩
 |jC u=>obtain⟨v,e,h,_⟩:=hk;exact⟨_,h⟩
theorem F7{s ty:TypeId}{x:Operand}{k:Out U El->Option (Fin U El)}(hX:bp P X)(ho:o.op=.convert s ty x)
 (hv:evalOp X o t h d k=some r)
 (hT:mC X.E S ρ w o t a) (hlt:∀b,S b->b<w.heap.size):∃out,k out=some r/\fG P X.E S ρ w o a d out:=by
 have h1:=hT.get (x:=x) (by simp[ho,Op.operands])
 simp only[evalOp,ho]at hv;split at hv
 ·rename_i td b hts gM hx;obtain⟨ds,Jy⟩:=Ks (hX.td _ _ hts)
  have hu:P.underlying ty=some .string:=hX.td _ _ gM;rw[hx]at h1;generalize hq:a.eval x=q at h1;cases h1;refine⟨_,hv,bR ?_ (.str _) hlt⟩
  simp only[execOp,ho,hq,convert,Sem.run_bind,run_underlying Jy,run_underlying hu,Result.andThen_ok]
  cases ds<;>rfl
 ·rename_i td kd k' n hts gM hx;obtain⟨ds,Jy⟩:=Ks (hX.td _ _ hts)
  have hu:P.underlying ty=some (.int kd):=hX.td _ _ gM;rw[hx]at h1;generalize hq:a.eval x=q at h1;cases h1;refine⟨_,hv,bR ?_ (.int _ _) hlt⟩
  simp only[execOp,ho,hq,convert,Sem.run_bind,run_underlying Jy,run_underlying hu,Result.andThen_ok]
  cases ds<;>simp[Conv.intToInt]
 ·rename_i u b hts gM hx;obtain⟨AQ,hk⟩:=aQ hv;obtain⟨yx,MV⟩:=hX.u.RW u AQ;have hu:P.underlying ty=some (.slice (X.E.tid u)):=hX.td _ _ gM;have hs:P.underlying s=some .string:=hX.td _ _ hts;rw[hx]at h1;generalize hq:a.eval x=q at h1;cases h1;refine⟨_,hk,λnext Q hn=>?_⟩
  have de:=run_bytes_of_string (P:=P) w s ty (X.E.tid u) ⟨b.toArray⟩ hs hu MV;obtain⟨C,hC⟩:∃C:Array Value,C=bytesRow ⟨b.toArray⟩ (grownCap w (⟨b.toArray⟩:ByteArray).size 0 (X.E.tid u)):=⟨_,rfl⟩
  rw[<-hC]at de;have Ee:(execOp a.eval o).run P w=.ok (.value (.slice (some ⟨w.heap.size,0,none⟩) (⟨b.toArray⟩:ByteArray).size (grownCap w (⟨b.toArray⟩:ByteArray).size 0 (X.E.tid u)))) (w.drew.alloc (.cells C (X.E.tid u) (C.size,C.size+1))):=by
   simp only[execOp,ho,hq,Sem.run_bind,Sem.run_pure,de,Result.andThen_ok]
  have XH:(⟨b.toArray⟩:ByteArray).size=b.length:=by simp[ByteArray.size]
  unfold Oper.wp;rw[Ee]
  refine hn _ _ (λk=>S k\/k=w.heap.size) ρ ⟨⟨rfl,rfl,rfl,ae,λ_=>Nat.le_succ _,λk hk _=>heap_alloc_old w.drew _ k hk⟩,λ_ h=>.inl h,λk h=>by rcases h with h|h;exact .inl h;exact .inr (Nat.le_of_eq h.symm),λ_ _ h=>h,hlt⟩ ?_ ⟨by simp[aN],by simp[aN],λk h=>by
   rcases h with h|h
   ·exact fk (hlt k h) ae
   ·rw[h];simp⟩ (by simp[aN]) (λ_ _=>rfl)
  rw[XH]
  have si:=grownCap_ge w b.length 0 (X.E.tid u)
  have hl:=yx.len b;rw[<-hl]
  rw[<-hl]at si;refine Rel.au u (X.E.Pc u b) w.heap.size 0 _ (λi _=>.int .u8 (b.getD i 0).toNat) (.inr rfl) si (λi x j c hi hj=>?_) (λi x j c hi hj=>?_)
  ·have rX:i<b.length:=by rw[<-hl];exact(ak.1 hi).1
   obtain⟨y,h1,h2⟩:=yx.enc b i rX;rw[hi]at h1;cases h1;rw[h2]at hj;match j,hj with
   |0,hj=>
    rw[yx.sz,mD,gg,bZ,cell_of_row _ w.heap.size _ _ _ _ (heap_alloc_new w.drew _),hC]
    simp[bytesRow,Array.getElem?_append,rX,List.getD]
  ·have rX:i<b.length:=by rw[<-hl];exact(ak.1 hi).1
   obtain⟨y,h1,h2⟩:=yx.enc b i rX;rw[hi]at h1;cases h1;rw[h2]at hj;match j,hj with
   |0,hj=>cases hj;exact .int _ _
 ·rename_i u u' xs hts gM hx;obtain⟨iu,hk⟩:=aQ hv;simp only[aj,decide_eq_true_eq]at iu;obtain⟨rfl,AQ⟩:=iu;obtain⟨yx,MV⟩:=hX.u.RW _ AQ;have hu:P.underlying s=some (.slice (X.E.tid u')):=hX.td _ _ hts;have hd:P.underlying ty=some .string:=hX.td _ _ gM;have Xm:=yx.Ts xs;rw[hx]at h1;generalize hq:a.eval x=q at h1;refine⟨_,hk,bR (v:=.string ⟨(X.E.PK u' xs).toArray⟩) ?_ (.str _) hlt⟩
  simp only[execOp,ho,hq,Sem.run_bind,Sem.run_pure]
  cases h1 with
  |jy _ ao cap=>
   have:X.E.PK u' []=[]:=bq Xm;rw[this,run_convert_bytes_string w s ty (X.E.tid u') ao 0 cap hu MV hd]
   cases ao with
   |none=>rfl
   |some ad=>rw[run_bytesToString w ad 0 cap [] (by simp[loadCells,loadCellsFrom])];rfl
  |au _ _ b off cap val hS hc hcell hr=>
   rw[show xs.length=(X.E.PK u' xs).length from Xm.symm,run_convert_bytes_back w s ty (X.E.tid u') ⟨b,off,none⟩ cap (X.E.PK u' xs) hu MV hd (λj hj=>?_)]
   ·rfl
   ·rw[Xm]at hj;obtain⟨c8,h1,h2⟩:=yx.UT xs j xs[j] (az hj)
    have h0:(X.E.enc u' xs[j])[0]?=some (.int .u8 c8.toNat):=by rw[h2];rfl
    have e1:=hcell j xs[j] 0 _ (az hj) h0;have e2:=hr j xs[j] 0 _ (az hj) h0;rw[yx.sz,mD,gg]at e1;rw[gV,e1]
    generalize val j 0=vv at e2;cases e2;obtain⟨_,h3⟩:=ak.1 h1;rw[h3]
 ·rename_i u hts gM hx;obtain⟨AQ,hk⟩:=aQ hv;obtain⟨yx,MV⟩:=hX.u.RW _ AQ;have hu:P.underlying s=some (.slice (X.E.tid u)):=hX.td _ _ hts;have hd:P.underlying ty=some .string:=hX.td _ _ gM;rw[hx]at h1;generalize hq:a.eval x=q at h1;cases h1;refine⟨_,hk,bR ?_ (.str _) hlt⟩
  simp only[execOp,ho,hq,Sem.run_bind,Sem.run_pure,run_convert_bytes_string w s ty (X.E.tid u) none 0 0 hu MV hd]
  rfl
 ·cases hv
theorem P6{aaa:Array Operand}{ts:Array TypeId}{x:Operand}{n:Nat}(ho:o.op=.call ⟨.builtin .len,aaa,ts⟩)(has:aaa.toList=[x])(hl:lenOf h (bm t x)=some n)(JZ:∀id,bm t x≠ .mp id)
 (RH:∃ty,ts[0]?=some ty/\((∃s,bm t x=.str s)->P.underlying ty=some .string)/\((¬ ∃s,bm t x=.str s)->∃e,P.underlying ty=some (.slice e)))
 (hT:mC X.E S ρ w o t a) (hH:fa X.E S ρ w B H) (hs:∀id b,aN h id=some b->aN H id=some b):fG P X.E S ρ w o a d ⟨.int .i64 n,[]⟩:=by
 have ha:aaa=#[x]:=by apply f_;simpa using has
 subst ha;have h1:=hT.get (x:=x) (by simp[ho,Op.operands,Call.operands])
 obtain⟨ty,TN,hs1,hs2⟩:=RH;have de:∀v,(Builtin.len_ ts o.type #[a.eval x]).run P w=.ok v w->(execOp a.eval o).run P w=.ok (.value v) w:=λv e=>by
  simp[execOp,ho,resolve,invoke,builtin,e]
 have sl:∀ao len cap,(¬ ∃s,bm t x=.str s)->a.eval x=.slice ao len cap->(Builtin.len_ ts o.type #[a.eval x]).run P w=.ok (.int .i64 len) w:=λao len cap hn e=>by
  obtain⟨el,hu⟩:=hs2 hn;simp[Builtin.len_,TN,e,run_underlying hu,goInt]
 unfold lenOf at hl;split at hl
 ·rename_i s hx;cases hl;have hu:=hs1 ⟨_,hx⟩
  rw[hx]at h1;generalize hq:a.eval x=q at h1;cases h1;refine bR (de (.int .i64 s.length) ?_) (.int _ _) hH.lt;have hsz:(⟨s.toArray⟩:ByteArray).size=s.length:=by simp[ByteArray.size]
  simp[Builtin.len_,TN,hq,run_underlying hu,goInt,hsz]
 ·rename_i hx;cases hl;rw[hx]at h1;have hn:¬ ∃s,bm t x=.str s:=by rw[hx];rintro⟨s,e⟩;cases e
  generalize hq:a.eval x=q at h1;cases h1;exact bR (de _ (sl _ _ _ hn hq)) (.int _ _) hH.lt
 ·rename_i u xs hx;cases hl;rw[hx]at h1;have hn:¬ ∃s,bm t x=.str s:=by rw[hx];rintro⟨s,e⟩;cases e
  generalize hq:a.eval x=q at h1;cases h1 with
  |jy=>exact bR (de _ (sl _ _ _ hn hq)) (.int _ _) hH.lt
  |au _ _ b off cap val hS hc hcell hrel=>exact bR (de _ (sl _ _ _ hn hq)) (.int _ _) hH.lt
 ·rename_i id hx;split at hl
  ·rename_i u xs hg;cases hl;obtain⟨lc,tR,iV⟩:=hH.get _ _ (hs _ _ hg)
   obtain⟨c1,c2,c3,_⟩:=iV;rw[hx]at h1;have hn:¬ ∃s,bm t x=.str s:=by rw[hx];rintro⟨s,e⟩;cases e
   generalize hq:a.eval x=q at h1;cases h1 with
   |cf _ cap l' dq hc1 hc2=>rw[tR]at dq;cases dq;rw[<-c2];exact bR (de _ (sl _ _ _ hn hq)) (.int _ _) hH.lt
   |j7 _ l' dq hc1 hc2=>rw[tR]at dq;cases dq;rw[<-c2,hc2];exact bR (de _ (sl _ _ _ hn hq)) (.int _ _) hH.lt
  ·cases hl
 ·rename_i id lo len hx;cases hl;rw[hx]at h1;have hn:¬ ∃s,bm t x=.str s:=by rw[hx];rintro⟨s,e⟩;cases e
  generalize hq:a.eval x=q at h1;cases h1 with
  |own _ _ _ cap l' dq hc1 hc2 hc3=>exact bR (de _ (sl _ _ _ hn hq)) (.int _ _) hH.lt
  |nH=>exact bR (de _ (sl _ _ _ hn hq)) (.int _ _) hH.lt
 ·rename_i id hx;exact absurd hx (JZ id)
 ·cases hl
theorem BO{aaa:Array Operand}{ts:Array TypeId}{x y:Operand}{ka kb:IntKind}{m n:Int}{isMax:Bool}(ho:o.op=.call ⟨.builtin (if isMax then .max else .min),aaa,ts⟩)(has:aaa.toList=[x,y])(hx:bm t x=.int ka m)(hy:bm t y=.int kb n)
 (hT:mC X.E S ρ w o t a) (hlt:∀b,S b->b<w.heap.size):fG P X.E S ρ w o a d ⟨.int ka (if isMax then(bif bz m n then n else m)else(bif bz n m then n else m)),[]⟩:=by
 have ha:aaa=#[x,y]:=by apply f_;simpa using has
 subst ha;have h1:=hT.get (x:=x) (by simp[ho,Op.operands,Call.operands])
 have h2:=hT.get (x:=y) (by simp[ho,Op.operands,Call.operands])
 rw[hx]at h1;rw[hy]at h2;generalize hq:a.eval x=q at h1;generalize Jr:a.eval y=q2 at h2;cases h1;cases h2;refine bR ?_ (.int _ _) hlt;cases isMax
 ·simp[execOp,ho,resolve,invoke,builtin,hq,Jr,Builtin.min_,Builtin.min2,bz,cond_eq_ite]
 ·simp[execOp,ho,resolve,invoke,builtin,hq,Jr,Builtin.max_,Builtin.max2,bz,cond_eq_ite]
end
end Go.Proofs.YtfmamkmmohilgaaGreatDoor
