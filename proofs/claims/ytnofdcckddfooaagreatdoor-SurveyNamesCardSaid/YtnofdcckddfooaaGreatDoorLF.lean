/- Abstract values and the abstract run of a function's code: a plain Lean function that mirrors the model on values whose slices are lists. -/
import Derived.Calls
import Derived.LoopN
import Derived.Laws.Sem
import Derived.Below
import Derived.Lib.IndexBytes
import Derived.Laws.StructEq
import Derived.Laws.MakeOwn
import Derived.Laws.AppendOwn
import Derived.ChangeKeysEq
namespace Go.Proofs.YtnofdcckddfooaaGreatDoor
set_option linter.unusedSectionVars false
set_option linter.unusedSimpArgs false
set_option linter.unusedVariables false
inductive AV (U:Type) (El:U→Type):Type where
  | any
  | bool (b:Bool)
  | int (k:IntKind) (n:Int)
  | str (s:List UInt8)
  | nilp | nils | nili | nilf | nilm
  | agg (cs:List (AV U El))
  | tup (cs:List (AV U El))
  | lst (u:U) (xs:List (El u))
  | ful (id:Nat)
  | own (id lo len:Nat)
  | ptr (id off:Nat)
  | row (id i off:Nat)
  | pel (u:U) (xs:List (El u)) (i off:Nat)
  | pcs (cs:List (AV U El)) (off:Nat)
  | fn (f:FuncId) (first caps:List (AV U El))
  | err
  | mp (id:Nat)
  | fmp (u v:U) (es:List (El u×El v))
inductive Blk (U:Type) (El:U→Type):Type where
  | rows (u:U) (xs:List (El u))
  | box (t:Nat) (cs:List (AV U El))
  | bld (T:TypeId) (j:Nat)
  | map (u v:U) (es:List (El u×El v))
  | amap (u:U) (ks:List (El u)) (cs:List (AV U El))
inductive TD (U:Type):Type where
  | one
  | bool
  | ptr
  | iface
  | int (k:IntKind)
  | str
  | slice (u:U)
  | struct (fs:List (Nat×Nat×Bool)) (sz:Nat)
  | arr (n es:Nat) (ea:Bool) (sz:Nat)
  | bld (u:U)
  | map (u v:U)
  | amap (u:U)
structure Univ (U:Type) (El:U→Type) where
  enc:(u:U)→El u→List (AV U El)
  dec:(u:U)→List (AV U El)→Option (El u)
  dflt:(u:U)→El u
  sz:U→Nat
  by_:U→Nat
  tid:U→TypeId
  agg:U→Bool
  fl:U→Bool
  G:World→Prop
  keq:(u:U)→El u→El u→Bool
  kok:U→Bool
  vok:U→Bool
  arrU:TypeId→Option U:=fun _=>none
  boxS:TypeId→Nat:=fun _=>0
def cH {K:Type} (eq:K→K→Bool):List K→K→Option Nat
  | [],_=>none
  | a :: l,x=>bif eq x a then some 0 else (cH eq l x).map (· + 1)
def ia {K V:Type} (eq:K→K→Bool):List (K×V)→K→Option V
  | [],_=>none
  | p :: l,x=>bif eq x p.1 then some p.2 else ia eq l x
def dP {K V:Type} (eq:K→K→Bool):List (K×V)→K→V→List (K×V)
  | [],x,v=>[(x,v)]
  | p :: l,x,v=>bif eq x p.1 then (x,v) :: l else p :: dP eq l x v
def bp {K V:Type} (eq:K→K→Bool) (l:List (K×V)) (x:K) (d:V):V:=(ia eq l x).getD d
def jV {K V:Type} (eq:K→K→Bool) (l:List (K×V)) (x:K):Bool:=(ia eq l x).isSome
section
variable {U:Type} {El:U→Type}
def ib (E:Univ U El) (u:U) (x:El u):AV U El:=bif E.agg u then .agg (E.enc u x) else (E.enc u x).headD .any
def jW (E:Univ U El) (u:U) (a:AV U El):Option (El u) :=
  match a with
  | .agg cs=>bif E.agg u then E.dec u cs else none
  | .any=>none
  | .tup _=>none
  | a=>bif E.agg u then none else E.dec u [a]
def AV.ment (id:Nat):AV U El→Bool
  | .agg cs=>mentL cs
  | .tup cs=>mentL cs
  | .pcs cs _=>mentL cs
  | .fn _ a b=>mentL a||mentL b
  | .ful j=>j == id
  | .own j _ _=>j == id
  | .ptr j _=>j == id
  | .row j _ _=>j == id
  | .mp j=>j == id
  | _=>false
where
  mentL:List (AV U El)→Bool
    | []=>false
    | c :: cs=>AV.ment id c||mentL cs
def AV.flat:AV U El→Bool
  | .agg cs=>flatL cs
  | .tup cs=>flatL cs
  | .bool _ | .int _ _ | .str _ | .nilp | .nils | .nili | .nilf | .nilm | .err=>true
  | .ful _ | .own _ _ _=>true
  | _=>false
where
  flatL:List (AV U El)→Bool
    | []=>true
    | c :: cs=>AV.flat c&&flatL cs
def AV.cell:AV U El→Bool
  | .bool _ | .int _ _ | .str _ | .nilp | .nils | .nili | .nilf | .nilm | .err | .lst _ _ | .fmp _ _ _ | .pel _ _ _ _=>true
  | _=>false
def AV.one:AV U El→Bool
  | .any | .agg _ | .tup _=>false
  | _=>true
def AV.kill (id:Nat) (a:AV U El):AV U El:=bif a.ment id then .any else a
abbrev az (U:Type) (El:U→Type):=List (Nat×Blk U El)
def ac:az U El→Nat→Option (Blk U El)
  | [],_=>none
  | (j,b) :: h,id=>bif Nat.beq j id then some b else ac h id
def eL:az U El→Nat→az U El
  | [],_=>[]
  | (j,b) :: h,id=>bif Nat.beq j id then eL h id else (j,b) :: eL h id
def Blk.kill (id:Nat):Blk U El→Blk U El
  | .rows u xs => .rows u xs
  | .box t cs => .box t (cs.map (AV.kill id))
  | .bld T j=>bif Nat.beq j id then .box 0 [.any,.any] else .bld T j
  | .map u v es => .map u v es
  | .amap u ks cs => .amap u ks (cs.map (AV.kill id))
def qm (id:Nat):az U El→az U El
  | []=>[]
  | (j,b) :: h=>(j,b.kill id) :: qm id h
abbrev ba (U:Type) (El:U→Type):=List (Nat×AV U El)
def aK:ba U El→Nat→AV U El
  | [],_ => .any
  | (j,v) :: t,i=>bif Nat.beq j i then v else aK t i
def kj (id:Nat):ba U El→ba U El
  | []=>[]
  | (j,v) :: t=>(j,v.kill id) :: kj id t
def AV.ren (σ:Nat→Nat):AV U El→AV U El
  | .agg cs => .agg (renL cs)
  | .tup cs => .tup (renL cs)
  | .pcs cs o => .pcs (renL cs) o
  | .fn f a b => .fn f (renL a) (renL b)
  | .ful j => .ful (σ j)
  | .own j lo len => .own (σ j) lo len
  | .ptr j o => .ptr (σ j) o
  | .row j i o => .row (σ j) i o
  | .mp j => .mp (σ j)
  | .any => .any
  | .bool b => .bool b
  | .int k n => .int k n
  | .str s => .str s
  | .nilp => .nilp
  | .nils => .nils
  | .nili => .nili
  | .nilf => .nilf
  | .nilm => .nilm
  | .lst u xs => .lst u xs
  | .pel u xs i o => .pel u xs i o
  | .err => .err
  | .fmp u v es => .fmp u v es
where
  renL:List (AV U El)→List (AV U El)
    | []=>[]
    | c :: cs=>AV.ren σ c :: renL cs
def Blk.ren (σ:Nat→Nat) (tg:Nat):Blk U El→Blk U El
  | .rows u xs => .rows u xs
  | .box _ cs => .box tg (cs.map (AV.ren σ))
  | .bld T j => .bld T (σ j)
  | .map u v es => .map u v es
  | .amap u ks cs => .amap u ks (cs.map (AV.ren σ))
def Blk.tag:Blk U El→Nat
  | .box t _=>t
  | _=>0
structure St (U:Type) (El:U→Type) where
  t:ba U El
  h:az U El
def St.forget (st:St U El) (id:Nat):St U El:=⟨kj id st.t,qm id (eL st.h id)⟩
def St.forgets (st:St U El):List Nat→St U El
  | []=>st
  | id :: ids=>(st.forget id).forgets ids
def jX (id j:Nat):Nat→Nat:=fun i=>bif Nat.beq i id then j else i
def ic (id j:Nat):ba U El→ba U El
  | []=>[]
  | (i,v) :: t=>(i,v.ren (jX id j)) :: ic id j t
def j8 (id j:Nat):az U El→az U El
  | []=>[]
  | (i,b) :: h=>(jX id j i,b.ren (jX id j) b.tag) :: j8 id j h
def St.rename (st:St U El) (id j:Nat):St U El:=⟨ic id j st.t,j8 id j st.h⟩
abbrev Fin (U:Type) (El:U→Type):=AV U El×az U El
def aa {R:Type} (b:Bool) (x y:R):R:=bif b then x else y
def chk {R:Type} (b:Bool) (x:Option R):Option R:=bif b then x else none
noncomputable def amb {R:Type} (x y:Option R):Option R:=@ite _ (x=y) (Classical.propDecidable _) x none
theorem rY {R:Type} {x y:Option R} {r:R} (h:amb x y=some r):x=some r∧y=some r:=by
  unfold amb at h
  split at h
  · rename_i e; exact ⟨h,e ▸ h⟩
  · cases h
def ilt (a b:Int):Bool:=decide (a < b)
def ile (a b:Int):Bool:=decide (a≤b)
def nlt (a b:Nat):Bool:=decide (a < b)
def nle (a b:Nat):Bool:=decide (a≤b)
def slt (a b:List UInt8):Bool:=Op.bytesLess a b
def inb (i:Int) (n:Nat):Bool:=ile 0 i&&ilt i n
abbrev MSp (U:Type) (El:U→Type):=List (AV U El)→az U El→(AV U El→az U El→Option (Fin U El))→Option (Fin U El)
structure Out (U:Type) (El:U→Type) where
  v:AV U El
  new:az U El
structure Ctx (U:Type) (El:U→Type) where
  E:Univ U El
  tds:List (TypeId×TD U)
  zeros:List (TypeId×Value)
  eqs:List (TypeId×List Nat)
  spec:FuncId→List (AV U El)→(AV U El→az U El→Option (Fin U El))→Option (Fin U El)
  fuel:Nat
  nt:Nat
  dspec:FuncId→Option (MSp U El)
  mspec:FuncId→Option (Nat→List (AV U El)→St U El→(AV U El→St U El→Option (Fin U El))→Option (Fin U El))
def aV:List (TypeId×TD U)→TypeId→Option (TD U)
  | [],_=>none
  | (j,d) :: l,t=>bif Nat.beq j t then some d else aV l t
def jY:List (TypeId×Value)→TypeId→Option Value
  | [],_=>none
  | (j,d) :: l,t=>bif Nat.beq j t then some d else jY l t
def constAV:Value→AV U El
  | .bool b => .bool b
  | .int k n => .int k n
  | .string s => .str s.data.toList
  | .pointer none => .nilp
  | .slice none 0 0 => .nils
  | .map none => .nilm
  | .nilFunc => .nilf
  | .nilIface => .nili
  | .agg cs => .agg (constL cs.toList)
  | .tuple cs => .tup (constL cs.toList)
  | _ => .any
where
  constL:List Value→List (AV U El)
    | []=>[]
    | .bool b :: l => .bool b :: constL l
    | .int k n :: l => .int k n :: constL l
    | .string s :: l => .str s.data.toList :: constL l
    | .pointer none :: l => .nilp :: constL l
    | .slice none 0 0 :: l => .nils :: constL l
    | .map none :: l => .nilm :: constL l
    | .nilFunc :: l => .nilf :: constL l
    | .nilIface :: l => .nili :: constL l
    | _ :: l => .any :: constL l
def oget (t:ba U El):Operand→AV U El
  | .tmp i=>aK t i
  | .const v=>constAV v
  | .global _ => .any
  | .func f => .fn f [] []
variable [DecidableEq U]
def mz (X : Ctx U El) (h : az U El) (td : Option (TD U)) : AV U El → Option (AV U El)
  | .ful id => match ac h id with
    | some (.rows u xs)=>some (.lst u xs)
    | _=>none
  | .own id lo len => match ac h id with
    | some (.rows u xs)=>some (.lst u ((xs.drop lo).take len))
    | _=>none
  | .nils => match td with
    | some (.slice u)=>some (.lst u [])
    | _=>some .nils
  | .bool b=>some (.bool b)
  | .int k n=>some (.int k n)
  | .str s=>some (.str s)
  | .nilp=>some .nilp
  | .nili=>some .nili
  | .nilf=>some .nilf
  | .nilm=>some .nilm
  | .err=>some .err
  | .lst u xs=>some (.lst u xs)
  | .pel u xs i o=>some (.pel u xs i o)
  | .fmp u v es=>some (.fmp u v es)
  | .mp id => match ac h id with
    | some (.map u v es)=>some (.fmp u v es)
    | _=>none
  | _=>none
def fg (X : Ctx U El) (h : az U El) : List (AV U El) → Option (List (AV U El))
  | []=>some []
  | c :: cs => match mz X h none c with
    | some d => match fg X h cs with
      | some ds=>some (d :: ds)
      | none=>none
    | none=>none
def mB (X : Ctx U El) (h : az U El) (td : Option (TD U)) : AV U El → Option (AV U El)
  | .agg cs => match fg X h cs with
    | some ds=>some (.agg ds)
    | none=>none
  | .ptr id off => match ac h id with
    | some (.box _ cs) => match fg X h cs with
      | some ds=>some (.pcs ds off)
      | none=>none
    | _=>none
  | .pcs cs off=>match fg X h cs with
      | some ds=>some (.pcs ds off)
      | none=>none
  | a=>mz X h td a
def gh (X : Ctx U El) (h : az U El) : List (AV U El) → Option (List (AV U El))
  | []=>some []
  | c :: cs => match mB X h none c with
    | some d => match gh X h cs with
      | some ds=>some (d :: ds)
      | none=>none
    | none=>none
def mC (X : Ctx U El) (h : az U El) (td : Option (TD U)) : AV U El → Option (AV U El)
  | .ptr id off => match ac h id with
    | some (.box _ cs) => match gh X h cs with
      | some ds=>some (.pcs ds off)
      | none=>none
    | _=>none
  | .pcs cs off=>match gh X h cs with
      | some ds=>some (.pcs ds off)
      | none=>none
  | a=>mB X h td a
def gi (X : Ctx U El) (h : az U El) : List (AV U El) → Option (List (AV U El))
  | []=>some []
  | c :: cs => match mC X h none c with
    | some d => match gi X h cs with
      | some ds=>some (d :: ds)
      | none=>none
    | none=>none
def rZ (X : Ctx U El) (h : az U El) (td : Option (TD U)) : AV U El → Option (AV U El)
  | .fn f a b => match gi X h a with
    | some a' => match gi X h b with
      | some b'=>some (.fn f a' b')
      | none=>none
    | none=>none
  | a=>mC X h td a
def iW (X : Ctx U El) (h : az U El) : List (AV U El) → List TypeId → Option (List (AV U El))
  | [],_=>some []
  | c :: cs, ts => match rZ X h (match ts with | t :: _ => aV X.tds t | [] => none) c with
    | some d => match iW X h cs (ts.drop 1) with
      | some ds=>some (d :: ds)
      | none=>none
    | none=>none
def nn (X : Ctx U El) (h : az U El) (p : AV U El) (k : List (AV U El) → Nat → Option (Fin U El)) : Option (Fin U El) :=
  match p with
  | .ptr id off => match ac h id with
    | some (.box _ cs)=>k cs off
    | _=>none
  | .row id i off => match ac h id with
    | some (.rows u xs)=>chk (nlt i xs.length) (k (X.E.enc u (xs.getD i (X.E.dflt u))) off)
    | _=>none
  | .pel u xs i off=>k (X.E.enc u (xs.getD i (X.E.dflt u))) off
  | .pcs cs off=>k cs off
  | _=>none
def cW (cs : List (AV U El)) (off sz : Nat) (ag : Bool) (k : AV U El → Option (Fin U El)) : Option (Fin U El) :=
  bif ag then chk (Nat.ble (off+sz) cs.length) (k (.agg ((cs.drop off).take sz)))
  else match cs[off]? with
    | some c=>k c
    | none=>none
def jF:TD U→Option (Nat×Bool)
  | .one=>some (1,false)
  | .bool=>some (1,false)
  | .ptr=>some (1,false)
  | .iface=>some (1,false)
  | .int _=>some (1,false)
  | .str=>some (1,false)
  | .slice _=>some (1,false)
  | .struct _ sz=>some (sz,true)
  | .arr _ _ _ sz=>some (sz,true)
  | .bld _=>none
  | .map _ _=>some (1,false)
  | .amap _=>some (1,false)
def gG:List (TypeId×List Nat)→TypeId→List Nat
  | [],_=>[]
  | (j,d) :: l,t=>bif Nat.beq j t then d else gG l t
def bo:List Nat→List (AV U El)→List (AV U El)→Option Bool
  | [],[],[]=>some true
  | 0 :: ts,.int k a :: x,.int k' b :: y=>bif decide (k=k') then match bo ts x y with | some r=>some ((a == b)&&r) | none=>none else none
  | 1 :: ts,.bool a :: x,.bool b :: y=>match bo ts x y with | some r=>some ((a == b)&&r) | none=>none
  | 2 :: ts,.str a :: x,.str b :: y=>match bo ts x y with | some r=>some ((a == b)&&r) | none=>none
  | _,_,_=>none
def km (op:BinOp) (a b:Int):Option Bool :=
  match op with
  | .eql=>some (a == b)
  | .neq=>some (a != b)
  | .lss=>some (ilt a b)
  | .leq=>some (ile a b)
  | .gtr=>some (ilt b a)
  | .geq=>some (ile b a)
  | _=>none
def iX (op : BinOp) (ts : List Nat) (a b : AV U El) (k : AV U El → Option (Fin U El)) : Option (Fin U El) :=
  match a,b with
  | .int ka x, .int kb y =>
    match op with
    | .shl=>chk (ile 0 y) (k (.int ka (ka.wrap (x * 2 ^ min y.toNat ka.bits))))
    | .shr=>chk (ile 0 y) (k (.int ka (x.fdiv (2 ^ min y.toNat ka.bits))))
    | .add=>chk (decide (ka=kb)) (k (.int ka (ka.wrap (x+y))))
    | .sub=>chk (decide (ka=kb)) (k (.int ka (ka.wrap (x - y))))
    | .mul=>chk (decide (ka=kb)) (k (.int ka (ka.wrap (x * y))))
    | .quo=>chk (decide (ka=kb)) (chk (y != 0) (k (.int ka (ka.wrap (x.tdiv y)))))
    | .rem=>chk (decide (ka=kb)) (chk (y != 0) (k (.int ka (x.tmod y))))
    | _ => chk (decide (ka = kb)) (match km op x y with
      | some r=>k (.bool r)
      | none=>none)
  | .str x, .str y =>
    match op with
    | .add=>chk (nle (x.length+y.length) 9223372036854775807) (k (.str (x++y)))
    | .eql=>k (.bool (x == y))
    | .neq=>k (.bool (!(x == y)))
    | .lss=>k (.bool (slt x y))
    | .leq=>k (.bool (slt x y||(x == y)))
    | .gtr=>k (.bool (!(slt x y||(x == y))))
    | .geq=>k (.bool (!(slt x y)))
    | _=>none
  | .bool x, .bool y =>
    match op with
    | .eql=>k (.bool (x == y))
    | .neq=>k (.bool (!(x == y)))
    | _=>none
  | .agg x, .agg y =>
    match op with
    | .eql => bif ts.isEmpty then none else match bo ts x y with
      | some r=>k (.bool r)
      | none=>none
    | .neq => bif ts.isEmpty then none else match bo ts x y with
      | some r=>k (.bool (!r))
      | none=>none
    | _=>none
  | .nilp,.nilp=>match op with | .eql=>k (.bool true) | .neq=>k (.bool false) | _=>none
  | .ptr _ _,.nilp=>match op with | .eql=>k (.bool false) | .neq=>k (.bool true) | _=>none
  | .row _ _ _,.nilp=>match op with | .eql=>k (.bool false) | .neq=>k (.bool true) | _=>none
  | .pel _ _ _ _,.nilp=>match op with | .eql=>k (.bool false) | .neq=>k (.bool true) | _=>none
  | .nili,.nili=>match op with | .eql=>k (.bool true) | .neq=>k (.bool false) | _=>none
  | .err,.nili=>match op with | .eql=>k (.bool false) | .neq=>k (.bool true) | _=>none
  | .lst _ xs,.nils=>match op with | .eql=>chk (nlt 0 xs.length) (k (.bool false)) | .neq=>chk (nlt 0 xs.length) (k (.bool true)) | _=>none
  | _,_=>none
def lenOf (h : az U El) : AV U El → Option Nat
  | .str s=>some s.length
  | .nils=>some 0
  | .lst _ xs=>some xs.length
  | .ful id => match ac h id with
    | some (.rows _ xs)=>some xs.length
    | _=>none
  | .own _ _ len=>some len
  | .mp id => match ac h id with
    | some (.map _ _ es)=>some es.length
    | _=>none
  | _=>none
def cellsOf:AV U El→Option (List (AV U El))
  | .agg cs=>some cs
  | .any=>none
  | .tup _=>none
  | a=>some [a]
def gk (E : Univ U El) (u : U) (t : ba U El) : Nat → List (Nat × Operand) → Option (List (El u))
  | _,[]=>some []
  | n, (i, o) :: ps => bif Nat.beq i n then
      match cellsOf (oget t o) with
      | some cs => match E.dec u cs with
        | some x => match gk E u t (n + 1) ps with
          | some xs=>some (x :: xs)
          | none=>none
        | none=>none
      | none=>none
    else none
def cm (t : ba U El) (Z : List (AV U El)) : Nat → Nat → List (Nat × Nat × Bool) → List (Nat × Operand) → Option (List (AV U El))
  | _,_,[],[]=>some []
  | n, acc, (off, sz, _) :: fs, [] => bif Nat.beq off acc && Nat.ble (acc + sz) Z.length then
      match cm t Z (n+1) (acc+sz) fs [] with
      | some r=>some ((Z.drop acc).take sz++r)
      | none=>none
    else none
  | n, acc, (off, sz, _) :: fs, (i, o) :: ps => bif Nat.beq i n then
      bif Nat.beq off acc then
      match cellsOf (oget t o) with
      | some cs => bif Nat.beq cs.length sz then
          match cm t Z (n+1) (acc+sz) fs ps with
          | some r=>some (cs++r)
          | none=>none
        else none
      | none=>none
      else none
    else bif Nat.beq off acc&&Nat.ble (acc+sz) Z.length then
      match cm t Z (n+1) (acc+sz) fs ((i,o) :: ps) with
      | some r=>some ((Z.drop acc).take sz++r)
      | none=>none
    else none
  | _,_,[],_ :: _=>none
def kn (t : ba U El) (fs : List (Nat × Nat × Bool)) : List (AV U El) → List (Nat × Operand) → Option (List (AV U El))
  | cs,[]=>some cs
  | cs, (i, o) :: ps => match fs[i]? with
    | some (off, sz, _) => match cellsOf (oget t o) with
      | some ns=>bif Nat.beq ns.length sz&&Nat.ble (off+sz) cs.length then kn t fs (cs.take off++(ns++cs.drop (off+sz))) ps else none
      | none=>none
    | none=>none
def oS (t:ba U El) (Z:List (AV U El)) (fs:List (Nat×Nat×Bool)) (ps:List (Nat×Operand)):Option (List (AV U El)) :=
  match cm t Z 0 0 fs ps with
  | some cs=>some cs
  | none=>kn t fs Z ps
def zeroCells (zs:List (TypeId×Value)) (ty:TypeId):List (AV U El) :=
  match jY zs ty with
  | some z=>constAV.constL z.cells.toList
  | none=>[]
def qn (d:Nat):AV U El→AV U El
  | .ful id => .ful (d * 1000+id)
  | a=>a
def rename (d:Nat):AV U El→AV U El
  | .ful id => .ful (d * 1000+id)
  | .agg cs => .agg (cs.map (qn d))
  | a=>a
def gl (d:Nat):AV U El→AV U El
  | .tup cs => .tup (cs.map (rename d))
  | a=>rename d a
def eD (d:Nat):az U El→az U El
  | []=>[]
  | (id,b) :: h=>(d * 1000+id,b) :: eD d h
def sub {α:Type} (s:List α) (l h:Int):List α:=(s.drop l.toNat).take (h.toNat - l.toNat)
def AV.plain:AV U El→Bool
  | .agg cs=>cs.all AV.cell
  | .pel _ _ _ _=>true
  | .fn _ a b=>a.isEmpty&&b.isEmpty
  | a=>a.cell
def AV.cellF:AV U El→Bool
  | .lst _ _=>false
  | .pel _ _ _ _=>false
  | .fmp _ _ _=>false
  | a=>a.cell
def AV.resG1 (ok:AV U El→Bool):AV U El→Bool
  | .ful id=>Nat.blt id 4
  | .agg cs=>cs.all fun c=>ok c||(match c with | .ful id=>Nat.blt id 4 | _=>false)
  | .fn _ [] [.pcs cs _]=>cs.all ok && !(cs.all AV.cellF)
  | a=>ok a
def AV.resG (ok:AV U El→Bool):AV U El→Bool
  | .tup cs=>cs.all (AV.resG1 ok)
  | a=>a.resG1 ok
def gH:az U El→Bool
  | []=>true
  | (_,.rows _ _) :: h=>gH h
  | (_,.box _ _) :: _=>false
  | (_,.bld _ _) :: _=>false
  | (_,.map _ _ _) :: _=>false
  | (_,.amap _ _ _) :: _=>false
def ig (E:Univ U El):az U El→Bool
  | []=>true
  | (_,.rows u _) :: h=>E.fl u&&ig E h
  | (_,.box _ _) :: _=>false
  | (_,.bld _ _) :: _=>false
  | (_,.map _ _ _) :: _=>false
  | (_,.amap _ _ _) :: _=>false
def fM (X:Ctx U El) (ty:TypeId) (yo:Operand) (y:AV U El):Bool :=
  match y with
  | .nilp=>match aV X.tds ty with | some .ptr=>true | _=>false
  | .nili=>match aV X.tds ty with | some .iface=>Region.isConst yo | _=>false
  | .bool _=>match aV X.tds ty with | some .bool=>true | _=>false
  | .nils=>match aV X.tds ty with | some (.slice _)=>true | _=>false
  | _=>true
def iY {R:Type} (i:Int):Nat→Nat→(Nat→Option R)→Option R
  | _,0,_=>none
  | j,m+1,k=>aa (i == Int.ofNat j) (k j) (iY i (j+1) m k)
def ixA {R:Type} (n:Nat) (i:Int) (k:Nat→Option R):Option R:=bif Nat.ble n 8 then iY i 0 n k else chk (inb i n) (k i.toNat)
def aZ (X : Ctx U El) (o : Oper) (t : ba U El) (h : az U El) (d : Nat) (k : Out U El → Option (Fin U El)) : Option (Fin U El) :=
  match o.op with
  | .move x=>k ⟨oget t x,[]⟩
  | .assign x=>k ⟨oget t x,[]⟩
  | .pick c a b => match oget t c with
    | .bool true=>k ⟨oget t a,[]⟩
    | .bool false=>k ⟨oget t b,[]⟩
    | _=>none
  | .box _ x => match cellsOf (oget t x) with
    | some cs=>k ⟨.ptr d 0,[(d,.box 0 cs)]⟩
    | none=>none
  | .alloc ty => match aV X.tds ty with
    | some (.bld u)=>chk (Nat.blt 0 d) (k ⟨.ptr d 0,[(d,.bld ty (d * 1000)),(d * 1000,.rows u [])]⟩)
    | _ => match jY X.zeros ty with
      | some z => match cellsOf (constAV z) with
        | some cs=>k ⟨.ptr d 0,[(d,.box 0 cs)]⟩
        | none=>none
      | none=>none
  | .binOp op ty x y _=>chk (fM X ty y (oget t y)) <| iX op (gG X.eqs ty) (oget t x) (oget t y) fun v=>k ⟨v,[]⟩
  | .unOp op _ x => match op, oget t x with
    | .not,.bool b=>k ⟨.bool (!b),[]⟩
    | .neg,.int kd n=>k ⟨.int kd (kd.wrap (0 - n)),[]⟩
    | _,_=>none
  | .nilCheck x => match oget t x with
    | .ptr id off=>k ⟨.ptr id off,[]⟩
    | .row id i off=>k ⟨.row id i off,[]⟩
    | .pel u xs i off=>k ⟨.pel u xs i off,[]⟩
    | .pcs cs off=>k ⟨.pcs cs off,[]⟩
    | _=>none
  | .load ty p => match aV X.tds ty with
    | some td => match jF td with
      | some (sz,ag)=>nn X h (oget t p) fun cs off=>cW cs off sz ag fun v=>k ⟨v,[]⟩
      | none=>none
    | none=>none
  | .fieldAddr s p f => match aV X.tds s with
    | some (.struct fs _) => match fs[f]? with
      | some (off, _, _) => match oget t p with
        | .ptr id o=>k ⟨.ptr id (o+off),[]⟩
        | .row id i o=>k ⟨.row id i (o+off),[]⟩
        | .pel u xs i o=>k ⟨.pel u xs i (o+off),[]⟩
        | .pcs cs o=>k ⟨.pcs cs (o+off),[]⟩
        | _=>none
      | none=>none
    | _=>none
  | .field s x f => match aV X.tds s with
    | some (.struct fs _) => match fs[f]? with
      | some (off, sz, ag) => match oget t x with
        | .agg cs=>cW cs off sz ag fun v=>k ⟨v,[]⟩
        | _=>none
      | none=>none
    | _=>none
  | .indexAddr ty x ix => match aV X.tds ty, oget t ix with
    | some (.slice u), .int _ i => match oget t x with
      | .lst u' xs=>chk (decide (u'=u)) (chk (inb i xs.length) (k ⟨.pel u' xs i.toNat 0,[]⟩))
      | .ful id => match ac h id with
        | some (.rows u' xs)=>chk (decide (u'=u)) (chk (inb i xs.length) (k ⟨.row id i.toNat 0,[]⟩))
        | _=>none
      | .own id lo len => match ac h id with
        | some (.rows u' xs)=>chk (decide (u'=u)) (chk (inb i len) (k ⟨.row id (lo+i.toNat) 0,[]⟩))
        | some (.box _ _)=>chk (Nat.beq lo 0) (ixA len i fun q=>k ⟨.ptr id (q * X.E.sz u),[]⟩)
        | _=>none
      | _=>none
    | some (.arr n es _ _), .int _ i => match oget t x with
      | .ptr id off=>ixA n i fun q=>k ⟨.ptr id (off+q * es),[]⟩
      | .row id j off=>ixA n i fun q=>k ⟨.row id j (off+q * es),[]⟩
      | .pel u xs j off=>ixA n i fun q=>k ⟨.pel u xs j (off+q * es),[]⟩
      | .pcs cs off=>ixA n i fun q=>k ⟨.pcs cs (off+q * es),[]⟩
      | _=>none
    | _,_=>none
  | .index ty x ix => match aV X.tds ty, oget t ix with
    | some (.str), .int _ i => match oget t x with
      | .str s=>chk (inb i s.length) (k ⟨.int .u8 (s.getD i.toNat 0).toNat,[]⟩)
      | _=>none
    | some (.arr n es ea _), .int _ i => match oget t x with
      | .agg cs=>ixA n i fun q=>cW cs (q * es) es ea fun v=>k ⟨v,[]⟩
      | _=>none
    | _,_=>none
  | .slice ty x lo hi none => match aV X.tds ty, oget t x with
    | some (.str), .str s => match (match lo with | some o => oget t o | none => .int .i64 0), (match hi with | some o => oget t o | none => .int .i64 s.length) with
      | .int _ l,.int _ g=>chk (ile 0 l&&ile l g&&ile g s.length) (k ⟨.str (sub s l g),[]⟩)
      | _,_=>none
    | some (.slice u), .lst u' xs => match (match lo with | some o => oget t o | none => .int .i64 0), (match hi with | some o => oget t o | none => .int .i64 xs.length) with
      | .int _ l,.int _ g=>chk (decide (u'=u)) (chk (ile 0 l&&ile l g&&ile g xs.length) (k ⟨.lst u' (sub xs l g),[]⟩))
      | _,_=>none
    | some (.slice u), .ful id => match ac h id with
      | some (.rows u' xs) => match (match lo with | some o => oget t o | none => .int .i64 0), (match hi with | some o => oget t o | none => .int .i64 xs.length) with
        | .int _ l,.int _ g=>chk (decide (u'=u)) (chk (ile 0 l&&ile l g&&ile g xs.length) (k ⟨.own id l.toNat (g.toNat - l.toNat),[]⟩))
        | _,_=>none
      | _=>none
    | some (.slice u), .own id lo0 len => match ac h id with
      | some (.rows u' _) => match (match lo with | some o => oget t o | none => .int .i64 0), (match hi with | some o => oget t o | none => .int .i64 len) with
        | .int _ l,.int _ g=>chk (decide (u'=u)) (chk (ile 0 l&&ile l g&&ile g len) (k ⟨.own id (lo0+l.toNat) (g.toNat - l.toNat),[]⟩))
        | _,_=>none
      | _=>none
    | some (.slice _), .nils => match (match lo with | some o => oget t o | none => .int .i64 0), (match hi with | some o => oget t o | none => .int .i64 0) with
      | .int _ l,.int _ g=>chk (ile 0 l&&ile l g&&ile g 0) (k ⟨.nils,[]⟩)
      | _,_=>none
    | _,_=>none
  | .extract x i => match oget t x with
    | .tup cs => match cs[i]? with
      | some v=>k ⟨v,[]⟩
      | none=>none
    | _=>none
  | .makeFunc (.func f) a b=>k ⟨.fn f (a.toList.map (oget t)) (b.toList.map (oget t)),[]⟩
  | .build ty ps => match aV X.tds ty with
    | some (.struct fs sz) => match oS t (zeroCells X.zeros ty) fs ps.toList with
      | some cs=>chk (Nat.beq cs.length sz) (k ⟨.agg cs,[]⟩)
      | none=>none
    | some (.arr n es ea sz) => match cm t (zeroCells X.zeros ty) 0 0 ((List.range n).map fun i => (i * es, es, ea)) ps.toList with
      | some cs=>chk (Nat.beq cs.length sz) (k ⟨.agg cs,[]⟩)
      | none=>none
    | _=>none
  | .buildSlice ty n ps => match aV X.tds ty with
    | some (.slice u) => chk (Nat.beq n ps.size) (chk (Nat.ble (n * X.E.sz u) 16777216) (match gk X.E u t 0 ps.toList with
      | some xs=>k ⟨.ful d,[(d,.rows u xs)]⟩
      | none=>none))
    | _=>none
  | .makeSlice ty n c => match aV X.tds ty, oget t n, oget t c with
    | some (.slice u), .int _ ln, .int _ cp => bif Nat.blt 0 (X.E.boxS ty) then
        chk (ln == Int.ofNat (X.E.boxS ty) && cp == Int.ofNat (X.E.boxS ty) && Nat.ble (X.E.boxS ty * X.E.by_ u) 140737488355328 && Nat.beq (X.E.sz u) 1) (match jY X.zeros (X.E.tid u) with
          | some z => match cellsOf (constAV z) with
            | some [c]=>k ⟨.own d 0 (X.E.boxS ty),[(d,.box 0 (List.replicate (X.E.boxS ty) c))]⟩
            | _=>none
          | none=>none)
      else chk (ile 0 ln&&ile ln cp&&ile (cp * X.E.by_ u) 140737488355328) (k ⟨.ful d,[(d,.rows u (List.replicate ln.toNat (X.E.dflt u)))]⟩)
    | _,_,_=>none
  | .makeMap ty none => match aV X.tds ty with
    | some (.map u v)=>k ⟨.mp d,[(d,.map u v [])]⟩
    | _=>none
  | .lookup ty m ix ok => match aV X.tds ty, oget t m with
    | some (.map u v), .mp id => match ac h id with
      | some (.map u' v' es) => chk (decide (u' = u) && (decide (v' = v) && (X.E.kok u' && X.E.vok v'))) (match jW X.E u' (oget t ix) with
        | some x=>k ⟨bif ok then .tup [ib X.E v' (bp (X.E.keq u') es x (X.E.dflt v')),.bool (jV (X.E.keq u') es x)] else ib X.E v' (bp (X.E.keq u') es x (X.E.dflt v')),[]⟩
        | none=>none)
      | _=>none
    | some (.map u v), .fmp u' v' es => chk (decide (u' = u) && (decide (v' = v) && (X.E.kok u' && X.E.vok v'))) (match jW X.E u' (oget t ix) with
      | some x=>k ⟨bif ok then .tup [ib X.E v' (bp (X.E.keq u') es x (X.E.dflt v')),.bool (jV (X.E.keq u') es x)] else ib X.E v' (bp (X.E.keq u') es x (X.E.dflt v')),[]⟩
      | none=>none)
    | _,_=>none
  | .convert s ty x => match aV X.tds s, aV X.tds ty, oget t x with
    | some _,some .str,.str b=>k ⟨.str b,[]⟩
    | some _,some (.int kd),.int _ n=>k ⟨.int kd (kd.wrap n),[]⟩
    | _,_,_=>none
  | .call ⟨.builtin .len, as, ts⟩ => match as.toList, ts.toList with
    | [x], ty :: _ => match lenOf h (oget t x) with
      | some n => chk (match aV X.tds ty, oget t x with
        | some .str,.str _=>true
        | some (.slice _),.str _=>false
        | some (.slice _),.mp _=>false
        | some (.slice _),_=>true
        | some (.map _ _),.mp _=>true
        | _,_=>false) (k ⟨.int .i64 n,[]⟩)
      | none=>none
    | _,_=>none
  | .call ⟨.builtin .max, as, _⟩ => match as.toList with
    | [x, y] => match oget t x, oget t y with
      | .int ka a,.int kb b=>k ⟨.int ka (bif ilt a b then b else a),[]⟩
      | _,_=>none
    | _=>none
  | .call ⟨.builtin .min, as, _⟩ => match as.toList with
    | [x, y] => match oget t x, oget t y with
      | .int ka a,.int kb b=>k ⟨.int ka (bif ilt b a then b else a),[]⟩
      | _,_=>none
    | _=>none
  | .call ⟨.value f, as, ts⟩ => match oget t f with
    | .fn g first caps => match iW X h (first ++ as.toList.map (oget t) ++ caps) (first.map (fun _ => 0) ++ ts.toList) with
      | some vs=>X.spec g vs fun r ex=>chk (r.resG AV.cell&&gH ex&&((r.resG AV.cellF&&ig X.E ex)||(first++as.toList.map (oget t)++caps).all AV.plain)) (k ⟨gl d r,eD d ex⟩)
      | none=>none
    | _=>none
  | _=>none
def St.put (st:St U El) (d:Option Nat) (o:Out U El):St U El :=
  ⟨match d with | some d=>(d,o.v) :: st.t | none=>st.t,o.new++st.h⟩
def bX (d:Nat):List Nat:=[d * 1000+0,d * 1000+1,d * 1000+2,d * 1000+3]
def aU (o:Oper) (d:Nat):List Nat :=
  match o.op with
  | .box _ _=>[d]
  | .alloc _=>[d,d * 1000]
  | .buildSlice _ _ _=>[d]
  | .makeSlice _ _ _=>[d]
  | .makeMap _ _=>[d]
  | .call ⟨.value _,_,_⟩=>bX d
  | .call ⟨.builtin .append,_,_⟩=>[d]
  | _=>[]
def fh (h : az U El) (u : U) : AV U El → Option (List (El u))
  | .nils=>some []
  | .lst u' xs=>if e:u'=u then some (e ▸ xs) else none
  | .ful id => match ac h id with
    | some (.rows u' xs)=>if e:u'=u then some (e ▸ xs) else none
    | _=>none
  | .own id lo len => match ac h id with
    | some (.rows u' xs)=>if e:u'=u then some (e ▸ ((xs.drop lo).take len)) else none
    | _=>none
  | _=>none
def fN (h : az U El) (u : U) : AV U El → Option (List (El u) × Option Nat)
  | .nils=>some ([],none)
  | .ful id => match ac h id with
    | some (.rows u' xs)=>if e:u'=u then some (e ▸ xs,some id) else none
    | _=>none
  | _=>none
def ko (X : Ctx U El) (d : Nat) (ty : TypeId) (s x : AV U El) (st : St U El) (k : St U El → Option (Fin U El)) : Option (Fin U El) :=
  match aV X.tds ty with
  | some (.slice u) => match fN st.h u s, fh st.h u x with
    | some (xs, id), some ys =>
      chk (nle ((xs.length+ys.length) * X.E.by_ u) 140737488355328&&nle (xs.length+ys.length) 9223372036854775807)
        (let aA:=(match id with | some id=>st.forget id | none=>st).forget d
         k ⟨(d,.ful d) :: aA.t,(d,.rows u (xs++ys)) :: aA.h⟩)
    | _,_=>none
  | _=>none
def bM:az U El→Nat→Blk U El→az U El
  | [],_,_=>[]
  | (j,b) :: h,id,c=>bif Nat.beq j id then (j,c) :: h else (j,b) :: bM h id c
def cQ (X : Ctx U El) (ty : TypeId) (p v : AV U El) (st : St U El) (k : St U El → Option (Fin U El)) : Option (Fin U El) :=
  match aV X.tds ty with
  | some td => match jF td, cellsOf v with
    | some (sz, _), some ns => chk (Nat.beq ns.length sz && Nat.blt 0 sz && ns.all AV.one) (match p with
      | .ptr id off => match ac st.h id with
        | some (.box tg cs)=>chk (Nat.ble (off+sz) cs.length) (k ⟨st.t,bM st.h id (.box tg (cs.take off++ns++cs.drop (off+sz)))⟩)
        | _=>none
      | .row id i off => match ac st.h id with
        | some (.rows u xs) => chk (nlt i xs.length && Nat.ble (off + sz) (X.E.sz u)) (match X.E.dec u ((X.E.enc u (xs.getD i (X.E.dflt u))).take off ++ ns ++ (X.E.enc u (xs.getD i (X.E.dflt u))).drop (off + sz)) with
          | some y=>k ⟨st.t,bM st.h id (.rows u (xs.set i y))⟩
          | none=>none)
        | _=>none
      | _=>none)
    | _,_=>none
  | none=>none
def mD (X : Ctx U El) (ty : TypeId) (s : AV U El) (st : St U El) (k : St U El → Option (Fin U El)) : Option (Fin U El) :=
  match aV X.tds ty,s with
  | some (.slice u), .own id lo len => match ac st.h id with
    | some (.rows v xs)=>chk (decide (v=u)&&(nlt 0 len&&nle (lo+len) xs.length)) (k ⟨st.t,bM st.h id (.rows v (List.take lo xs++(List.replicate len (X.E.dflt v)++List.drop (lo+len) xs)))⟩)
    | _=>none
  | _,_=>none
def oT (X : Ctx U El) (dst : Option Nat) (ty : TypeId) (s x : AV U El) (st : St U El) (k : St U El → Option (Fin U El)) : Option (Fin U El) :=
  match aV X.tds ty,s with
  | some (.slice u), .own id lo len => match ac st.h id with
    | some (.rows v xs) => match fh st.h v x with
      | some ys=>chk (decide (v=u)&&nle (lo+len) xs.length) (k ((⟨st.t,bM st.h id (.rows v (List.take lo xs++(List.take (Nat.min ys.length len) ys++List.drop (lo+Nat.min ys.length len) xs)))⟩:St U El).put dst ⟨.int .i64 (Int.ofNat (Nat.min ys.length len)),[]⟩))
      | none=>none
    | _=>none
  | _,_=>none
def d7 (X : Ctx U El) (ty : TypeId) (m ix x : AV U El) (st : St U El) (k : St U El → Option (Fin U El)) : Option (Fin U El) :=
  match aV X.tds ty,m with
  | some (.map u v), .mp id => match ac st.h id with
    | some (.map u' v' es) => chk (decide (u' = u) && (decide (v' = v) && (X.E.kok u' && X.E.vok v'))) (match jW X.E u' ix, jW X.E v' x with
      | some y,some z=>k ⟨st.t,bM st.h id (.map u' v' (dP (X.E.keq u') es y z))⟩
      | _,_=>none)
    | _=>none
  | _,_=>none
def j9 (E : Univ U El) (u : U) : Nat → List (AV U El) → Option (List (El u))
  | 0,_=>some []
  | n + 1, cs => match E.dec u (cs.take (E.sz u)) with
    | some x => match j9 E u n (cs.drop (E.sz u)) with
      | some xs=>some (x :: xs)
      | none=>none
    | none=>none
def r5 (X : Ctx U El) (d : Nat) (ty : TypeId) (x : AV U El) (st : St U El) (k : St U El → Option (Fin U El)) : Option (Fin U El) :=
  match aV X.tds ty,X.E.arrU ty,x with
  | some (.arr n es _ _), some u, .ptr id 0 => match ac st.h id with
    | some (.box _ cs) => chk (Nat.beq (X.E.sz u) es && (Nat.beq cs.length (n * es) && (Nat.blt 0 n && Nat.blt d X.nt))) (match j9 X.E u n cs with
      | some xs=>let aA:=st.forget id; k ⟨(d,.lst u xs) :: aA.t,aA.h⟩
      | none=>none)
    | _=>none
  | _,_,_=>none
def iZ (X:Ctx U El) (o:Oper) (st:St U El) (k:St U El→Option (Fin U El)):Option (Fin U El) :=
  let d:=o.dst.getD 999
  let bA:=st.forgets (aU o d)
  chk (match o.dst with | some d=>Nat.blt d X.nt | none=>true) (aZ X o bA.t bA.h d fun out=>k (bA.put o.dst out))
def mE (h : az U El) : AV U El → Option Nat
  | .lst _ xs=>some xs.length
  | .ful id => match ac h id with
    | some (.rows _ xs)=>some xs.length
    | _=>none
  | _=>none
noncomputable def ii (n:Nat) (eq:Bool) (k:Bool→Option (Fin U El)):Option (Fin U El):=aa (nlt 0 n) (k (!eq)) (amb (k true) (k false))
noncomputable def fi (X:Ctx U El) (o:Oper) (st:St U El) (k:St U El→Option (Fin U El)):Option (Fin U El) :=
  match o.op with
  | .store ty p v => match o.dst with
    | none=>cQ X ty (oget st.t p) (oget st.t v) st k
    | some _=>none
  | .binOp op ty x y _ => match op, oget st.t y, mE st.h (oget st.t x), o.dst with
    | .eql,.nils,some n,some d=>chk (fM X ty y (.nils:AV U El)&&Nat.blt d X.nt) (ii n true fun b=>k ⟨(d,.bool b) :: st.t,st.h⟩)
    | .neq,.nils,some n,some d=>chk (fM X ty y (.nils:AV U El)&&Nat.blt d X.nt) (ii n false fun b=>k ⟨(d,.bool b) :: st.t,st.h⟩)
    | _,_,_,_=>iZ X o st k
  | .slice ty x none none none => match aV X.tds ty, o.dst with
    | some (.arr _ _ _ _),some d=>r5 X d ty (oget st.t x) st k
    | _,_=>iZ X o st k
  | .mapUpdate ty m i v => match o.dst with
    | none=>d7 X ty (oget st.t m) (oget st.t i) (oget st.t v) st k
    | some _=>none
  | .insert ty m i v => match o.dst with
    | none=>d7 X ty (oget st.t m) (oget st.t i) (oget st.t v) st k
    | some _=>none
  | .call ⟨.builtin .append, as, ts⟩ => match as.toList, ts.toList, o.dst with
    | [s,x],[ty,ty'],some d=>chk (Nat.beq ty ty'&&Nat.blt d X.nt) (ko X d ty (oget st.t s) (oget st.t x) st k)
    | _,_,_=>none
  | .call ⟨.builtin .clear, as, ts⟩ => match as.toList, ts.toList, o.dst with
    | [s],[ty],none=>mD X ty (oget st.t s) st k
    | _,_,_=>none
  | .call ⟨.builtin .copy, as, ts⟩ => match as.toList, ts.toList with
    | [s,x],[ty,ty']=>chk (match o.dst with | some d=>Nat.blt d X.nt | none=>true) (oT X o.dst ty (oget st.t s) (oget st.t x) st k)
    | _,_=>none
  | .call ⟨.value f, as, _⟩ => match oget st.t f with
    | .fn g first caps => match X.mspec g with
      | some sp=>chk (match o.dst with | some d=>Nat.blt d X.nt | none=>true) (sp (o.dst.getD 999) (first++as.toList.map (oget st.t)++caps) st fun v st'=>k ⟨match o.dst with | some d=>(d,v) :: st'.t | none=>st'.t,st'.h⟩)
      | none=>iZ X o st k
    | _=>none
  | _=>iZ X o st k
def kp (t:ba U El) (g:Nat) (k:ba U El→Bool→Option (Fin U El)):Option (Fin U El) :=
  match aK t g with
  | .bool b=>aa b (k ((g,.bool true) :: t) true) (k ((g,.bool false) :: t) false)
  | _=>none
def gm (t:ba U El) (g:Nat) (want:Bool) (k:ba U El→Bool→Option (Fin U El)):Option (Fin U El) :=
  match aK t g with
  | .bool b=>aa b (k ((g,.bool true) :: t) true) (k ((g,.bool false) :: t) false)
  | .tup []=>k t (!want)
  | _=>none
def eE (dsts:List (Option Nat)) (o:Oper):Option (Option Nat×Bool) :=
  match o.guard with
  | none=>none
  | some (j,want)=>some (match dsts[j]? with | some d=>d | none=>none,want)
def b8 (o:Oper) (t:ba U El) (k:ba U El→Option (Fin U El)):Option (Fin U El) :=
  match o.op with
  | .pick (.tmp c) _ _=>kp t c fun t' _=>k t'
  | _=>k t
def ij (st : St U El) (s : Nat) (u : U) (k : St U El → Option (Fin U El)) : Option (Fin U El) :=
  match aK st.t s with
  | .lst _ _=>k st
  | .nils=>k ⟨(s,.lst u []) :: st.t,st.h⟩
  | .ful id => match ac st.h id with
    | some (.rows v xs)=>let aA:=st.forget id; k ⟨(s,.lst v xs) :: aA.t,aA.h⟩
    | _=>none
  | .own id lo len => match ac st.h id with
    | some (.rows v xs)=>chk (nle (lo+len) xs.length) (k ⟨(s,.lst v ((xs.drop lo).take len)) :: (st.forget id).t,(st.forget id).h⟩)
    | _=>none
  | .fmp _ _ _=>k st
  | .nilm=>k st
  | .mp id => match ac st.h id with
    | some (.map u v es)=>k ⟨(s,.fmp u v es) :: (st.forget id).t,(st.forget id).h⟩
    | _=>none
  | _=>none
def gn (st : St U El) (s off : Nat) (u : U) (k : St U El → Option (Fin U El)) : Option (Fin U El) :=
  match aK st.t s with
  | .agg cs => match cs[off]? with
    | some (.lst _ _)=>k st
    | some .nils=>k ⟨(s,.agg (cs.set off (.lst u []))) :: st.t,st.h⟩
    | some (.ful id) => match ac st.h id with
      | some (.rows v xs)=>k ⟨(s,.agg ((cs.map (AV.kill id)).set off (.lst v xs))) :: (st.forget id).t,(st.forget id).h⟩
      | _=>k st
    | _=>k st
  | _=>k st
def dp (st : St U El) (s : Nat) : List Nat → (St U El → Option (Fin U El)) → Option (Fin U El)
  | [],k=>k st
  | off :: l, k => match aK st.t s with
    | .agg cs => match cs[off]? with
      | some (.ful id) => match ac st.h id with
        | some (.rows v _)=>gn st s off v fun st'=>dp st' s l k
        | _=>dp st s l k
      | _=>dp st s l k
    | _=>dp st s l k
def dq (st : St U El) (s : Nat) (k : St U El → Option (Fin U El)) : Option (Fin U El) :=
  match aK st.t s with
  | .ful id => match ac st.h id with
    | some (.rows v _)=>ij st s v k
    | _=>k st
  | .agg cs=>dp st s (List.range cs.length) k
  | _=>k st
def fj (st:St U El):List (Nat×Operand)→(St U El→Option (Fin U El))→Option (Fin U El)
  | [],k=>k st
  | (_,.tmp s) :: l,k=>dq st s fun st'=>fj st' l k
  | _ :: l,k=>fj st l k
def dF (o : Oper) (st : St U El) (k : St U El → Option (Fin U El)) : Option (Fin U El) :=
  match o.op with
  | .store _ p (.tmp s) => match oget st.t p with
    | .row _ _ _=>dq st s k
    | _=>k st
  | .buildSlice _ _ ps=>fj st ps.toList k
  | .mapUpdate _ _ _ (.tmp s)=>dq st s k
  | .insert _ _ _ (.tmp s)=>dq st s k
  | _=>k st
noncomputable def dt (X:Ctx U El) (dsts:List (Option Nat)):List Oper→St U El→(St U El→Option (Fin U El))→Option (Fin U El)
  | [],st,k=>k st
  | o :: os, st, k =>
    match eE dsts o with
    | none=>b8 o st.t fun t=>dF o ⟨t,st.h⟩ fun aA=>fi X o aA fun st'=>dt X dsts os st' k
    | some (some g,want)=>gm st.t g want fun t b =>
        bif Bool.xor b want then dt X dsts os ⟨match o.dst with | some d=>(d,.tup []) :: t | none=>t,st.h⟩ k
        else b8 o t fun t'=>dF o ⟨t',st.h⟩ fun aA=>fi X o aA fun st'=>dt X dsts os st' k
    | some (none,_)=>none
def oU (anc:List Nat):List Edge→Nat→Nat
  | [],m=>m
  | e :: es,m=>oU anc es (bif Region.binds .any e then Nat.lor m (Nat.lor (2 ^ e.on) (anc.getD e.on 0)) else m)
def d8 (anc:List Nat) (o:Oper):Nat:=oU anc o.after.toList 0
def dV:List Oper→List Nat→List Nat
  | [],acc=>acc
  | o :: os,acc=>dV os (acc++[d8 acc o])
def eF (ops:List Oper) (ws:List (Nat×Nat)):List (Nat×Nat) :=
  (ops.zipIdx.flatMap fun (o,j)=>(aU o (o.dst.getD 999)).map fun id=>(j,id))++ws
def kq (anc:List Nat) (evs:List (Nat×Nat)) (i id:Nat):Bool :=
  evs.all fun (j,id') => !(Nat.beq id' id)||Nat.beq j i||(bif Nat.blt j i then Nat.testBit (anc.getD i 0) j else Nat.testBit (anc.getD j 0) i)
def bN (p:Nat→Bool):az U El→az U El
  | []=>[]
  | (j,b) :: h=>bif p j then (j,b) :: bN p h else bN p h
def bL (h:az U El):List Nat→az U El
  | []=>h
  | id :: ids=>bL (eL h id) ids
def bO (ws:List (Nat×Nat)) (i:Nat):List Nat:=(ws.filter fun p=>Nat.beq p.1 i).map (·.2)
def names (id:Nat):AV U El→Bool
  | .ptr j _=>Nat.beq j id
  | .row j _ _=>Nat.beq j id
  | .mp j=>Nat.beq j id
  | _=>false
def AV.within (ids:List Nat):AV U El→Bool
  | .agg cs=>withinL cs
  | .tup cs=>withinL cs
  | .pcs cs _=>withinL cs
  | .fn _ a b=>withinL a&&withinL b
  | .ful j=>ids.elem j
  | .own j _ _=>ids.elem j
  | .ptr j _=>ids.elem j
  | .row j _ _=>ids.elem j
  | .mp j=>ids.elem j
  | _=>true
where
  withinL:List (AV U El)→Bool
    | []=>true
    | c :: cs=>AV.within ids c&&withinL cs
def Blk.within (ids:List Nat):Blk U El→Bool
  | .box _ cs=>cs.all (AV.within ids)
  | .amap _ _ cs=>cs.all (AV.within ids)
  | .bld _ j=>ids.elem j
  | _=>true
def qZ (l:List Nat) (i:Nat):List Nat:=bif l.elem i then l else l++[i]
def AV.nms:AV U El→List Nat→List Nat
  | .agg cs,l=>nmsL cs l
  | .tup cs,l=>nmsL cs l
  | .pcs cs _,l=>nmsL cs l
  | .fn _ a b,l=>nmsL b (nmsL a l)
  | .ful j,l=>qZ l j
  | .own j _ _,l=>qZ l j
  | .ptr j _,l=>qZ l j
  | .row j _ _,l=>qZ l j
  | .mp j,l=>qZ l j
  | _,l=>l
where
  nmsL:List (AV U El)→List Nat→List Nat
    | [],l=>l
    | c :: cs,l=>nmsL cs (AV.nms c l)
def Blk.nms:Blk U El→List Nat→List Nat
  | .box _ cs,l=>AV.nms.nmsL cs l
  | .amap _ _ cs,l=>AV.nms.nmsL cs l
  | .bld _ j,l=>qZ l j
  | _,l=>l
def fO (h : az U El) : Nat → Nat → List Nat → List Nat
  | 0,_,l=>l
  | n + 1, i, l => match l[i]? with
    | some id => match ac h id with
      | some b=>fO h n (i+1) (b.nms l)
      | none=>fO h n (i+1) l
    | none=>l
def aM:Nat:=1000000000
def dQ:List Nat→Nat→Nat→Nat
  | [],_,j=>j
  | i :: ids,n,j=>bif Nat.beq i j then n else dQ ids (n+1) j
def dR (h : az U El) (all : List Nat) : List Nat → Nat → Option (az U El)
  | [],_=>some []
  | id :: ids, n => match ac h id with
    | some b => match dR h all ids (n + 1) with
      | some hs=>chk (b.within all) (some ((n,b.ren (dQ all aM) n) :: hs))
      | none=>none
    | none=>none
def fP:List (Nat×Nat)→Nat→Option Nat
  | [],_=>none
  | (id,j) :: l,x=>bif Nat.beq id x then some j else fP l x
def jZ:List (Nat×Nat)→Nat→Nat
  | [],j=>j
  | (id,j) :: l,x=>bif Nat.beq j x then id else jZ l x
def gq (ids:List Nat) (outs:List (Nat×Nat)) (pins:List Nat):List Nat:=(ids++outs.map (·.1)).filter fun i => !pins.elem i
def d9 (h hc : az U El) (pins : List Nat) (all : List (Nat × Nat)) : List (Nat × Nat) → az U El
  | []=>[]
  | (id, j) :: l => match ac hc j with
    | some b=>(id,b.ren (jZ all) (bif pins.elem id then (match ac h id with | some b0=>b0.tag | none=>0) else 0)) :: d9 h hc pins all l
    | none=>d9 h hc pins all l
def mOk (hc : az U El) (ids : List Nat) (outs : List (Nat × Nat)) (pins : List Nat) (v : AV U El) : Bool :=
  decide ids.Nodup&&(decide (outs.map (·.1)).Nodup&&(decide (outs.map (·.2)).Nodup&&(v.within (outs.map (·.2))&&(
    (outs.all fun p=>match ac hc p.2 with | some b=>b.within (outs.map (·.2)) | none=>true) &&
    (pins.all fun id=>ids.elem id&&(match fP outs id with | some j=>Nat.beq j (dQ ids aM id)&&(match ac hc j with | some (.box t _)=>Nat.beq t j | _=>false) | none=>false))))))
def bU (ids:List Nat):az U El→List Nat
  | []=>[]
  | (j,b) :: h=>bif Nat.ble aM j&&(match b with | .box t _=>Nat.beq t j | _=>false) then ids.getD (j - aM) 0 :: bU ids h else bU ids h
def eG (ids:List Nat) (d:Nat) (pins:List Nat):az U El→Nat→List (Nat×Nat)
  | [],_=>[]
  | (j,_) :: h,n=>bif Nat.ble aM j&&pins.elem (ids.getD (j - aM) 0) then (ids.getD (j - aM) 0,j) :: eG ids d pins h n else (d * 1000+n,j) :: eG ids d pins h (n+1)
def qo (X : Ctx U El) (f : Operand) (as : Array Operand) (d : Nat) (wj : List Nat) (sf : Nat → Bool) (t : ba U El) (h : az U El) (k : ba U El → az U El → Option (Fin U El)) : Option (Fin U El) :=
  match oget t f with
  | .fn g first caps => match X.dspec g with
    | some sp =>
      match dR (bN sf h) (fO (bN sf h) 40 0 (AV.nms.nmsL (first++as.toList.map (oget t)++caps) [])) (fO (bN sf h) 40 0 (AV.nms.nmsL (first++as.toList.map (oget t)++caps) [])) aM with
      | some hs=>sp ((first++as.toList.map (oget t)++caps).map (AV.ren (dQ (fO (bN sf h) 40 0 (AV.nms.nmsL (first++as.toList.map (oget t)++caps) [])) aM))) hs fun v hc =>
         chk (decide (wj=fO (bN sf h) 40 0 (AV.nms.nmsL (first++as.toList.map (oget t)++caps) []))&&((first++as.toList.map (oget t)++caps).all (AV.within wj)&&(mOk hc wj (eG wj d (bU wj hc) hc 0) (bU wj hc) v&&(eG wj d (bU wj hc) hc 0).all fun p=>(bU wj hc).elem p.1||(bX d).elem p.1)))
           (k ((d,v.ren (jZ (eG wj d (bU wj hc) hc 0))) :: t) (d9 (bN sf h) hc (bU wj hc) (eG wj d (bU wj hc) hc 0) (eG wj d (bU wj hc) hc 0)++bL h wj))
      | none=>none
    | none=>none
  | _=>none
def AV.shr (h:az U El) (wj:List Nat):AV U El→AV U El
  | .ful id=>bif wj.elem id then (match ac h id with | some (.rows v xs) => .lst v xs | _ => .ful id) else .ful id
  | a=>a
def AV.shr2 (h:az U El) (wj:List Nat):AV U El→AV U El
  | .agg cs => .agg (cs.map (AV.shr h wj))
  | a=>a.shr h wj
def oV (h:az U El) (wj:List Nat):ba U El→ba U El
  | []=>[]
  | (j,v) :: t=>(j,v.shr2 h wj) :: oV h wj t
def mF (h:az U El) (wj:List Nat):Bool:=wj.all fun id=>match ac h id with | some (.rows _ _)=>true | _=>false
def mG (X : Ctx U El) (o : Oper) (sf : Nat → Bool) (wj : List Nat) (t : ba U El) (h : az U El) (k : ba U El → az U El → Option (Fin U El)) : Option (Fin U El) :=
  match o.op with
  | .store ty p v => match wj, o.dst with
    | [id], none => chk (names id (oget t p)) (cQ X ty (oget t p) (oget t v) ⟨[], bN sf h⟩ fun st' => match ac st'.h id with
      | some b=>k t ((id,b) :: eL h id)
      | none=>none)
    | _,_=>none
  | .mapUpdate ty m i v => match wj, o.dst with
    | [id], none => chk (names id (oget t m)) (d7 X ty (oget t m) (oget t i) (oget t v) ⟨[], bN sf h⟩ fun st' => match ac st'.h id with
      | some b=>k t ((id,b) :: eL h id)
      | none=>none)
    | _,_=>none
  | .call ⟨.builtin .append, as, ts⟩ => match as.toList, ts.toList, o.dst with
    | [s, x], [ty, ty'], some d => match aV X.tds ty with
      | some (.slice u) => match fN (bN sf h) u (oget t s), fh (bN sf h) u (oget t x) with
        | some (xs,sid),some ys=>chk (Nat.beq ty ty'&&decide (wj=sid.toList)&&nle ((xs.length+ys.length) * X.E.by_ u) 140737488355328&&nle (xs.length+ys.length) 9223372036854775807)
            (k ((d,.ful d) :: t) ((d,.rows u (xs++ys)) :: bL h wj))
        | _,_=>none
      | _=>none
    | _,_,_=>none
  | _ => match wj, o.dst with
    | [],some d=>aZ X o t (bN sf h) d fun out=>chk (out.new.all fun p=>(aU o d).contains p.1) (k ((d,out.v) :: t) (out.new++h))
    | _ :: _, some d => match o.op with
      | .call ⟨.value f,as,_⟩=>qo X f as d wj sf t h k
      | .buildSlice _ _ _=>chk (mF (bN sf h) wj) (aZ X o (oV (bN sf h) wj t) (bL (bN sf h) wj) d fun out=>chk (out.new.all fun p=>(aU o d).contains p.1) (k ((d,out.v) :: t) (out.new++bL h wj)))
      | _=>none
    | _,_=>none
def bZ (X : Ctx U El) (dsts : List (Option Nat)) (sf : Nat → Nat → Bool) (ws : List (Nat × Nat)) : List Oper → Nat → ba U El → az U El → (St U El → Option (Fin U El)) → Option (Fin U El)
  | [],_,t,h,k=>k ⟨t,h⟩
  | o :: os, j, t, h, k =>
    let go:=fun (t':ba U El)=>mG X o (sf j) (bO ws j) t' h fun t2 h2=>bZ X dsts sf ws os (j+1) t2 h2 k
    match eE dsts o with
    | none=>b8 o t go
    | some (some g,want)=>gm t g want fun t1 b =>
        bif Bool.xor b want then (match o.dst,bO ws j with | some d,[]=>bZ X dsts sf ws os (j+1) ((d,.tup []) :: t1) h k | some d,id :: wj=>bZ X dsts sf ws os (j+1) ((d,.tup []) :: t1) (bN (fun i=>sf j i&&(id :: wj).elem i) h++bL h (id :: wj)) k | none,_=>none)
        else b8 o t1 go
    | some (none,_)=>none
def Oper.looks (dsts:List (Option Nat)) (o:Oper):List Nat :=
  (o.op.operands.toList.filterMap fun | .tmp t=>some t | _=>none) ++
  (match o.guard with
   | some (g,_)=>(match dsts[g]? with | some (some d)=>[d] | _=>[])
   | none=>[])
def eM (nt : Nat) (ops : List Oper) (ws : List (Nat × Nat)) : Bool :=
  let dsts:=ops.map (·.dst)
  let anc:=dV ops []
  let evs:=eF ops ws
  (ops.zipIdx.all fun (o,j)=>o.after.toList.all fun e => !(Region.binds .any e)||Nat.blt e.on j) &&
  (ops.zipIdx.all fun (o,j)=>match o.dst with | some d=>Nat.blt d nt&&(Nat.blt 0 d||(aU o d).isEmpty)&&Nat.blt d 1000 | none=>(match o.op with | .store _ _ _=>true | .mapUpdate _ _ _ _=>true | _=>false)) &&
  (ops.zipIdx.all fun (o,j)=>ops.zipIdx.all fun (p,k)=>(Nat.beq j k)||(match p.dst with
    | none=>true
    | some d=>(match o.dst with | some e => !(Nat.beq d e) | none=>true) &&
        (!((Oper.looks dsts o).contains d)||(bif Nat.blt k j then Nat.testBit (anc.getD j 0) k else Nat.testBit (anc.getD k 0) j)))) &&
  (ops.all fun o=>match o.op with | .select _ _=>false | _=>true) &&
  (evs.all fun (i,a)=>evs.all fun (j,b) => !(Nat.beq a b) || !(Nat.blt i j)||Nat.testBit (anc.getD j 0) i) &&
  (evs.all fun (i,_)=>Nat.blt i ops.length)
def cr (ops:List Oper):List Nat:=ops.flatMap fun o=>aU o (o.dst.getD 999)
def mH (nt:Nat) (ops:List Oper) (o:Oper):Bool :=
  (match o.guard with | none=>true | some _=>false)&&(match o.dst with | some d=>Nat.blt d nt | none=>true) &&
  (List.range ops.length).all (fun i=>Nat.testBit (d8 (dV ops []) o) i)&&(o.after.toList.all fun e => !(Region.binds .any e)||Nat.blt e.on ops.length) &&
  (ops.zipIdx.all fun (p,j)=>match p.guard with | some (g,_)=>Nat.blt g j | none=>true)
structure Norm (U:Type) where
  casts:List (Nat×U)
  keep:List Nat
  ids:List Nat
  shares:List (Nat×U)
  cells:List (Nat×Nat×U×Nat)
  scells:List (Nat×Nat×U)
  bcells:List (Nat×Nat×U)
def AV.mv (id s:Nat):AV U El→AV U El
  | .ful i=>bif Nat.beq i id then .ful s else ((AV.ful i).kill id).kill s
  | .own i lo n=>bif Nat.beq i id then .own s lo n else ((AV.own i lo n).kill id).kill s
  | v=>(v.kill id).kill s
def np (id s:Nat):ba U El→ba U El
  | []=>[]
  | (j,v) :: t=>(j,v.mv id s) :: np id s t
def mI (st : St U El) (s : Nat) (u : U) (k : St U El → Option (Fin U El)) : Option (Fin U El) :=
  match aK st.t s with
  | .nils=>let aA:=st.forget s; k ⟨(s,.ful s) :: aA.t,(s,.rows u []) :: aA.h⟩
  | .ful id => bif Nat.beq id s then k st else match ac st.h id with
    | some (.rows v xs)=>let aA:=(st.forget id).forget s; k ⟨(s,.ful s) :: np id s st.t,(s,.rows v xs) :: aA.h⟩
    | _=>none
  | .own id lo len => chk (Nat.beq lo 0 && nlt 0 len) (match ac st.h id with
    | some (.rows v xs)=>let aA:=(st.forget id).forget s; k ⟨(s,.ful s) :: aA.t,(s,.rows v (List.take len xs)) :: aA.h⟩
    | _=>none)
  | _=>none
def kr (st : St U El) (b off : Nat) (u : U) (j : Nat) (k : St U El → Option (Fin U El)) : Option (Fin U El) :=
  match ac st.h b with
  | some (.box _ cs) => match cs[off]? with
    | some (.ful id)=>bif Nat.beq id j then k st else k ((st.forget j).rename id j)
    | some (.mp id)=>bif Nat.beq id j then k st else k ((st.forget j).rename id j)
    | some .nils => match ac (st.forget j).h b with
      | some (.box tg cs') => match cs'[off]? with
        | some .nils=>k ⟨(st.forget j).t,(j,.rows u []) :: bM (st.forget j).h b (.box tg (cs'.set off (.ful j)))⟩
        | _=>k st
      | _=>k st
    | _=>k st
  | _=>k st
def i7 (st:St U El):List (Nat×Nat×U×Nat)→(St U El→Option (Fin U El))→Option (Fin U El)
  | [],k=>k st
  | (b,off,u,j) :: l,k=>kr st b off u j fun st'=>i7 st' l k
def gS (st:St U El):List (Nat×Nat×U)→(St U El→Option (Fin U El))→Option (Fin U El)
  | [],k=>k st
  | (s,off,u) :: l,k=>gn st s off u fun st'=>gS st' l k
def kt (st : St U El) (b off : Nat) (u : U) (k : St U El → Option (Fin U El)) : Option (Fin U El) :=
  match ac st.h b with
  | some (.box tg cs) => match cs[off]? with
    | some .nils=>k ⟨st.t,bM st.h b (.box tg (cs.set off (.lst u [])))⟩
    | some (.ful id) => match ac st.h id with
      | some (.rows v xs) => match ac (st.forget id).h b with
        | some (.box tg' cs')=>k ⟨(st.forget id).t,bM (st.forget id).h b (.box tg' (cs'.set off (.lst v xs)))⟩
        | _=>k st
      | _=>k st
    | _=>k st
  | _=>k st
def gU (st:St U El):List (Nat×Nat×U)→(St U El→Option (Fin U El))→Option (Fin U El)
  | [],k=>k st
  | (b,off,u) :: l,k=>kt st b off u fun st'=>gU st' l k
def ku (st:St U El):List (Nat×U)→(St U El→Option (Fin U El))→Option (Fin U El)
  | [],k=>k st
  | (s,u) :: cs,k=>ij st s u fun st'=>ku st' cs k
def mJ (st:St U El):List (Nat×U)→(St U El→Option (Fin U El))→Option (Fin U El)
  | [],k=>k st
  | (s,u) :: cs,k=>mI st s u fun st'=>mJ st' cs k
def ik (t:ba U El):List Nat→ba U El
  | []=>[]
  | s :: l=>(s,aK t s) :: ik t l
def il (h : az U El) : List Nat → az U El
  | []=>[]
  | s :: l => match ac h s with
    | some b=>(s,b) :: il h l
    | none=>il h l
def aX (nm:Norm U) (st:St U El) (k:St U El→Option (Fin U El)):Option (Fin U El) :=
  mJ st nm.casts fun bA=>i7 bA nm.cells fun aA=>gU aA nm.bcells fun st3=>gS st3 nm.scells fun st2=>ku st2 nm.shares fun st'=>k ⟨ik st'.t nm.keep,il st'.h nm.ids⟩
inductive Ann (U:Type):Type where
  | d
  | seq (j:Option (Norm U)) (a b:Ann U)
  | cond (a b:Ann U)
  | block (a:Ann U)
  | loop (j:Norm U) (a:Ann U)
  | region (ws:List (Nat×Nat))
  | regionL (ws:List (Nat×Nat))
def Ann.fst:Ann U→Ann U | .seq _ a _=>a | .cond a _=>a | .block a=>a | .loop _ a=>a | _ => .d
def Ann.ws:Ann U→List (Nat×Nat) | .region ws=>ws | .regionL ws=>ws | _=>[]
def Ann.isL:Ann U→Bool | .regionL _=>true | _=>false
def Ann.snd:Ann U→Ann U | .seq _ _ b=>b | .cond _ b=>b | _ => .d
def Ann.cut:Ann U→Option (Norm U) | .seq j _ _=>j | .loop j _=>some j | _=>none
abbrev af (U:Type) (El:U→Type):=St U El→Option (Fin U El)
def ca (nm:Norm U) (body:St U El→af U El→Option (Fin U El)):Nat→af U El
  | 0,_=>none
  | n+1,st=>body st fun st'=>aX nm st' (ca nm body n)
def ak (nm:Norm U) (K:af U El):af U El:=fun st=>aX nm st K
def aC (id:Nat) (K:af U El) (E:Nat→af U El):Nat→af U El:=fun i st=>bif Nat.beq i id then K st else E i st
omit [DecidableEq U] in
theorem r6:∃ f:af U El→af U El,∀ k,f k=k:=⟨id,fun _=>rfl⟩
noncomputable def hid:af U El→af U El:=Classical.choose r6
omit [DecidableEq U] in
theorem al (k:af U El):hid k=k:=Classical.choose_spec r6 k
noncomputable def aj (X:Ctx U El):Code→Ann U→St U El→af U El→(Nat→af U El)→af U El→Option (Fin U El)
  | .skip,_,st,K,_,_=>K st
  | .region _ ops dr, n, st, K, _, _ =>
    bif dr then
      bif n.isL then
        (match ops.toList.getLast? with
         | some o=>bif eM X.nt ops.toList.dropLast n.ws&&mH X.nt ops.toList.dropLast o then
            (let os:=ops.toList.dropLast
             let bA:=st.forgets (cr os)
             bZ X (os.map (·.dst)) (kq (dV os []) (eF os n.ws)) n.ws os 0 bA.t bA.h fun st'=>dt X [] [o] st' K)
            else none
         | none=>none)
      else bif eM X.nt ops.toList n.ws then
        (let bA:=st.forgets (cr ops.toList)
         bZ X (ops.toList.map (·.dst)) (kq (dV ops.toList []) (eF ops.toList n.ws)) n.ws ops.toList 0 bA.t bA.h K)
      else none
    else chk (ops.toList.all fun o=>match o.dst with | some d=>Nat.blt d X.nt | none=>true) (dt X (ops.toList.map (·.dst)) ops.toList st K)
  | .seq a b,n,st,K,E,R=>aj X a n.fst st (match n.cut with
      | none=>fun st'=>aj X b n.snd st' K E R
      | some nm=>ak nm (hid fun st'=>aj X b n.snd st' K E R)) E R
  | .cond c a b, n, st, K, E, R => match c with
    | .tmp g=>kp st.t g fun t bv=>bif bv then aj X a n.fst ⟨t,st.h⟩ K E R else aj X b n.snd ⟨t,st.h⟩ K E R
    | _=>none
  | .block id b,n,st,K,E,R=>aj X b n.fst st K (aC id K E) R
  | .loop b, n, st, _, E, R => match n.cut with
    | some nm=>aX nm st (hid (ca nm (fun st' K'=>aj X b n.fst st' K' E R) X.fuel))
    | none=>none
  | .exit id,_,st,_,E,_=>E id st
  | .ret,_,st,_,_,R=>R st
  | _,_,_,_,_,_=>none
def du:List Nat→Nat→List (Nat×Nat)
  | [],_=>[]
  | id :: l,n=>(id,n) :: du l (n+1)
def r7 (m : List (Nat × Nat)) : AV U El → Option (AV U El)
  | .ful id => match m.find? (fun p => Nat.beq p.1 id) with
    | some p=>some (.ful p.2)
    | none=>none
  | .agg cs=>bif cs.all AV.cell then some (.agg cs) else none
  | a=>bif a.cell then some a else none
def q7 (m : List (Nat × Nat)) : List (AV U El) → Option (List (AV U El))
  | []=>some []
  | c :: cs => match r7 m c with
    | some d => match q7 m cs with
      | some ds=>some (d :: ds)
      | none=>none
    | none=>none
def q8 (h : az U El) : List (Nat × Nat) → Option (az U El)
  | []=>some []
  | (id, n) :: l => match ac h id with
    | some (.rows u xs) => match q8 h l with
      | some r=>some ((n,.rows u xs) :: r)
      | none=>none
    | _=>none
def aQ (res ex:List Nat) (st:St U El):Option (Fin U El) :=
  match q7 (du ex 0) (res.map (aK st.t)),q8 st.h (du ex 0) with
  | some [v],some h=>some (v,h)
  | some vs,some h=>some (.tup vs,h)
  | _,_=>none
def dj:List (AV U El)→Nat→ba U El
  | [],_=>[]
  | a :: l,n=>(n,a) :: dj l (n+1)
def bD (X : Ctx U El) (n0 : Nat) : List (Nat × TypeId) → Nat → St U El → (St U El → Option (Fin U El)) → Option (Fin U El)
  | [],_,st,k=>k st
  | (a, ty) :: l, p, st, k => match aV X.tds ty with
    | some td => match jF td with
      | some (sz,ag)=>chk (Nat.blt a n0) (nn X st.h (aK st.t a) fun cs off=>cW cs off sz ag fun v=>bD X n0 l (p+1) ⟨(p,v) :: st.t,st.h⟩ k)
      | none=>none
    | none=>none
def lD (nt : Nat) (lds : List (Nat × TypeId)) (r : Nat) : ResultVar :=
  if r < nt then .tmp r else match lds[r - nt]? with
    | some p => .cell p.1 p.2
    | none => .tmp r
noncomputable def ja (X:Ctx U El) (body:Code) (n:Ann U) (nm:Norm U) (lds:List (Nat×TypeId)) (res ex:List Nat) (args:List (AV U El)):Option (Fin U El) :=
  aj X body n ⟨dj args 0,[]⟩ (fun st=>bD X X.nt lds X.nt st fun st=>aX nm st (aQ res ex)) (fun _ _=>none) (fun st=>bD X X.nt lds X.nt st fun st=>aX nm st (aQ res ex))
noncomputable def bl (X:Ctx U El) (body:Code) (n:Ann U) (nm:Norm U) (res ex:List Nat) (args:List (AV U El)):Option (Fin U El) :=
  aj X body n ⟨dj args 0,[]⟩ (fun st=>aX nm st (aQ res ex)) (fun _ _=>none) (fun st=>aX nm st (aQ res ex))
end
end Go.Proofs.YtnofdcckddfooaaGreatDoor

namespace Go.Proofs.YtnofdcckddfooaaGreatDoor
set_option linter.unusedVariables false
set_option linter.unusedSectionVars false
set_option linter.unusedSimpArgs false
open Go.RowKit
structure Loc where
  b:Nat
  n:Nat
  s:Nat
  ln:Nat
abbrev Rho:=Nat→Option Loc
def Rho.del (ρ:Rho) (id:Nat):Rho:=fun j=>if j=id then none else ρ j
def Rho.set (ρ:Rho) (id:Nat) (l:Loc):Rho:=fun j=>if j=id then some l else ρ j
section
variable {U:Type} {El:U→Type}
def q9 (agg:Bool):Value→Array Value
  | .agg vs=>if agg then vs else #[.agg vs]
  | v=>if agg then #[] else #[v]
def ra (E:Univ U El) (u:U) (x:El u) (v:Value):Prop:=if E.agg u then ∃ vs:Array Value,v = .agg vs∧vs.size=(E.enc u x).length else (E.enc u x).length=1
inductive Rel (E:Univ U El) (S:Nat→Prop) (ρ:Rho) (w:World):AV U El→Value→Prop
  | any (v:Value):Rel E S ρ w .any v
  | bool (b:Bool):Rel E S ρ w (.bool b) (.bool b)
  | int (k:IntKind) (n:Int):Rel E S ρ w (.int k n) (.int k n)
  | str (s:List UInt8):Rel E S ρ w (.str s) (.string ⟨s.toArray⟩)
  | nilp:Rel E S ρ w .nilp (.pointer none)
  | nils:Rel E S ρ w .nils (.slice none 0 0)
  | nili:Rel E S ρ w .nili .nilIface
  | nilf:Rel E S ρ w .nilf .nilFunc
  | nilm:Rel E S ρ w .nilm (.map none)
  | agg (cs:List (AV U El)) (vs:Array Value) (hl:vs.size=cs.length) (h:∀ (i:Nat) c v,cs[i]? = some c→vs[i]? = some v→Rel E S ρ w c v):Rel E S ρ w (.agg cs) (.agg vs)
  | tup (cs:List (AV U El)) (vs:Array Value) (hl:vs.size=cs.length) (h:∀ (i:Nat) c v,cs[i]? = some c→vs[i]? = some v→Rel E S ρ w c v):Rel E S ρ w (.tup cs) (.tuple vs)
  | lstE (u:U) (ao:Option Addr) (cap:Nat):Rel E S ρ w (.lst u []) (.slice ao 0 cap)
  | lst (u:U) (xs:List (El u)) (b off cap:Nat) (val:Nat→Nat→Value) (hS:S b) (hc:xs.length≤cap)
      (hcell:∀ (i:Nat) x (j:Nat) c,xs[i]? = some x→(E.enc u x)[j]? = some c→w.cell? ⟨b,off+i * E.sz u+j,none⟩=some (val i j))
      (h:∀ (i:Nat) x (j:Nat) c,xs[i]? = some x→(E.enc u x)[j]? = some c→Rel E S ρ w c (val i j)):Rel E S ρ w (.lst u xs) (.slice (some ⟨b,off,none⟩) xs.length cap)
  | ful (id cap:Nat) (l:Loc) (hl:ρ id=some l) (h1:cap * l.s≤l.n) (h2:l.ln≤cap):Rel E S ρ w (.ful id) (.slice (some ⟨l.b,0,none⟩) l.ln cap)
  | fulN (id:Nat) (l:Loc) (hl:ρ id=some l) (h1:l.n=0) (h2:l.ln=0):Rel E S ρ w (.ful id) (.slice none 0 0)
  | own (id lo len cap:Nat) (l:Loc) (hl:ρ id=some l) (h1:(lo+cap) * l.s≤l.n) (h2:len≤cap) (h3:lo+len≤l.ln):Rel E S ρ w (.own id lo len) (.slice (some ⟨l.b,lo * l.s,none⟩) len cap)
  | ownE (id lo:Nat) (ao:Option Addr) (cap:Nat):Rel E S ρ w (.own id lo 0) (.slice ao 0 cap)
  | ptr (id off:Nat) (l:Loc) (hl:ρ id=some l):Rel E S ρ w (.ptr id off) (.pointer (some ⟨l.b,off,none⟩))
  | row (id i off:Nat) (l:Loc) (hl:ρ id=some l):Rel E S ρ w (.row id i off) (.pointer (some ⟨l.b,i * l.s+off,none⟩))
  | pel (u:U) (xs:List (El u)) (i off b o cap:Nat) (h:Rel E S ρ w (.lst u xs) (.slice (some ⟨b,o,none⟩) xs.length cap)) (hi:i < xs.length):Rel E S ρ w (.pel u xs i off) (.pointer (some ⟨b,o+i * E.sz u+off,none⟩))
  | pcs (cs:List (AV U El)) (off b o:Nat) (val:Nat→Value) (hS:cs≠[]→S b) (hcell:∀ (j:Nat) c,cs[j]? = some c→w.cell? ⟨b,o+j,none⟩=some (val j)) (h:∀ (j:Nat) c,cs[j]? = some c→Rel E S ρ w c (val j)):Rel E S ρ w (.pcs cs off) (.pointer (some ⟨b,o+off,none⟩))
  | fn (f:FuncId) (fs cs:List (AV U El)) (vf vc:Array Value) (hlf:vf.size=fs.length) (hlc:vc.size=cs.length) (hf:∀ (i:Nat) c v,fs[i]? = some c→vf[i]? = some v→Rel E S ρ w c v) (hc:∀ (i:Nat) c v,cs[i]? = some c→vc[i]? = some v→Rel E S ρ w c v):Rel E S ρ w (.fn f fs cs) (.func (.func f) vf vc)
  | err (t:TypeId) (v:Value):Rel E S ρ w .err (.iface t v)
  | mp (id:Nat) (l:Loc) (hl:ρ id=some l):Rel E S ρ w (.mp id) (.map (some l.b))
  | fmp (u v:U) (es:List (El u×El v)) (b:Nat) (ents:Array MapEntry) (clock:Nat) (hS:S b) (hb:w.heap[b]? = some (.map ents clock)) (hn:ents.size=es.length)
      (hf:∀ (i:Nat) e p,ents[i]? = some e→es[i]? = some p→ra E u p.1 e.key∧ra E v p.2 e.val)
      (hk:∀ (i:Nat) e (p:El u×El v) (j:Nat) c x,ents[i]? = some e→es[i]? = some p→(E.enc u p.1)[j]? = some c→(q9 (E.agg u) e.key)[j]? = some x→Rel E S ρ w c x)
      (hv:∀ (i:Nat) e (p:El u×El v) (j:Nat) c x,ents[i]? = some e→es[i]? = some p→(E.enc v p.2)[j]? = some c→(q9 (E.agg v) e.val)[j]? = some x→Rel E S ρ w c x):Rel E S ρ w (.fmp u v es) (.map (some b))
def dW (E:Univ U El) (S:Nat→Prop) (ρ:Rho) (w:World) (cs:List (AV U El)) (vs:Array Value):Prop :=
  vs.size=cs.length∧∀ (i:Nat) c v,cs[i]? = some c→vs[i]? = some v→Rel E S ρ w c v
def ERel (E:Univ U El) (S:Nat→Prop) (ρ:Rho) (w:World) (u:U) (x:El u) (v:Value):Prop :=
  if E.agg u then ∃ vs:Array Value,v = .agg vs∧dW E S ρ w (E.enc u x) vs else ∃ c,E.enc u x=[c]∧Rel E S ρ w c v
theorem ERel.fit {E:Univ U El} {S:Nat→Prop} {ρ:Rho} {w:World} {u:U} {x:El u} {v:Value} (h:ERel E S ρ w u x v):ra E u x v∧∀ (j:Nat) c y,(E.enc u x)[j]? = some c→(q9 (E.agg u) v)[j]? = some y→Rel E S ρ w c y:=by
  unfold ERel at h
  unfold ra
  split at h
  · rename_i e
    obtain ⟨vs,rfl,h2,h3⟩:=h
    rw [if_pos e]
    refine ⟨⟨vs,rfl,h2⟩,fun j c y hc hy => ?_⟩
    rw [e] at hy
    exact h3 j c y hc hy
  · rename_i e
    have e':E.agg u=false:=by simpa using e
    obtain ⟨c0,h1,h2⟩:=h
    rw [if_neg e,h1]
    refine ⟨rfl,fun j c y hc hy => ?_⟩
    have hk:q9 false v=#[v]:=by cases v<;>rfl
    rw [e',hk] at hy
    match j,hc,hy with
    | 0,hc,hy=>cases hc; cases hy; exact h2
    | j+1,hc,hy=>cases hc
theorem ERel.of_fit {E:Univ U El} {S:Nat→Prop} {ρ:Rho} {w:World} {u:U} {x:El u} {v:Value} (h:ra E u x v) (hr:∀ (j:Nat) c y,(E.enc u x)[j]? = some c→(q9 (E.agg u) v)[j]? = some y→Rel E S ρ w c y):ERel E S ρ w u x v:=by
  unfold ERel
  unfold ra at h
  split at h
  · rename_i e
    obtain ⟨vs,rfl,h2⟩:=h
    rw [if_pos e]
    refine ⟨vs,rfl,h2,fun j c y hc hy=>hr j c y hc ?_⟩
    rw [e]; exact hy
  · rename_i e
    have e':E.agg u=false:=by simpa using e
    rw [if_neg e]
    obtain ⟨c,hc⟩:=List.length_eq_one_iff.1 h
    refine ⟨c,hc,hr 0 c v (by rw [hc]; rfl) ?_⟩
    have hk:q9 false v=#[v]:=by cases v<;>rfl
    rw [e',hk]; rfl
structure KeyOk (P:Program) (E:Univ U El) (u:U):Prop where
  check:∀ {S:Nat→Prop} {ρ:Rho} {w:World} {x:El u} {v:Value} (em:Bool),ERel E S ρ w u x v→(Instr.checkKey em 10000 (E.tid u) v).run P w = .ok () w
  find:∀ {S:Nat→Prop} {ρ:Rho} {w:World} {x:El u} {v:Value} (es:List MapEntry) (xs:List (El u)),ERel E S ρ w u x v→es.length=xs.length→(∀ (i:Nat) e y,es[i]? = some e→xs[i]? = some y→ERel E S ρ w u y e.key) →
    (Instr.findKey (E.tid u) v es).run P w = .ok ((cH (E.keq u) xs x).bind fun i=>(es[i]?).map fun e=>(i,e.val)) w
  stays:∀ {S:Nat→Prop} {ρ:Rho} {w:World} {x y:El u} {v v':Value},ERel E S ρ w u x v→ERel E S ρ w u y v'→E.keq u x y=true→(Instr.keyThatStays v' v).run P w = .ok v w
def uP (P:Program) (E:Univ U El) (v:U):Prop:=∃ i z,P.info? (E.tid v)=some i∧i.zero=some z∧∀ S ρ w,ERel E S ρ w v (E.dflt v) z
structure UGood (P:Program) (E:Univ U El):Prop where
  len:∀ u x,(E.enc u x).length=E.sz u
  pos:∀ u,0 < E.sz u
  bpos:∀ u,0 < E.by_ u
  cell:∀ u x c,c∈E.enc u x→c.cell=true
  flat:∀ u,E.fl u=true→∀ x c,c∈E.enc u x→c.flat=true
  dec:∀ u cs x,E.dec u cs=some x→cs.length=E.sz u∧∀ (j:Nat) c,(E.enc u x)[j]? = some c→∃ c',cs[j]? = some c'∧(c'=c∨(c' = .nils∧∃ u',c = .lst u' []))
  gst:∀ w w':World,E.G w→Below w.heap.size w w'→E.G w'
  key:∀ u,E.kok u=true→KeyOk P E u
  val:∀ u,E.vok u=true→uP P E u
  info:∀ u,∃ i z,P.info? (E.tid u)=some i∧i.size=E.sz u∧i.bytes=E.by_ u∧i.zero=some z∧z.cells.size=E.sz u ∧
    ∀ (j:Nat) c,(E.enc u (E.dflt u))[j]? = some c→∃ v,z.cells[j]? = some v∧∀ S ρ w,Rel E S ρ w c v
variable {P:Program} {E:Univ U El} {S S':Nat→Prop} {ρ ρ':Rho} {w w':World}
theorem cell_of_heap {b o:Nat} (h:w'.heap[b]? = w.heap[b]?):w'.cell? ⟨b,o,none⟩=w.cell? ⟨b,o,none⟩:=World.cell?_of_block (a:=⟨b,o,none⟩) h
theorem Rel.mono {a:AV U El} {v:Value} (hr:Rel E S ρ w a v) (hS:∀ b,S b→S' b) (hw:∀ b,S b→w'.heap[b]? = w.heap[b]?) (hρ:∀ id l,ρ id=some l→ρ' id=some l):Rel E S' ρ' w' a v:=by
  induction hr with
  | any v=>exact .any v
  | bool b=>exact .bool b
  | int k n=>exact .int k n
  | str s=>exact .str s
  | nilp=>exact .nilp
  | nils=>exact .nils
  | nili=>exact .nili
  | nilf=>exact .nilf
  | nilm=>exact .nilm
  | agg cs vs hl h ih=>exact .agg cs vs hl ih
  | tup cs vs hl h ih=>exact .tup cs vs hl ih
  | lstE u ao cap=>exact .lstE u ao cap
  | lst u xs b off cap val hb hc hcell h ih=>exact .lst u xs b off cap val (hS b hb) hc (fun i x j c hi hj=>(cell_of_heap (hw b hb)).trans (hcell i x j c hi hj)) ih
  | ful id cap l hl h1 h2=>exact .ful id cap l (hρ _ _ hl) h1 h2
  | fulN id l hl h1 h2=>exact .fulN id l (hρ _ _ hl) h1 h2
  | own id lo len cap l hl h1 h2 h3=>exact .own id lo len cap l (hρ _ _ hl) h1 h2 h3
  | ownE id lo ao cap=>exact .ownE id lo ao cap
  | ptr id off l hl=>exact .ptr id off l (hρ _ _ hl)
  | row id i off l hl=>exact .row id i off l (hρ _ _ hl)
  | pel u xs i off b o cap h hi ih=>exact .pel u xs i off b o cap ih hi
  | pcs cs off b o val hb hcell h ih=>exact .pcs cs off b o val (fun hn=>hS b (hb hn)) (fun j c hj=>(cell_of_heap (hw b (hb (by rintro rfl; cases hj)))).trans (hcell j c hj)) ih
  | fn f fs cs vf vc hlf hlc hf hc ihf ihc=>exact .fn f fs cs vf vc hlf hlc ihf ihc
  | err t v=>exact .err t v
  | mp id l hl=>exact .mp id l (hρ _ _ hl)
  | fmp u v es b ents clock hb hh hn hf hk hv ihk ihv=>exact .fmp u v es b ents clock (hS b hb) ((hw b hb).trans hh) hn hf ihk ihv
theorem eS {id:Nat} {cs:List (AV U El)} (h:AV.ment.mentL id cs=false):∀ c∈cs,c.ment id=false:=by
  induction cs with
  | nil=>intro c hc; cases hc
  | cons d cs ih =>
    simp only [AV.ment.mentL,Bool.or_eq_false_iff] at h
    intro c hc
    cases hc with
    | head=>exact h.1
    | tail _ hc=>exact ih h.2 c hc
theorem jb {a:AV U El} (h:a.cell=true) (id:Nat):a.ment id=false:=by
  cases a<;>first | rfl | (simp [AV.cell] at h; done)
theorem Rel.del {a:AV U El} {v:Value} (hg:UGood P E) (hr:Rel E S ρ w a v) (id:Nat) (hm:a.ment id=false):Rel E S (ρ.del id) w a v:=by
  have hρ:∀ j l,ρ j=some l→(j == id)=false→ρ.del id j=some l:=fun j l h e=>by
    have:j≠id:=by simpa using e
    simp [Rho.del,this,h]
  induction hr with
  | any v=>exact .any v
  | bool b=>exact .bool b
  | int k n=>exact .int k n
  | str s=>exact .str s
  | nilp=>exact .nilp
  | nils=>exact .nils
  | nili=>exact .nili
  | nilf=>exact .nilf
  | nilm=>exact .nilm
  | agg cs vs hl h ih=>exact .agg cs vs hl fun i c v hc hv=>ih i c v hc hv (eS (by simpa [AV.ment] using hm) c (List.mem_of_getElem? hc))
  | tup cs vs hl h ih=>exact .tup cs vs hl fun i c v hc hv=>ih i c v hc hv (eS (by simpa [AV.ment] using hm) c (List.mem_of_getElem? hc))
  | lstE u ao cap=>exact .lstE u ao cap
  | lst u xs b off cap val hb hc hcell h ih=>exact .lst u xs b off cap val hb hc hcell fun i x j c hi hj=>ih i x j c hi hj (jb (hg.cell u x c (List.mem_of_getElem? hj)) id)
  | ful j cap l hl h1 h2=>exact .ful j cap l (hρ _ _ hl (by simpa [AV.ment] using hm)) h1 h2
  | fulN j l hl h1 h2=>exact .fulN j l (hρ _ _ hl (by simpa [AV.ment] using hm)) h1 h2
  | own j lo len cap l hl h1 h2 h3=>exact .own j lo len cap l (hρ _ _ hl (by simpa [AV.ment] using hm)) h1 h2 h3
  | ownE j lo ao cap=>exact .ownE j lo ao cap
  | ptr j off l hl=>exact .ptr j off l (hρ _ _ hl (by simpa [AV.ment] using hm))
  | row j i off l hl=>exact .row j i off l (hρ _ _ hl (by simpa [AV.ment] using hm))
  | pel u xs i off b o cap h hi ih=>exact .pel u xs i off b o cap (ih rfl) hi
  | pcs cs off b o val hb hcell h ih=>exact .pcs cs off b o val hb hcell fun j c hj=>ih j c hj (eS (by simpa [AV.ment] using hm) c (List.mem_of_getElem? hj))
  | fn f fs cs vf vc hlf hlc hf hc ihf ihc =>
    simp only [AV.ment,Bool.or_eq_false_iff] at hm
    exact .fn f fs cs vf vc hlf hlc (fun i c v hc' hv=>ihf i c v hc' hv (eS hm.1 c (List.mem_of_getElem? hc'))) (fun i c v hc' hv=>ihc i c v hc' hv (eS hm.2 c (List.mem_of_getElem? hc')))
  | err t v=>exact .err t v
  | mp j l hl=>exact .mp j l (hρ _ _ hl (by simpa [AV.ment] using hm))
  | fmp u v es b ents clock hb hh hn hf hk hv ihk ihv=>exact .fmp u v es b ents clock hb hh hn hf (fun i e p j c x h1 h2 h3 h4=>ihk i e p j c x h1 h2 h3 h4 (jb (hg.cell u p.1 c (List.mem_of_getElem? h3)) id)) (fun i e p j c x h1 h2 h3 h4=>ihv i e p j c x h1 h2 h3 h4 (jb (hg.cell v p.2 c (List.mem_of_getElem? h3)) id))
theorem Rel.kill {a:AV U El} {v:Value} (hg:UGood P E) (hr:Rel E S ρ w a v) (id:Nat):Rel E S (ρ.del id) w (a.kill id) v:=by
  unfold AV.kill
  cases h:a.ment id with
  | true=>exact .any v
  | false=>exact hr.del hg id h
theorem lS {cs:List (AV U El)} (h:AV.flat.flatL cs=true):∀ c∈cs,c.flat=true:=by
  induction cs with
  | nil=>intro c hc; cases hc
  | cons d cs ih =>
    simp only [AV.flat.flatL,Bool.and_eq_true] at h
    intro c hc
    cases hc with
    | head=>exact h.1
    | tail _ hc=>exact ih h.2 c hc
theorem Rel.flat {a:AV U El} {v:Value} (hr:Rel E S ρ w a v) (hf:a.flat=true):Rel E S' ρ w' a v:=by
  induction hr with
  | bool b=>exact .bool b
  | int k n=>exact .int k n
  | str s=>exact .str s
  | nilp=>exact .nilp
  | nils=>exact .nils
  | nili=>exact .nili
  | nilf=>exact .nilf
  | nilm=>exact .nilm
  | agg cs vs hl h ih=>exact .agg cs vs hl fun i c v hc hv=>ih i c v hc hv (lS (by simpa [AV.flat] using hf) c (List.mem_of_getElem? hc))
  | tup cs vs hl h ih=>exact .tup cs vs hl fun i c v hc hv=>ih i c v hc hv (lS (by simpa [AV.flat] using hf) c (List.mem_of_getElem? hc))
  | ful id cap l hl h1 h2=>exact .ful id cap l hl h1 h2
  | fulN id l hl h1 h2=>exact .fulN id l hl h1 h2
  | own id lo len cap l hl h1 h2 h3=>exact .own id lo len cap l hl h1 h2 h3
  | ownE id lo ao cap=>exact .ownE id lo ao cap
  | err t v=>exact .err t v
  | _=>simp [AV.flat] at hf
theorem Rel.cellρ {a:AV U El} {v:Value} (hg:UGood P E) (hr:Rel E S ρ w a v) (hf:a.cell=true):Rel E S ρ' w a v:=by
  induction hr with
  | bool b=>exact .bool b
  | int k n=>exact .int k n
  | str s=>exact .str s
  | nilp=>exact .nilp
  | nils=>exact .nils
  | nili=>exact .nili
  | nilf=>exact .nilf
  | nilm=>exact .nilm
  | err t v=>exact .err t v
  | lstE u ao cap=>exact .lstE u ao cap
  | lst u xs b off cap val hb hc hcell h ih=>exact .lst u xs b off cap val hb hc hcell fun i x j c hi hj=>ih i x j c hi hj (hg.cell u x c (List.mem_of_getElem? hj))
  | pel u xs i off b o cap h hi ih=>exact .pel u xs i off b o cap (ih rfl) hi
  | fmp u v es b ents clock hb hh hn hf' hk hv ihk ihv=>exact .fmp u v es b ents clock hb hh hn hf' (fun i e p j c x h1 h2 h3 h4=>ihk i e p j c x h1 h2 h3 h4 (hg.cell u p.1 c (List.mem_of_getElem? h3))) (fun i e p j c x h1 h2 h3 h4=>ihv i e p j c x h1 h2 h3 h4 (hg.cell v p.2 c (List.mem_of_getElem? h3)))
  | _=>simp [AV.cell] at hf
structure Bd where
  own:Nat→Prop
  pin:Nat→Option Loc
  df:List Deferred
abbrev eN (w:World):Bd:=⟨fun k=>w.heap.size≤k,fun _=>none,[]⟩
structure Fr (B:Bd) (w w':World):Prop where
  os:w'.os=w.os
  tape:w'.tape=w.tape
  output:w'.output=w.output
  size:w.heap.size≤w'.heap.size
  drawn:w.drawn≤w'.drawn
  block:∀ k,k < w.heap.size→¬ B.own k→w'.heap[k]? = w.heap[k]?
theorem Fr.refl (B:Bd) (w:World):Fr B w w:=⟨rfl,rfl,rfl,Nat.le_refl _,Nat.le_refl _,fun _ _ _=>rfl⟩
theorem Fr.trans {B:Bd} {a b c:World} (h:Fr B a b) (k:Fr B b c):Fr B a c :=
  ⟨k.os.trans h.os,k.tape.trans h.tape,k.output.trans h.output,Nat.le_trans h.size k.size,Nat.le_trans h.drawn k.drawn,fun i hi hb=>(k.block i (Nat.lt_of_lt_of_le hi h.size) hb).trans (h.block i hi hb)⟩
theorem Fr.mono {B B':Bd} {w w':World} (h:Fr B w w') (hB:∀ k,B.own k→B'.own k):Fr B' w w' :=
  ⟨h.os,h.tape,h.output,h.size,h.drawn,fun k hk hb=>h.block k hk fun h'=>hb (hB k h')⟩
theorem Fr.drew {B:Bd} {a w:World} (h:Fr B a w):Fr B a w.drew:=⟨h.os,h.tape,h.output,h.size,Nat.le_succ_of_le h.drawn,h.block⟩
theorem Fr.below {w w':World} (h:Fr (eN w) w w'):Below w.heap.size w w':=⟨h.os,h.tape,h.output,h.size,fun k hk=>h.block k hk (Nat.not_le_of_lt hk)⟩
def BlkRel (E:Univ U El) (S:Nat→Prop) (ρ:Rho) (w:World) (B:Bd) (l:Loc):Blk U El→Prop
  | .rows u xs=>l.s=E.sz u∧l.ln=xs.length∧xs.length * E.sz u≤l.n∧(l.n≠0→B.own l.b∧¬ S l.b∧∃ c,w.heap[l.b]? = some (.cells c (E.tid u) (0,0))∧c.size=l.n ∧
      ∀ (i:Nat) x (j:Nat) a,xs[i]? = some x→(E.enc u x)[j]? = some a→∃ v,c[i * E.sz u+j]? = some v∧Rel E S ρ w a v)
  | .box t cs=>(t=0∨B.pin t=some l)∧l.n=cs.length∧(l.n≠0→B.own l.b∧¬ S l.b∧∃ c e,w.heap[l.b]? = some (.cells c e (0,0))∧c.size=l.n∧∀ (j:Nat) a,cs[j]? = some a→∃ v,c[j]? = some v∧Rel E S ρ w a v)
  | .map u v es=>l.n=1∧B.own l.b∧¬ S l.b∧∃ ents clock,w.heap[l.b]? = some (.map ents clock)∧ents.size=es.length∧∀ (i:Nat) (e:MapEntry) (p:El u×El v),ents[i]? = some e→es[i]? = some p→ERel E S ρ w u p.1 e.key∧ERel E S ρ w v p.2 e.val
  | .amap u ks cs=>l.n=1∧B.own l.b∧¬ S l.b∧∃ ents clock,w.heap[l.b]? = some (.map ents clock)∧ents.size=ks.length∧ents.size=cs.length∧∀ (i:Nat) (e:MapEntry) (y:El u) (c:AV U El),ents[i]? = some e→ks[i]? = some y→cs[i]? = some c→ERel E S ρ w u y e.key∧Rel E S ρ w c e.val
  | .bld T j=>l.n=2∧B.own l.b∧¬ S l.b∧∃ c0 c1,w.heap[l.b]? = some (.cells #[c0,c1] T (0,0))∧(c0 = .pointer none∨c0 = .pointer (some ⟨l.b,0,none⟩))∧(∀ ao n,c1 ≠ .slice (some ao) n 0)∧Rel E S ρ w (.ful j) c1
structure HRel (E:Univ U El) (S:Nat→Prop) (ρ:Rho) (w:World) (B:Bd) (H:az U El):Prop where
  get:∀ id b,ac H id=some b→∃ l,ρ id=some l∧BlkRel E S ρ w B l b
  inj:∀ i j b b' l l',ac H i=some b→ac H j=some b'→i≠j→ρ i=some l→ρ j=some l'→l.n≠0→l'.n≠0→l.b≠l'.b
  lt:∀ b,S b→b < w.heap.size
theorem ERel.mono {u:U} {x:El u} {v:Value} (h:ERel E S ρ w u x v) (hS:∀ b,S b→S' b) (hw:∀ b,S b→w'.heap[b]? = w.heap[b]?) (hρ:∀ id l,ρ id=some l→ρ' id=some l):ERel E S' ρ' w' u x v:=by
  unfold ERel at *
  split
  · rename_i e; rw [if_pos e] at h
    obtain ⟨vs,h1,h2,h3⟩:=h
    exact ⟨vs,h1,h2,fun i c v hc hv=>(h3 i c v hc hv).mono hS hw hρ⟩
  · rename_i e; rw [if_neg e] at h
    obtain ⟨c,h1,h2⟩:=h
    exact ⟨c,h1,h2.mono hS hw hρ⟩
theorem ERel.cellρ {u:U} {x:El u} {v:Value} (hg:UGood P E) (h:ERel E S ρ w u x v):ERel E S ρ' w u x v:=by
  unfold ERel at *
  split
  · rename_i e; rw [if_pos e] at h
    obtain ⟨vs,h1,h2,h3⟩:=h
    exact ⟨vs,h1,h2,fun i c v hc hv=>(h3 i c v hc hv).cellρ hg (hg.cell u x c (List.mem_of_getElem? hc))⟩
  · rename_i e; rw [if_neg e] at h
    obtain ⟨c,h1,h2⟩:=h
    exact ⟨c,h1,h2.cellρ hg (hg.cell u x c (by rw [h1]; simp))⟩
theorem BlkRel.lt {B:Bd} {l:Loc} {b:Blk U El} (h:BlkRel E S ρ w B l b) (hn:l.n≠0):l.b < w.heap.size∧B.own l.b∧¬ S l.b:=by
  have key:∀ {ob:Obj},w.heap[l.b]? = some ob→l.b < w.heap.size:=fun hh=>by
    rcases Nat.lt_or_ge l.b w.heap.size with h' | h'
    · exact h'
    · rw [Array.getElem?_eq_none h'] at hh; cases hh
  cases b with
  | rows u xs=>obtain ⟨_,_,_,h⟩:=h; obtain ⟨h1,h2,c,hh,_⟩:=h hn; exact ⟨key hh,h1,h2⟩
  | box t cs=>obtain ⟨_,_,h⟩:=h; obtain ⟨h1,h2,c,e,hh,_⟩:=h hn; exact ⟨key hh,h1,h2⟩
  | map u v es=>obtain ⟨_,h1,h2,c,e,hh,_⟩:=h; exact ⟨key hh,h1,h2⟩
  | amap u ks cs=>obtain ⟨_,h1,h2,c,e,hh,_⟩:=h; exact ⟨key hh,h1,h2⟩
  | bld T j=>obtain ⟨_,h1,h2,c0,c1,hh,_⟩:=h; exact ⟨key hh,h1,h2⟩
theorem BlkRel.mono {B:Bd} {l:Loc} {b:Blk U El} (h:BlkRel E S ρ w B l b) (hS:∀ b,S b→S' b) (hw:∀ b,S b→w'.heap[b]? = w.heap[b]?) (hρ:∀ id l,ρ id=some l→ρ' id=some l)
    (hb:l.n≠0→w'.heap[l.b]? = w.heap[l.b]? ∧ ¬ S' l.b):BlkRel E S' ρ' w' B l b:=by
  cases b with
  | rows u xs =>
    obtain ⟨h1,h2,h3,h⟩:=h
    refine ⟨h1,h2,h3,fun hn => ?_⟩
    obtain ⟨h4,h5,c,hh,h6,h7⟩:=h hn
    exact ⟨h4,(hb hn).2,c,(hb hn).1.trans hh,h6,fun i x j a hi hj=>by obtain ⟨v,hv,hr⟩:=h7 i x j a hi hj; exact ⟨v,hv,hr.mono hS hw hρ⟩⟩
  | map u v es =>
    obtain ⟨h1,h4,h5,c0,c1,hh,h6,h7⟩:=h
    have hn:l.n≠0:=by omega
    exact ⟨h1,h4,(hb hn).2,c0,c1,(hb hn).1.trans hh,h6,fun i e p hi hj=>⟨(h7 i e p hi hj).1.mono hS hw hρ,(h7 i e p hi hj).2.mono hS hw hρ⟩⟩
  | amap u ks cs =>
    obtain ⟨h1,h4,h5,c0,c1,hh,h6,h7,h8⟩:=h
    have hn:l.n≠0:=by omega
    exact ⟨h1,h4,(hb hn).2,c0,c1,(hb hn).1.trans hh,h6,h7,fun i e y c hi hj hk=>⟨(h8 i e y c hi hj hk).1.mono hS hw hρ,(h8 i e y c hi hj hk).2.mono hS hw hρ⟩⟩
  | box t cs =>
    obtain ⟨h0,h1,h⟩:=h
    refine ⟨h0,h1,fun hn => ?_⟩
    obtain ⟨h4,h5,c,e,hh,h6,h7⟩:=h hn
    exact ⟨h4,(hb hn).2,c,e,(hb hn).1.trans hh,h6,fun j a hj=>by obtain ⟨v,hv,hr⟩:=h7 j a hj; exact ⟨v,hv,hr.mono hS hw hρ⟩⟩
  | bld T j =>
    obtain ⟨h1,h4,h5,c0,c1,hh,h6,h7,h8⟩:=h
    have hn:l.n≠0:=by omega
    exact ⟨h1,h4,(hb hn).2,c0,c1,(hb hn).1.trans hh,h6,h7,h8.mono hS hw hρ⟩
theorem BlkRel.le {B B':Bd} {l:Loc} {b:Blk U El} (h:BlkRel E S ρ w B l b) (hB:∀ k,B.own k→B'.own k) (hP:∀ k l,B.pin k=some l→B'.pin k=some l):BlkRel E S ρ w B' l b:=by
  cases b with
  | rows u xs=>obtain ⟨h1,h2,h3,h⟩:=h; exact ⟨h1,h2,h3,fun hn=>⟨hB _ (h hn).1,(h hn).2⟩⟩
  | box t cs=>obtain ⟨h0,h1,h⟩:=h; exact ⟨h0.imp id (hP t l),h1,fun hn=>⟨hB _ (h hn).1,(h hn).2⟩⟩
  | bld T j=>obtain ⟨h1,h⟩:=h; exact ⟨h1,hB _ h.1,h.2⟩
  | map u v es=>obtain ⟨h1,h⟩:=h; exact ⟨h1,hB _ h.1,h.2⟩
  | amap u ks cs=>obtain ⟨h1,h⟩:=h; exact ⟨h1,hB _ h.1,h.2⟩
structure Step (S:Nat→Prop) (ρ:Rho) (w:World) (S':Nat→Prop) (ρ':Rho) (w':World):Prop where
  fr:Fr (eN w) w w'
  s1:∀ b,S b→S' b
  s2:∀ b,S' b→S b∨w.heap.size≤b
  rho:∀ id l,ρ id=some l→ρ' id=some l
  lt:∀ b,S b→b < w.heap.size
theorem Step.below (h:Step S ρ w S' ρ' w'):Below w.heap.size w w':=h.fr.below
theorem Step.same (h:Step S ρ w S' ρ' w'):∀ b,S b→w'.heap[b]? = w.heap[b]? := fun b hb=>h.below.block b (h.lt b hb)
theorem Step.rel (h:Step S ρ w S' ρ' w') {a:AV U El} {v:Value} (hr:Rel E S ρ w a v):Rel E S' ρ' w' a v:=hr.mono h.s1 h.same h.rho
theorem Step.refl (hlt:∀ b,S b→b < w.heap.size):Step S ρ w S ρ w:=⟨Fr.refl _ _,fun _ h=>h,fun _ h => .inl h,fun _ _ h=>h,hlt⟩
theorem Step.blk (h:Step S ρ w S' ρ' w') {B:Bd} {l:Loc} {b:Blk U El} (hb:BlkRel E S ρ w B l b):BlkRel E S' ρ' w' B l b :=
  hb.mono h.s1 h.same h.rho fun hn=>by
    obtain ⟨h1,h2,h3⟩:=hb.lt hn
    exact ⟨h.below.block _ h1,fun hs=>by rcases h.s2 _ hs with k | k; exact h3 k; omega⟩
theorem bf {H H':az U El} {id:Nat}:ac (H++H') id=match ac H id with | some b=>some b | none=>ac H' id:=by
  induction H with
  | nil=>rfl
  | cons p H ih =>
    obtain ⟨j,b⟩:=p
    simp only [List.cons_append,ac]
    cases Nat.beq j id<;>simp [ih]
theorem Step.heap (h : Step S ρ w S' ρ' w') {B : Bd} {H N : az U El} (hH : HRel E S ρ w B H) (hN : HRel E S' ρ' w' (eN w) N) (hB : ∀ k, w.heap.size ≤ k → B.own k) (hd : ∀ id b, ac N id = some b → ρ id = none) : HRel E S' ρ' w' B (N ++ H) where
  get := fun id b hg => by
    rw [bf] at hg
    cases hn:ac N id with
    | some b' =>
      rw [hn] at hg
      cases hg
      obtain ⟨l,h1,h2⟩:=hN.get id b hn
      exact ⟨l,h1,h2.le hB (fun _ _ h=>by cases h)⟩
    | none =>
      rw [hn] at hg
      obtain ⟨l,h1,h2⟩:=hH.get id b hg
      exact ⟨l,h.rho _ _ h1,h.blk h2⟩
  inj := fun i j b b' l l' hi hj hne hli hlj hn hn' => by
    rw [bf] at hi hj
    cases ni:ac N i with
    | some bi =>
      obtain ⟨l1,e1,r1⟩:=hN.get i bi ni
      rw [hli] at e1; cases e1
      have c1:=r1.lt hn
      cases nj:ac N j with
      | some bj=>exact hN.inj i j bi bj l l' ni nj hne hli hlj hn hn'
      | none =>
        rw [nj] at hj
        obtain ⟨l2,e2,r2⟩:=hH.get j b' hj
        have:=h.rho _ _ e2
        rw [hlj] at this; cases this
        have c2:=r2.lt hn'
        have c1':w.heap.size≤l.b:=c1.2.1
        omega
    | none =>
      rw [ni] at hi
      obtain ⟨l1,e1,r1⟩:=hH.get i b hi
      have k1:=h.rho _ _ e1
      rw [hli] at k1; cases k1
      have c1:=r1.lt hn
      cases nj:ac N j with
      | some bj =>
        obtain ⟨l2,e2,r2⟩:=hN.get j bj nj
        rw [hlj] at e2; cases e2
        have c2:=r2.lt hn'
        have c2':w.heap.size≤l'.b:=c2.2.1
        omega
      | none =>
        rw [nj] at hj
        obtain ⟨l2,e2,r2⟩:=hH.get j b' hj
        have k2:=h.rho _ _ e2
        rw [hlj] at k2; cases k2
        exact hH.inj i j b b' l l' hi hj hne e1 e2 hn hn'
  lt:=hN.lt
theorem Step.trans {S1 S2 S3:Nat→Prop} {ρ1 ρ2 ρ3:Rho} {w1 w2 w3:World} (h:Step S1 ρ1 w1 S2 ρ2 w2) (k:Step S2 ρ2 w2 S3 ρ3 w3):Step S1 ρ1 w1 S3 ρ3 w3 :=
  ⟨h.fr.trans (k.fr.mono fun i hi=>Nat.le_trans h.fr.size hi),fun b hb=>k.s1 b (h.s1 b hb),fun b hb=>by
    rcases k.s2 b hb with e | e
    · exact h.s2 b e
    · exact .inr (Nat.le_trans h.below.size e),fun id l e=>k.rho id l (h.rho id l e),h.lt⟩
def ar (P : Program) (E : Univ U El) (f : FuncId) (args : List (AV U El)) (res : AV U El) (ex : az U El) : Prop :=
  (∀ as w,(callFunc f as).run P w = .ok (.enter f as) w)∧(∀ id b,ac ex id=some b→id < 4) ∧
  ∀ (S : Nat → Prop) (w : World) (vs : Array Value), (∀ b, S b → b < w.heap.size) → E.G w → dW E S (fun _ => none) w args vs →
    Calls P f vs w fun e w'=>∃ v S' ρ',e = .returned v∧Step S (fun _=>none) w S' ρ' w'∧HRel E S' ρ' w' (eN w) ex∧Rel E S' ρ' w' res v
def MCall (P : Program) (E : Univ U El) (f : FuncId) (args : List (AV U El)) (hs : az U El) (v : AV U El) (h : az U El) : Prop :=
  ∀ (B : Bd) (S : Nat → Prop) (ρ : Rho) (w : World) (vs : Array Value), (∀ k, w.heap.size ≤ k → B.own k) → (∀ w', Fr B w w' → E.G w') → HRel E S ρ w B hs → dW E S ρ w args vs →
    Calls P f vs w fun e w'=>∃ v' S' ρ',e = .returned v'∧Fr B w w'∧(∀ b,S b→S' b)∧(∀ b,S' b→S b∨B.own b)∧HRel E S' ρ' w' B h∧Rel E S' ρ' w' v v'
theorem HRel.df {E:Univ U El} {S:Nat→Prop} {ρ:Rho} {w:World} {B:Bd} {H:az U El} (h:HRel E S ρ w B H) (D:List Deferred):HRel E S ρ w ⟨B.own,B.pin,D⟩ H :=
  ⟨fun id b hg=>by obtain ⟨l,h1,h2⟩:=h.get id b hg; exact ⟨l,h1,h2.le (B':=⟨B.own,B.pin,D⟩) (fun _ h=>h) (fun _ _ h=>h)⟩,h.inj,h.lt⟩
theorem HRel.df' {E:Univ U El} {S:Nat→Prop} {ρ:Rho} {w:World} {B:Bd} {H:az U El} {D:List Deferred} (h:HRel E S ρ w ⟨B.own,B.pin,D⟩ H):HRel E S ρ w B H :=
  ⟨fun id b hg=>by obtain ⟨l,h1,h2⟩:=h.get id b hg; exact ⟨l,h1,h2.le (B':=B) (fun _ h=>h) (fun _ _ h=>h)⟩,h.inj,h.lt⟩
theorem MCall.of_clean {E:Univ U El} {f:FuncId} {args:List (AV U El)} {hs:az U El} {v:AV U El} {h:az U El}
    (hm:∀ (B:Bd) (S:Nat→Prop) (ρ:Rho) (w:World) (vs:Array Value),B.df=[]→(∀ k,w.heap.size≤k→B.own k)→(∀ w',Fr B w w'→E.G w')→HRel E S ρ w B hs→dW E S ρ w args vs →
      Calls P f vs w fun e w'=>∃ v' S' ρ',e = .returned v'∧Fr B w w'∧(∀ b,S b→S' b)∧(∀ b,S' b→S b∨B.own b)∧HRel E S' ρ' w' B h∧Rel E S' ρ' w' v v'):MCall P E f args hs v h:=by
  intro B S ρ w vs hB hG hH hr
  refine (hm ⟨B.own,B.pin,[]⟩ S ρ w vs rfl hB (fun w' hf=>hG w' (hf.mono fun _ h=>h)) (hH.df []) hr).mono ?_
  rintro e w' ⟨v',S',ρ',h1,h2,h3,h4,h5,h6⟩
  exact ⟨v',S',ρ',h1,h2.mono fun _ h=>h,h3,h4,h5.df',h6⟩
def lU (P:Program) (E:Univ U El) (f:FuncId) (sp:MSp U El):Prop :=
  (∀ as w,(callFunc f as).run P w = .ok (.enter f as) w)∧∀ args hs k r,sp args hs k=some r→∃ v hc,MCall P E f args hs v hc∧k v hc=some r
def lV (P:Program) (E:Univ U El) (f:FuncId) (sp:MSp U El):Prop :=
  lU P E f sp∧∀ args hs,∃ oo:Option (AV U El×az U El),∀ k,sp args hs k=oo.bind fun p=>k p.1 p.2
end
end Go.Proofs.YtnofdcckddfooaaGreatDoor

namespace Go.Proofs.YtnofdcckddfooaaGreatDoor
set_option linter.unusedVariables false
set_option linter.unusedSectionVars false
set_option linter.unusedSimpArgs false
open Go.RowKit
def szT (P:Program) (t:TypeId):Nat:=((P.info? t).map (·.size)).getD 0
def agD:TypeDesc→Bool
  | .struct _=>true
  | .array _ _=>true
  | _=>false
def agT (P:Program) (t:TypeId):Bool:=((P.underlying t).map agD).getD false
section
variable {U:Type} {El:U→Type}
def oW (P:Program) (E:Univ U El) (t:TypeId):TD U→Prop
  | .one=>∃ d,P.underlying t=some d∧agD d=false
  | .bool=>P.underlying t=some .bool
  | .ptr=>∃ e,P.underlying t=some (.pointer e)
  | .iface=>∃ e,P.underlying t=some (.interface e)
  | .int k=>P.underlying t=some (.int k)
  | .str=>P.underlying t=some .string
  | .slice u=>P.underlying t=some (.slice (E.tid u))
  | .struct fs sz=>∃ fields,P.underlying t=some (.struct fields)∧(∃ i,P.info? t=some i∧i.size=sz∧∃ z,i.zero=some z∧z.cells.size=sz)∧P.stoodInHeld t=false∧P.eqGuardType P.depth t=false ∧
      fs=fields.toList.map (fun f=>(f.offset,szT P f.type,agT P f.type))∧(∀ f∈fields.toList,(∃ d,P.underlying f.type=some d)∧(∃ i,P.info? f.type=some i∧i.size≠0))
  | .bld u=>E.sz u=1∧(∃ d,P.underlying t=some d)∧∃ i,P.info? t=some i∧i.size=2∧i.zero=some (.agg #[.pointer none,.slice none 0 0])
  | .map u v=>P.underlying t=some (.map (E.tid u) (E.tid v))
  | .amap u=>∃ v e,P.underlying t=some (.map (E.tid u) v)∧P.underlying v=some (.pointer e)∧∃ i,P.info? v=some i∧i.zero=some (.pointer none)
  | .arr n es ea sz=>∃ e,P.underlying t=some (.array n e)∧(∃ i,P.info? t=some i∧i.size=sz∧∃ z,i.zero=some z∧z.cells.size=sz)∧(∃ i,P.info? e=some i∧i.size=es)∧(∃ d,P.underlying e=some d∧agD d=ea)
def gV (P:Program) (t:TypeId):Nat→Prop
  | 0=>∃ kd,P.underlying t=some (.int kd)
  | 1=>P.underlying t=some .bool
  | _=>P.underlying t=some .string
def qp (P : Program) (t : TypeId) (ts : List Nat) : Prop :=
  ∃ fields : Array Field, P.underlying t = some (.struct fields) ∧ P.stoodInHeld t = false ∧ P.eqGuardType P.depth t = false ∧ fields.toList.length = ts.length ∧
    ∀ (i : Nat) (f : Field) (k : Nat), fields.toList[i]? = some f → ts[i]? = some k → f.name ≠ "_" ∧ f.offset = i ∧ gV P f.type k
def qq (P:Program) (t:TypeId) (ts:List Nat):Prop :=
  ∃ n e i k,P.underlying t=some (.array n e)∧P.info? e=some i∧P.cellsOf e=1∧P.eqGuardType P.depth t=false∧ts=List.replicate n k∧gV P e k
def uZ (P:Program) (t:TypeId) (ts:List Nat):Prop:=qp P t ts∨qq P t ts
structure CtxOk (P:Program) (X:Ctx U El):Prop where
  mixed:P.follows .mixedOrders=true
  u:UGood P X.E
  td:∀ t d,aV X.tds t=some d→oW P X.E t d
  z:∀ t v,jY X.zeros t=some v→∃ i,P.info? t=some i∧i.zero=some v
  one:∀ t td,aV X.tds t=some td→∃ i,P.info? t=some i∧(agT P t=false→i.size=1)
  eq:∀ t,gG X.eqs t≠[]→uZ P t (gG X.eqs t)
  det:∀ f vs,∃ oo:Option (AV U El×az U El),∀ k,X.spec f vs k=oo.bind fun p=>k p.1 p.2
  dsp:∀ f sp,X.dspec f=some sp→lV P X.E f sp
  spec:∀ f vs k r,X.spec f vs k=some r→∃ res ex,ar P X.E f vs res ex∧k res ex=some r
variable {P:Program} {X:Ctx U El} {S:Nat→Prop} {ρ:Rho} {w:World} {E:Univ U El}
theorem bS {t:TypeId} {d:TypeDesc} (h:P.underlying t=some d) (w:World):(isAgg t).run P w = .ok (agD d) w:=by
  cases d<;>simp [isAgg,run_underlying h,agD]
theorem cE {t:TypeId} {i:TypeInfo} (h:P.info? t=some i) (w:World):(sizeOf t).run P w = .ok i.size w:=by
  simp [sizeOf,typeInfo,h]
theorem r8 {t:TypeId} {i:TypeInfo} (h:P.info? t=some i):szT P t=i.size:=by simp [szT,h]
theorem r9 {t:TypeId} {d:TypeDesc} (h:P.underlying t=some d):agT P t=agD d:=by simp [agT,h]
theorem ae {R:Type} {b:Bool} {x:Option R} {r:R} (h:chk b x=some r):b=true∧x=some r:=by
  cases b
  · cases h
  · exact ⟨rfl,h⟩
theorem nq {R:Type} {i:Int} {k:Nat→Option R} {r:R}:∀ (m j:Nat),iY i j m k=some r→∃ q,j≤q∧q < j+m∧i=Int.ofNat q∧k q=some r:=by
  intro m
  induction m with
  | zero=>intro j h; cases h
  | succ m ih =>
    intro j h
    simp only [iY] at h
    cases hb:(i == Int.ofNat j) with
    | true=>rw [hb] at h; exact ⟨j,Nat.le_refl _,by omega,by simpa using hb,h⟩
    | false =>
      rw [hb] at h
      obtain ⟨q,h1,h2,h3,h4⟩:=ih (j+1) h
      exact ⟨q,by omega,by omega,h3,h4⟩
theorem eT {R:Type} {n:Nat} {i:Int} {k:Nat→Option R} {r:R} (h:ixA n i k=some r):inb i n=true∧k i.toNat=some r:=by
  unfold ixA at h
  cases hb:Nat.ble n 8 with
  | true =>
    rw [hb] at h
    obtain ⟨q,_,h2,rfl,h4⟩:=nq _ _ h
    refine ⟨?_,h4⟩
    simp only [inb,ile,ilt,Bool.and_eq_true,decide_eq_true_eq]
    simp
    omega
  | false=>rw [hb] at h; exact ae h
theorem fm:∀ (l:List Value) (i:Nat) c v,(constAV.constL l:List (AV U El))[i]? = some c→l[i]? = some v→Rel E S ρ w c v:=by
  intro l
  induction l with
  | nil=>intro i c v h; simp [constAV.constL] at h
  | cons x l ih =>
    intro i c v hc hv
    unfold constAV.constL at hc
    split at hc<;>(cases i with
      | zero=>first | (simp at hc hv; done) | (simp at hc hv; subst hc; first | (subst hv; constructor; done) | (cases ‹_=_›; subst hv; constructor; done) | (simp_all; subst_vars; first | exact .any _ | exact .bool _ | exact .int _ _ | exact .str _ | exact .nilp | exact .nils | exact .nilm | exact .nilf | exact .nili))
      | succ i=>first | (simp at hc hv; done) | (simp at hc hv; first | exact ih i c v hc hv | (simp_all; exact ih i c v hc hv)))
theorem fo:∀ (l:List Value),(constAV.constL l:List (AV U El)).length=l.length:=by
  intro l
  induction l with
  | nil=>rfl
  | cons x l ih =>
    unfold constAV.constL
    split<;>simp_all
theorem Rel.const (v:Value):Rel E S ρ w (constAV v:AV U El) v:=by
  unfold constAV
  split
  · exact .bool _
  · exact .int _ _
  · exact .str _
  · exact .nilp
  · exact .nils
  · exact .nilm
  · exact .nilf
  · exact .nili
  · exact .agg _ _ (by simp [fo]) fun i c v hc hv=>fm _ i c v hc (by simpa using hv)
  · exact .tup _ _ (by simp [fo]) fun i c v hc hv=>fm _ i c v hc (by simpa using hv)
  · exact .any _
def TRel (E:Univ U El) (S:Nat→Prop) (ρ:Rho) (w:World) (o:Oper) (t:ba U El) (a:Act):Prop:=∀ i,.tmp i∈o.op.operands→Rel E S ρ w (aK t i) (a.tmps.getD i undef)
theorem Rel.oget {t:ba U El} {a:Act} {x:Operand} (h:∀ i,x = .tmp i→Rel E S ρ w (aK t i) (a.tmps.getD i undef)):Rel E S ρ w (oget t x) (a.eval x):=by
  cases x with
  | tmp i=>exact h i rfl
  | const v=>exact Rel.const v
  | global g=>exact .any _
  | func f=>exact .fn f [] [] #[] #[] rfl rfl (by simp) (by simp)
theorem TRel.get {o:Oper} {t:ba U El} {a:Act} (h:TRel E S ρ w o t a) {x:Operand} (hx:x∈o.op.operands):Rel E S ρ w (oget t x) (a.eval x) :=
  Rel.oget fun i e=>h i (e ▸ hx)
variable [DecidableEq U]
def bg (P : Program) (E : Univ U El) (S : Nat → Prop) (ρ : Rho) (w : World) (o : Oper) (a : Act) (d : Nat) (out : Out U El) : Prop :=
  ∀ (next : Act → World → Prop) (Q : Exit → Act → World → Prop),
    (∀ v w' S' ρ',Step S ρ w S' ρ' w'→Rel E S' ρ' w' out.v v→HRel E S' ρ' w' (eN w) out.new→(∀ id b,ac out.new id=some b→id∈aU o d)→(∀ id,id ∉ aU o d→ρ' id=ρ id)→next (a.put o.dst v) w') →
    o.wp P a w next Q
theorem HRel.nil (hlt:∀ b,S b→b < w.heap.size) (B:Bd):HRel E S ρ w B ([]:az U El):=⟨by simp [ac],by simp [ac],hlt⟩
theorem au {o:Oper} {a:Act} {d:Nat} {av:AV U El} {v:Value} (hrun:(execOp a.eval o).run P w = .ok (.value v) w) (hr:Rel E S ρ w av v) (hlt:∀ b,S b→b < w.heap.size) :
    bg P E S ρ w o a d ⟨av,[]⟩:=by
  intro next Q hn
  unfold Oper.wp
  rw [hrun]
  exact hn v w S ρ (Step.refl hlt) hr (HRel.nil hlt _) (by simp [ac]) (fun _ _=>rfl)
theorem dG (w:World) (o:Obj):(w.alloc o).heap[w.heap.size]? = some o:=heap_alloc_new w o
theorem ah {a b:Nat} (h:a≠b):Nat.beq a b=false:=by
  cases hq:Nat.beq a b with
  | false=>rfl
  | true=>exact absurd (Nat.eq_of_beq_eq_true hq) h
theorem gW {o : Oper} {a : Act} {d : Nat} {av : AV U El} {blk : Blk U El} {v : Value} {ob : Obj} (l : Loc) (hn : d ∈ aU o d) (hd : ρ d = none)
    (hrun:(execOp a.eval o).run P w = .ok (.value v) (w.alloc ob)) (hlt:∀ b,S b→b < w.heap.size)
    (hl:l.n≠0→l.b=w.heap.size)
    (hr:∀ ρ',ρ' d=some l→(∀ id l,ρ id=some l→ρ' id=some l)→Rel E S ρ' (w.alloc ob) av v)
    (hb:∀ ρ',ρ' d=some l→(∀ id l,ρ id=some l→ρ' id=some l)→¬ S w.heap.size→BlkRel E S ρ' (w.alloc ob) (eN w) l blk) :
    bg P E S ρ w o a d ⟨av,[(d,blk)]⟩:=by
  intro next Q hnx
  unfold Oper.wp
  rw [hrun]
  have hns:¬ S w.heap.size:=fun h=>by have:=hlt _ h; omega
  have e1:(ρ.set d l) d=some l:=by simp [Rho.set]
  have e2:∀ id l',ρ id=some l'→(ρ.set d l) id=some l':=fun id l' h=>by
    by_cases e:id=d
    · subst e; rw [hd] at h; cases h
    · simp [Rho.set,e,h]
  refine hnx v _ S (ρ.set d l) ⟨⟨rfl,rfl,rfl,by simp,Nat.le_refl _,fun k hk _=>heap_alloc_old w _ k hk⟩,fun _ h=>h,fun _ h => .inl h,e2,hlt⟩ (hr _ e1 e2) ⟨?_,?_,?_⟩ ?_ ?_
  · intro id b hg
    simp only [ac] at hg
    by_cases e:d=id
    · subst e
      simp [cond] at hg
      subst hg
      exact ⟨l,e1,hb _ e1 e2 hns⟩
    · have : Nat.beq d id = false := ah e
      simp [this,cond] at hg
  · intro i j b b' l1 l2 hi hj hne
    exfalso
    simp only [ac] at hi hj
    have h1:d=i:=by
      by_cases e:d=i
      · exact e
      · have : Nat.beq d i = false := ah e
        simp [this,cond] at hi
    have h2:d=j:=by
      by_cases e:d=j
      · exact e
      · have : Nat.beq d j = false := ah e
        simp [this,cond] at hj
    omega
  · intro b hb'
    have:=hlt b hb'
    simp; omega
  · intro id b hg
    simp only [ac] at hg
    by_cases e:d=id
    · subst e; exact hn
    · have : Nat.beq d id = false := ah e
      simp [this,cond] at hg
  · intro id hi
    have:id≠d:=by rintro rfl; exact hi hn
    simp [Rho.set,this]
theorem eU {o:Oper} {a:Act} {d:Nat} {av:AV U El} {blk:Blk U El} {v:Value} {c:Array Value} {e:TypeId} (l:Loc) (hn:d∈aU o d) (hd:ρ d=none)
    (hrun:(execOp a.eval o).run P w = .ok (.value v) (w.alloc (.cells c e))) (hlt:∀ b,S b→b < w.heap.size)
    (hl:l.n≠0→l.b=w.heap.size)
    (hr:∀ ρ',ρ' d=some l→(∀ id l,ρ id=some l→ρ' id=some l)→Rel E S ρ' (w.alloc (.cells c e)) av v)
    (hb:∀ ρ',ρ' d=some l→(∀ id l,ρ id=some l→ρ' id=some l)→¬ S w.heap.size→BlkRel E S ρ' (w.alloc (.cells c e)) (eN w) l blk) :
    bg P E S ρ w o a d ⟨av,[(d,blk)]⟩ :=
  gW (ob := .cells c e) l hn hd hrun hlt hl hr hb
section ops
variable {o:Oper} {a:Act} {t:ba U El} {h H:az U El} {B:Bd} {d:Nat} {k:Out U El→Option (Fin U El)} {r:Fin U El}
theorem qr {x:Operand} (ho:o.op = .move x∨o.op = .assign x) (hT:TRel X.E S ρ w o t a) (hlt:∀ b,S b→b < w.heap.size):bg P X.E S ρ w o a d ⟨oget t x,[]⟩:=by
  have hm:x∈o.op.operands:=by rcases ho with ho | ho<;>simp [ho,Op.operands]
  refine au ?_ (hT.get hm) hlt
  rcases ho with ho | ho<;>simp [execOp,ho]
theorem qs {c x y:Operand} {b:Bool} (ho:o.op = .pick c x y) (hc:oget t c = .bool b) (hT:TRel X.E S ρ w o t a) (hlt:∀ b,S b→b < w.heap.size):bg P X.E S ρ w o a d ⟨bif b then oget t x else oget t y,[]⟩:=by
  have h1:=hT.get (x:=c) (by simp [ho,Op.operands])
  have h2:=hT.get (x:=x) (by simp [ho,Op.operands])
  have h3:=hT.get (x:=y) (by simp [ho,Op.operands])
  rw [hc] at h1
  generalize hvc:a.eval c=vc at h1
  cases h1
  refine au (v:=if b then a.eval x else a.eval y) ?_ (by cases b<;>simpa) hlt
  simp [execOp,ho,hvc,asBool]
theorem cz {av:AV U El} {v:Value} {cs:List (AV U El)} (h:Rel E S ρ w av v) (hc:cellsOf av=some cs):v.cells.size=cs.length∧∀ (j:Nat) c x,cs[j]? = some c→v.cells[j]? = some x→Rel E S ρ w c x:=by
  unfold cellsOf at hc
  split at hc
  · cases hc; cases h with | agg _ vs hl h=>exact ⟨hl,h⟩
  · cases hc
  · cases hc
  · rename_i h1 h2 h3
    cases hc
    have hv:v.cells=#[v]:=by
      cases h<;>first | rfl | (exfalso; exact h1 _ rfl) | (exfalso; exact h2 rfl) | (exfalso; exact h3 _ rfl)
    rw [hv]
    refine ⟨rfl,fun j c x hj hx => ?_⟩
    cases j with
    | zero=>simp at hj hx; subst hj; subst hx; exact h
    | succ j=>simp at hj
theorem u6 {e:TypeId} {x:Operand} {cs:List (AV U El)} (ho:o.op = .box e x) (hc:cellsOf (oget t x)=some cs) (hT:TRel X.E S ρ w o t a) (hlt:∀ b,S b→b < w.heap.size) (hd:ρ d=none):bg P X.E S ρ w o a d ⟨.ptr d 0,[(d,.box 0 cs)]⟩:=by
  have h1:=hT.get (x:=x) (by simp [ho,Op.operands])
  obtain ⟨h2,h3⟩:=cz h1 hc
  refine eU (v := .pointer (some ⟨w.heap.size,0,none⟩)) (c:=(a.eval x).cells) (e:=e) ⟨w.heap.size,cs.length,0,0⟩ (by simp [aU,ho]) hd ?_ hlt (fun _=>rfl) (fun ρ' e1 e2 => .ptr d 0 _ e1) (fun ρ' e1 e2 hns=>⟨.inl rfl,rfl,fun hn=>⟨Nat.le_refl _,hns,_,e,dG _ _,h2,fun j c hj => ?_⟩⟩)
  · simp [execOp,ho,Instr.box,newVar,newRow]
  · have hj' : j < (a.eval x).cells.size := by rw [h2]; exact (List.getElem?_eq_some_iff.1 hj).1
    refine ⟨_,Array.getElem?_eq_getElem hj',?_⟩
    exact (h3 j c _ hj (Array.getElem?_eq_getElem hj')).mono (fun _ h=>h) (fun b hb=>heap_alloc_old w _ b (hlt b hb)) e2
theorem sb {e:TypeId} {z:Value} {cs:List (AV U El)} (hX:CtxOk P X) (ho:o.op = .alloc e) (hz:jY X.zeros e=some z) (hc:cellsOf (constAV z)=some cs) (hlt:∀ b,S b→b < w.heap.size) (hd:ρ d=none):bg P X.E S ρ w o a d ⟨.ptr d 0,[(d,.box 0 cs)]⟩:=by
  obtain ⟨i,hi,hiz⟩:=hX.z _ _ hz
  obtain ⟨h2,h3⟩:=cz (Rel.const (E:=X.E) (S:=S) (ρ:=ρ) (w:=w) z) hc
  refine eU (v := .pointer (some ⟨w.heap.size,0,none⟩)) (c:=z.cells) (e:=e) ⟨w.heap.size,cs.length,0,0⟩ (by simp [aU,ho]) hd ?_ hlt (fun _=>rfl) (fun ρ' e1 e2 => .ptr d 0 _ e1) (fun ρ' e1 e2 hns=>⟨.inl rfl,rfl,fun hn=>⟨Nat.le_refl _,hns,_,e,dG _ _,h2,fun j c hj => ?_⟩⟩)
  · simp [execOp,ho,Instr.alloc,zeroValue,typeInfo,hi,hiz,newVar,newRow]
  · have hj' : j < z.cells.size := by rw [h2]; exact (List.getElem?_eq_some_iff.1 hj).1
    refine ⟨_,Array.getElem?_eq_getElem hj',?_⟩
    exact (h3 j c _ hj (Array.getElem?_eq_getElem hj')).mono (fun _ h=>h) (fun b hb=>heap_alloc_old w _ b (hlt b hb)) e2
theorem rb {e : TypeId} {u : U} (hX : CtxOk P X) (ho : o.op = .alloc e) (ht : aV X.tds e = some (.bld u)) (hp : 0 < d) (hlt : ∀ b, S b → b < w.heap.size) (hd : ρ d = none) (hd' : ρ (d * 1000) = none) :
    bg P X.E S ρ w o a d ⟨.ptr d 0,[(d,.bld e (d * 1000)),(d * 1000,.rows u [])]⟩:=by
  obtain ⟨hsz,_,i,hi,his,hiz⟩:=hX.td _ _ ht
  have hne:d * 1000≠d:=by omega
  have hns:¬ S w.heap.size:=fun h=>by have:=hlt _ h; omega
  intro next Q hn
  have hrun:(execOp a.eval o).run P w = .ok (.value (.pointer (some ⟨w.heap.size,0,none⟩))) (w.alloc (.cells #[.pointer none,.slice none 0 0] e (0,0))):=by
    simp [execOp,ho,Instr.alloc,zeroValue,typeInfo,hi,hiz,newVar,newRow,Value.cells]
  unfold Oper.wp
  rw [hrun]
  have e1:((ρ.set d ⟨w.heap.size,2,0,0⟩).set (d * 1000) ⟨0,0,X.E.sz u,0⟩) d=some ⟨w.heap.size,2,0,0⟩:=by simp [Rho.set,Ne.symm hne]
  have e2:((ρ.set d ⟨w.heap.size,2,0,0⟩).set (d * 1000) ⟨0,0,X.E.sz u,0⟩) (d * 1000)=some ⟨0,0,X.E.sz u,0⟩:=by simp [Rho.set]
  have hold:∀ k,k < w.heap.size→(w.alloc (.cells #[.pointer none,.slice none 0 0] e (0,0))).heap[k]? = w.heap[k]? := fun k hk=>heap_alloc_old w _ k hk
  refine hn _ _ S ((ρ.set d ⟨w.heap.size,2,0,0⟩).set (d * 1000) ⟨0,0,X.E.sz u,0⟩) ⟨⟨rfl,rfl,rfl,by simp,Nat.le_refl _,fun k hk _=>hold k hk⟩,fun _ h=>h,fun _ h => .inl h,fun id l h => ?_,hlt⟩ (.ptr d 0 _ e1) ⟨fun id b hg => ?_,fun i j b b' l l' hgi hgj hij hli hlj hn1 hn2 => ?_,fun b hb=>by have:=hlt b hb; simp; omega⟩ (fun id b hg => ?_) (fun id hid => ?_)
  · by_cases h1 : id = d
    · subst h1; rw [hd] at h; cases h
    · by_cases h2 : id = d * 1000
      · subst h2; rw [hd'] at h; cases h
      · simp [Rho.set,h1,h2,h]
  · simp only [ac] at hg
    by_cases h1:d=id
    · subst h1
      rw [Nat.beq_refl] at hg
      cases hg
      exact ⟨_,e1,rfl,Nat.le_refl _,hns,_,_,dG _ _,.inl rfl,(fun _ _ h=>by simp at h),.fulN _ _ e2 rfl rfl⟩
    · rw [ah h1] at hg
      simp only [cond] at hg
      by_cases h2:d * 1000=id
      · subst h2
        rw [Nat.beq_refl] at hg
        cases hg
        exact ⟨_,e2,rfl,rfl,by simp,fun h=>absurd rfl h⟩
      · rw [ah h2] at hg; cases hg
  · simp only [ac] at hgi hgj
    by_cases h1:d=i
    · subst h1
      rw [ah hij] at hgj
      simp only [cond] at hgj
      by_cases h2:d * 1000=j
      · subst h2; rw [e2] at hlj; cases hlj; exact absurd rfl hn2
      · rw [ah h2] at hgj; cases hgj
    · rw [ah h1] at hgi
      simp only [cond] at hgi
      by_cases h2:d * 1000=i
      · subst h2; rw [e2] at hli; cases hli; exact absurd rfl hn1
      · rw [ah h2] at hgi; cases hgi
  · simp only [aU, ho]
    simp only [ac] at hg
    by_cases h1:d=id
    · simp [h1]
    · rw [ah h1] at hg
      simp only [cond] at hg
      by_cases h2:d * 1000=id
      · simp [h2]
      · rw [ah h2] at hg; cases hg
  · simp only [aU, ho, List.mem_cons, List.not_mem_nil, or_false, not_or] at hid
    simp [Rho.set,hid.1,hid.2]
theorem qu {ty:TypeId} {x:Operand} {u:UnOp} {av:AV U El} (ho:o.op = .unOp u ty x)
    (hv:(∃ b,u = .not∧oget t x = .bool b∧av = .bool (!b))∨(∃ kd n,u = .neg∧oget t x = .int kd n∧av = .int kd (kd.wrap (0 - n)))) (hT:TRel X.E S ρ w o t a) (hlt:∀ b,S b→b < w.heap.size):bg P X.E S ρ w o a d ⟨av,[]⟩:=by
  have h1:=hT.get (x:=x) (by simp [ho,Op.operands])
  rcases hv with ⟨b,rfl,hx,rfl⟩ | ⟨kd,n,rfl,hx,rfl⟩<;>rw [hx] at h1<;>generalize hvx:a.eval x=vx at h1<;>cases h1
  · exact au (v := .bool (!b)) (by simp [execOp,ho,hvx,Op.unary]) (.bool _) hlt
  · exact au (v := .int kd (kd.wrap (0 - n))) (by simp [execOp,ho,hvx,Op.unary,Op.intArith]) (.int _ _) hlt
theorem eH {x:Operand} (ho:o.op = .nilCheck x) (hv:(∃ i f,oget t x = .ptr i f)∨(∃ i j f,oget t x = .row i j f)∨(∃ u xs i f,oget t x = .pel u xs i f)∨(∃ cs f,oget t x = .pcs cs f)) (hT:TRel X.E S ρ w o t a) (hlt:∀ b,S b→b < w.heap.size):bg P X.E S ρ w o a d ⟨oget t x,[]⟩:=by
  have h1:=hT.get (x:=x) (by simp [ho,Op.operands])
  refine au ?_ h1 hlt
  rcases hv with ⟨_,_,e⟩ | ⟨_,_,_,e⟩ | ⟨_,_,_,_,e⟩ | ⟨_,_,e⟩<;>rw [e] at h1<;>generalize hvx:a.eval x=vx at h1<;>cases h1<;>simp [execOp,ho,hvx]
theorem oX {x:Operand} {i:Nat} {cs:List (AV U El)} {av:AV U El} (ho:o.op = .extract x i) (hx:oget t x = .tup cs) (hi:cs[i]? = some av) (hT:TRel X.E S ρ w o t a) (hlt:∀ b,S b→b < w.heap.size):bg P X.E S ρ w o a d ⟨av,[]⟩:=by
  have h1:=hT.get (x:=x) (by simp [ho,Op.operands])
  rw [hx] at h1
  generalize hvx:a.eval x=vx at h1
  cases h1 with
  | tup _ vs hl h2 =>
    have hj:i < vs.size:=by rw [hl]; exact (List.getElem?_eq_some_iff.1 hi).1
    refine au (v:=vs[i]) ?_ (h2 i av _ hi (Array.getElem?_eq_getElem hj)) hlt
    simp [execOp,ho,hvx,Instr.extract,Array.getElem?_eq_getElem hj]
theorem nu {f:FuncId} {as bs:Array Operand} (ho:o.op = .makeFunc (.func f) as bs) (hT:TRel X.E S ρ w o t a) (hlt:∀ b,S b→b < w.heap.size):bg P X.E S ρ w o a d ⟨.fn f (as.toList.map (oget t)) (bs.toList.map (oget t)),[]⟩:=by
  refine au (v := .func (.func f) (as.map a.eval) (bs.map a.eval)) ?_ ?_ hlt
  · simp [execOp,ho,Instr.makeFunc]
  · refine .fn f _ _ _ _ (by simp) (by simp) ?_ ?_ <;> intro i c v hc hv
    · simp only [List.getElem?_map, Option.map_eq_some_iff, Array.getElem?_map, Array.getElem?_toList] at hc hv
      obtain ⟨x,hx,rfl⟩:=hc
      obtain ⟨y,hy,rfl⟩:=hv
      rw [hx] at hy; cases hy
      exact hT.get (by simp [ho,Op.operands]; exact .inl (Array.mem_of_getElem? hx))
    · simp only [List.getElem?_map, Option.map_eq_some_iff, Array.getElem?_map, Array.getElem?_toList] at hc hv
      obtain ⟨x,hx,rfl⟩:=hc
      obtain ⟨y,hy,rfl⟩:=hv
      rw [hx] at hy; cases hy
      exact hT.get (by simp [ho,Op.operands]; exact .inr (Array.mem_of_getElem? hx))
end ops
end
end Go.Proofs.YtnofdcckddfooaaGreatDoor

namespace Go.Proofs.YtnofdcckddfooaaGreatDoor
set_option linter.unusedVariables false
set_option linter.unusedSectionVars false
set_option linter.unusedSimpArgs false
open Go.RowKit
section
variable {U:Type} {El:U→Type} {P:Program} {X:Ctx U El} {S:Nat→Prop} {ρ:Rho} {w:World} [DecidableEq U]
variable {o:Oper} {a:Act} {t:ba U El} {h H:az U El} {B:Bd} {d:Nat} {r:Fin U El}
theorem bP (b o n:Nat):Addr.add ⟨b,o,none⟩ n=⟨b,o+n,none⟩:=Addr.add_lit b o n
theorem nv {p : AV U El} {v : Value} {k : List (AV U El) → Nat → Option (Fin U El)} (hX : CtxOk P X) (hH : HRel X.E S ρ w B H) (hs : ∀ id b, ac h id = some b → ac H id = some b) (hr : Rel X.E S ρ w p v) (hv : nn X h p k = some r) :
    ∃ cs off b o,k cs off=some r∧v = .pointer (some ⟨b,o+off,none⟩)∧∀ (j:Nat) c,cs[j]? = some c→∃ x,w.cell? ⟨b,o+j,none⟩=some x∧Rel X.E S ρ w c x:=by
  unfold nn at hv
  split at hv
  · rename_i id off
    split at hv
    · rename_i tg cs hg
      obtain ⟨l,hl,hb⟩:=hH.get _ _ (hs _ _ hg)
      cases hr with
      | ptr _ _ l' hl' =>
        rw [hl] at hl'; cases hl'
        refine ⟨cs,off,l.b,0,hv,by simp,fun j c hj => ?_⟩
        obtain ⟨_,h1,h2⟩:=hb
        have hjl:=(List.getElem?_eq_some_iff.1 hj).1
        obtain ⟨_,_,c',e,hh,h3,h4⟩:=h2 (by omega)
        obtain ⟨x,hx,hrx⟩:=h4 j c hj
        exact ⟨x,by rw [Nat.zero_add,cell_of_row w l.b j c' e (0,0) hh]; exact hx,hrx⟩
    · cases hv
  · rename_i id i off
    split at hv
    · rename_i u xs hg
      obtain ⟨h0,hv⟩:=ae hv
      have hi:i < xs.length:=by simpa [nlt] using h0
      obtain ⟨l,hl,hb⟩:=hH.get _ _ (hs _ _ hg)
      cases hr with
      | row _ _ _ l' hl' =>
        rw [hl] at hl'; cases hl'
        obtain ⟨h1,h1',h1'',h2⟩:=hb
        refine ⟨_,off,l.b,i * X.E.sz u,hv,by rw [h1],fun j c hj => ?_⟩
        have hp:=hX.u.pos u
        have hn:l.n≠0:=by
          have:0 < xs.length * X.E.sz u:=Nat.mul_pos (by omega) hp
          omega
        obtain ⟨_,_,c',hh,h3,h4⟩:=h2 hn
        have hxi:xs[i]? = some (xs.getD i (X.E.dflt u)):=by simp [List.getD,List.getElem?_eq_getElem hi]
        obtain ⟨x,hx,hrx⟩:=h4 i _ j c hxi hj
        exact ⟨x,by rw [cell_of_row w l.b _ c' _ (0,0) hh]; exact hx,hrx⟩
    · cases hv
  · rename_i u xs i off
    cases hr with
    | pel _ _ _ _ b o cap hl hi =>
      refine ⟨_,off,b,o+i * X.E.sz u,hv,rfl,fun j c hj => ?_⟩
      have hxi:xs[i]? = some (xs.getD i (X.E.dflt u)):=by simp [List.getD,List.getElem?_eq_getElem hi]
      generalize hq:Value.slice (some ⟨b,o,none⟩) xs.length cap=q at hl
      cases hl with
      | lstE=>exact absurd hi (by simp)
      | lst _ _ b' o' cap' val hS hc hcell hrel =>
        cases hq
        exact ⟨_,hcell i _ j c hxi hj,hrel i _ j c hxi hj⟩
  · rename_i cs off
    cases hr with
    | pcs _ _ b o val hS hcell hrel=>exact ⟨cs,off,b,o,hv,rfl,fun j c hj=>⟨_,hcell j c hj,hrel j c hj⟩⟩
  · cases hv
theorem mK {ty:TypeId} {td:TD U} {sz:Nat} {ag:Bool} (hk:oW P X.E ty td) (h:jF td=some (sz,ag)):(∃ d,P.underlying ty=some d∧agD d=ag)∧(ag=true→∃ i,P.info? ty=some i∧i.size=sz):=by
  cases td with
  | one=>cases h; obtain ⟨d,h1,h2⟩:=hk; exact ⟨⟨d,h1,h2⟩,fun h=>by cases h⟩
  | bool=>cases h; exact ⟨⟨_,hk,rfl⟩,fun h=>by cases h⟩
  | ptr=>cases h; obtain ⟨e,h1⟩:=hk; exact ⟨⟨_,h1,rfl⟩,fun h=>by cases h⟩
  | iface=>cases h; obtain ⟨e,h1⟩:=hk; exact ⟨⟨_,h1,rfl⟩,fun h=>by cases h⟩
  | int k=>cases h; exact ⟨⟨_,hk,rfl⟩,fun h=>by cases h⟩
  | str=>cases h; exact ⟨⟨_,hk,rfl⟩,fun h=>by cases h⟩
  | slice u=>cases h; exact ⟨⟨_,hk,rfl⟩,fun h=>by cases h⟩
  | struct fs sz=>cases h; obtain ⟨fields,h1,⟨i,h2,h3,_⟩,_⟩:=hk; exact ⟨⟨_,h1,rfl⟩,fun _=>⟨i,h2,h3⟩⟩
  | arr n es ea sz=>cases h; obtain ⟨e,h1,⟨i,h2,h3,_⟩,_⟩:=hk; exact ⟨⟨_,h1,rfl⟩,fun _=>⟨i,h2,h3⟩⟩
  | bld u=>cases h
  | map u v=>cases h; exact ⟨⟨_,hk,rfl⟩,fun h=>by cases h⟩
  | amap u=>cases h; obtain ⟨v,e,h1,_⟩:=hk; exact ⟨⟨_,h1,rfl⟩,fun h=>by cases h⟩
theorem lW {ty : TypeId} {sz : Nat} {ag : Bool} {cs : List (AV U El)} {off b o : Nat} {k : AV U El → Option (Fin U El)} (ht : ∃ d, P.underlying ty = some d ∧ agD d = ag) (hz : ag = true → ∃ i, P.info? ty = some i ∧ i.size = sz)
    (hc:∀ (j:Nat) c,cs[j]? = some c→∃ x,w.cell? ⟨b,o+j,none⟩=some x∧Rel X.E S ρ w c x) (hp:cW cs off sz ag k=some r) :
    ∃ av v,k av=some r∧(loadVar ty ⟨b,o+off,none⟩).run P w = .ok v w∧Rel X.E S ρ w av v:=by
  obtain ⟨d,hd,hag⟩:=ht
  unfold cW at hp
  cases ag with
  | true =>
    simp only [cond] at hp
    obtain ⟨h0,hp⟩:=ae hp
    have hle:off+sz≤cs.length:=Nat.le_of_ble_eq_true h0
    obtain ⟨i,hi,hsz⟩:=hz rfl
    have hcell:∀ j,j < sz→w.cell? (Addr.add ⟨b,o+off,none⟩ j)=some ((w.cell? ⟨b,o+off+j,none⟩).getD undef):=fun j hj=>by
      obtain ⟨x,hx,_⟩:=hc (off+j) _ (List.getElem?_eq_getElem (by omega))
      rw [bP,Nat.add_assoc,hx]; rfl
    refine ⟨_,.agg (((List.range sz).map fun j=>(w.cell? ⟨b,o+off+j,none⟩).getD undef)).toArray,hp,?_,?_⟩
    · have hl := run_loadCells (P := P) w ⟨b, o + off, none⟩ sz _ hcell
      simp [loadVar,bS hd,hag,cE hi,hsz,hl]
    · refine .agg _ _ (by simp; omega) fun j c v hj hv => ?_
      have hjs:j < sz:=by
        have:=(List.getElem?_eq_some_iff.1 hj).1
        simp at this; omega
      simp [hjs] at hv
      rw [List.getElem?_take_of_lt hjs,List.getElem?_drop] at hj
      obtain ⟨x,hx,hrx⟩:=hc (off+j) c hj
      rw [← Nat.add_assoc] at hx
      rw [hx] at hv
      simp at hv
      subst hv
      exact hrx
  | false =>
    simp only [cond] at hp
    split at hp
    · rename_i c hcs
      obtain ⟨x,hx,hrx⟩:=hc off c hcs
      exact ⟨c,x,hp,by simp [loadVar,bS hd,hag,hx],hrx⟩
    · cases hp
theorem tS {ty:TypeId} {p:Operand} {td:TD U} {sz:Nat} {ag:Bool} {k:Out U El→Option (Fin U El)} (hX:CtxOk P X) (ho:o.op = .load ty p) (htd:aV X.tds ty=some td) (hag:jF td=some (sz,ag))
    (hv:nn X h (oget t p) (fun cs off=>cW cs off sz ag fun v=>k ⟨v,[]⟩)=some r)
    (hT:TRel X.E S ρ w o t a) (hH:HRel X.E S ρ w B H) (hs:∀ id b,ac h id=some b→ac H id=some b):∃ out,k out=some r∧bg P X.E S ρ w o a d out:=by
  have h1:=hT.get (x:=p) (by simp [ho,Op.operands])
  obtain ⟨cs,off,b,o',hk,hpv,hc⟩:=nv hX hH hs h1 hv
  obtain ⟨ht,hz⟩:=mK (hX.td _ _ htd) hag
  obtain ⟨av,v,hk',hrun,hr⟩:=lW ht hz hc hk
  refine ⟨_,hk',au (v:=v) ?_ hr hH.lt⟩
  simp [execOp,ho,Instr.loadAt,Instr.sureAddr,hpv,hrun]
theorem im {s:TypeId} {fs:List (Nat×Nat×Bool)} {sz f off fsz:Nat} {ag:Bool} (hk:oW P X.E s (.struct fs sz)) (hf:fs[f]? = some (off,fsz,ag)) :
    ∃ fields fl,P.underlying s=some (.struct fields)∧fields[f]? = some fl∧fl.offset=off∧(∃ d,P.underlying fl.type=some d∧agD d=ag)∧(∃ i,P.info? fl.type=some i∧i.size=fsz∧i.size≠0):=by
  obtain ⟨fields,h1,_,_,_,h2,h3⟩:=hk
  rw [h2] at hf
  simp only [List.getElem?_map,Option.map_eq_some_iff,Array.getElem?_toList] at hf
  obtain ⟨fl,hfl,e⟩:=hf
  have hm:fl∈fields.toList:=by simpa using Array.mem_of_getElem? hfl
  obtain ⟨⟨dd,hd⟩,i,hi,hi0⟩:=h3 fl hm
  simp only [Prod.mk.injEq] at e
  exact ⟨fields,fl,h1,hfl,e.1,⟨dd,hd,by rw [← e.2.2,r9 hd]⟩,⟨i,hi,by rw [← e.2.1,r8 hi],hi0⟩⟩
theorem mL {s : TypeId} {p : Operand} {f : Nat} {fs : List (Nat × Nat × Bool)} {sz off fsz : Nat} {ag : Bool} {k : Out U El → Option (Fin U El)} (hX : CtxOk P X) (ho : o.op = .fieldAddr s p f) (htd : aV X.tds s = some (.struct fs sz)) (hf : fs[f]? = some (off, fsz, ag))
    (hv : (match oget t p with
        | .ptr id o=>k ⟨.ptr id (o+off),[]⟩
        | .row id i o=>k ⟨.row id i (o+off),[]⟩
        | .pel u xs i o=>k ⟨.pel u xs i (o+off),[]⟩
        | .pcs cs o=>k ⟨.pcs cs (o+off),[]⟩
        | _=>none)=some r)
    (hT:TRel X.E S ρ w o t a) (hlt:∀ b,S b→b < w.heap.size):∃ out,k out=some r∧bg P X.E S ρ w o a d out:=by
  have h1:=hT.get (x:=p) (by simp [ho,Op.operands])
  obtain ⟨fields,fl,hu,hfl,hoff,_,⟨i,hi,_,hi0⟩⟩:=im (hX.td _ _ htd) hf
  have hrun:∀ (b o':Nat),a.eval p = .pointer (some ⟨b,o',none⟩)→(execOp a.eval o).run P w = .ok (.value (.pointer (some ⟨b,o'+off,none⟩))) w:=fun b o' e=>by
    simp [execOp,ho,Instr.fieldAt,run_underlying hu,hfl,Instr.sureAddr,e,fieldPlace,cE hi,hi0,bP,hoff]
  split at hv
  · rename_i id o' e; rw [e] at h1; generalize hq:a.eval p=q at h1; cases h1 with | ptr _ _ l hl=>exact ⟨_,hv,au (hrun _ _ hq) (.ptr id (o'+off) l hl) hlt⟩
  · rename_i id i o' e; rw [e] at h1; generalize hq:a.eval p=q at h1; cases h1 with | row _ _ _ l hl=>exact ⟨_,hv,au (hrun _ _ hq) (by rw [Nat.add_assoc]; exact .row id i (o'+off) l hl) hlt⟩
  · rename_i u xs i o' e; rw [e] at h1; generalize hq:a.eval p=q at h1; cases h1 with | pel _ _ _ _ b o2 cap hl hi=>exact ⟨_,hv,au (hrun _ _ hq) (by rw [Nat.add_assoc]; exact .pel u xs i (o'+off) b o2 cap hl hi) hlt⟩
  · rename_i cs o' e; rw [e] at h1; generalize hq:a.eval p=q at h1; cases h1 with | pcs _ _ b o2 val hS hcell hr=>exact ⟨_,hv,au (hrun _ _ hq) (by rw [Nat.add_assoc]; exact .pcs cs (o'+off) b o2 val hS hcell hr) hlt⟩
  · cases hv
theorem nx {ty:TypeId} {sz:Nat} {ag:Bool} {cs:List (AV U El)} {vs:Array Value} {off:Nat} {k:AV U El→Option (Fin U El)} (ht:∃ d,P.underlying ty=some d∧agD d=ag) (hz:∃ i,P.info? ty=some i∧i.size=sz)
    (hl:vs.size=cs.length) (hc:∀ (i:Nat) c v,cs[i]? = some c→vs[i]? = some v→Rel X.E S ρ w c v) (hp:cW cs off sz ag k=some r) :
    ∃ av v,k av=some r∧(part ty vs off).run P w = .ok v w∧Rel X.E S ρ w av v:=by
  obtain ⟨d,hd,hag⟩:=ht
  unfold cW at hp
  cases ag with
  | true =>
    simp only [cond] at hp
    obtain ⟨h0,hp⟩:=ae hp
    have hle:off+sz≤cs.length:=Nat.le_of_ble_eq_true h0
    obtain ⟨i,hi,hsz⟩:=hz
    refine ⟨_,.agg (vs.extract off (off+sz)),hp,by simp [part,bS hd,hag,cE hi,hsz],?_⟩
    refine .agg _ _ (by simp; omega) fun j c v hj hv => ?_
    have hjs:j < sz:=by
      have:=(List.getElem?_eq_some_iff.1 hj).1
      simp at this; omega
    rw [List.getElem?_take_of_lt hjs,List.getElem?_drop] at hj
    rw [Array.getElem?_extract] at hv
    split at hv
    · exact hc (off+j) c v hj hv
    · cases hv
  | false =>
    simp only [cond] at hp
    split at hp
    · rename_i c hcs
      have hj:off < vs.size:=by rw [hl]; exact (List.getElem?_eq_some_iff.1 hcs).1
      exact ⟨c,vs[off],hp,by simp [part,bS hd,hag,Array.getElem?_eq_getElem hj],hc off c _ hcs (Array.getElem?_eq_getElem hj)⟩
    · cases hp
theorem sg {s:TypeId} {x:Operand} {f:Nat} {fs:List (Nat×Nat×Bool)} {sz off fsz:Nat} {ag:Bool} {cs:List (AV U El)} {k:Out U El→Option (Fin U El)} (hX:CtxOk P X) (ho:o.op = .field s x f) (htd:aV X.tds s=some (.struct fs sz)) (hf:fs[f]? = some (off,fsz,ag))
    (hx:oget t x = .agg cs) (hv:cW cs off fsz ag (fun v=>k ⟨v,[]⟩)=some r)
    (hT:TRel X.E S ρ w o t a) (hlt:∀ b,S b→b < w.heap.size):∃ out,k out=some r∧bg P X.E S ρ w o a d out:=by
  have h1:=hT.get (x:=x) (by simp [ho,Op.operands])
  obtain ⟨fields,fl,hu,hfl,hoff,ht,⟨i,hi,hi1,hi0⟩⟩:=im (hX.td _ _ htd) hf
  rw [hx] at h1
  generalize hq:a.eval x=q at h1
  cases h1 with
  | agg _ vs hl hc =>
    obtain ⟨av,v,hk,hrun,hr⟩:=nx ht ⟨i,hi,hi1⟩ hl hc hv
    refine ⟨_,hk,au (v:=v) ?_ hr hlt⟩
    simp [execOp,ho,Instr.field,run_underlying hu,hfl,asAgg,hq,hoff,hrun]
theorem fp {i:Int} {n:Nat} (h:inb i n=true):0≤i∧i < n:=by simpa [inb,ile,ilt] using h
theorem lF {ty : TypeId} {x ix : Operand} {u : U} {kd : IntKind} {i : Int} {k : Out U El → Option (Fin U El)} (hX : CtxOk P X) (ho : o.op = .indexAddr ty x ix) (htd : aV X.tds ty = some (.slice u)) (hix : oget t ix = .int kd i)
    (hv : (match oget t x with
      | .lst u' xs=>chk (decide (u'=u)) (chk (inb i xs.length) (k ⟨.pel u' xs i.toNat 0,[]⟩))
      | .ful id => match ac h id with
        | some (.rows u' xs)=>chk (decide (u'=u)) (chk (inb i xs.length) (k ⟨.row id i.toNat 0,[]⟩))
        | _=>none
      | .own id lo len => match ac h id with
        | some (.rows u' xs)=>chk (decide (u'=u)) (chk (inb i len) (k ⟨.row id (lo+i.toNat) 0,[]⟩))
        | some (.box _ _)=>chk (Nat.beq lo 0) (ixA len i fun q=>k ⟨.ptr id (q * X.E.sz u),[]⟩)
        | _=>none
      | _=>none)=some r)
    (hT:TRel X.E S ρ w o t a) (hH:HRel X.E S ρ w B H) (hs:∀ id b,ac h id=some b→ac H id=some b):∃ out,k out=some r∧bg P X.E S ρ w o a d out:=by
  have h1:=hT.get (x:=x) (by simp [ho,Op.operands])
  have h2:=hT.get (x:=ix) (by simp [ho,Op.operands])
  have hu:P.underlying ty=some (.slice (X.E.tid u)):=hX.td _ _ htd
  obtain ⟨inf,z,hi,hsz,_⟩:=hX.u.info u
  rw [hix] at h2
  generalize hq2:a.eval ix=q2 at h2
  cases h2
  have hrun:∀ (b o' len cap:Nat),a.eval x = .slice (some ⟨b,o',none⟩) len cap→0≤i→i < len→(execOp a.eval o).run P w = .ok (.value (.pointer (some ⟨b,o'+i.toNat * X.E.sz u,none⟩))) w:=fun b o' len cap e h0 hl=>by
    simp [execOp,ho,Instr.indexAt,asIntOf,hq2,run_underlying hu,e,h0,hl,cE hi,hsz,bP]
  split at hv
  · rename_i u' xs e
    obtain ⟨hd,hv1⟩:=ae hv
    obtain ⟨hb,hv2⟩:=ae hv1
    clear hv hv1
    have hd:u'=u:=by simpa using hd
    subst hd
    obtain ⟨hi0,hi1⟩:=fp hb
    rw [e] at h1
    generalize hq:a.eval x=q at h1
    cases h1 with
    | lstE=>exfalso; simp at hi1; omega
    | lst _ _ b off cap val hS hc hcell hrel =>
      exact ⟨_,hv2,au (hrun _ _ _ _ hq hi0 hi1) (by rw [← Nat.add_zero (off+_)]; exact .pel u' xs i.toNat 0 b off cap (.lst u' xs b off cap val hS hc hcell hrel) (by omega)) hH.lt⟩
  · rename_i id e
    split at hv
    · rename_i u' xs hg
      obtain ⟨hd,hv1⟩:=ae hv
      obtain ⟨hb,hv2⟩:=ae hv1
      clear hv hv1
      have hd:u'=u:=by simpa using hd
      subst hd
      obtain ⟨hi0,hi1⟩:=fp hb
      obtain ⟨l,hl,hbl⟩:=hH.get _ _ (hs _ _ hg)
      obtain ⟨b1,b2,_⟩:=hbl
      rw [e] at h1
      generalize hq:a.eval x=q at h1
      cases h1 with
      | ful _ cap l' hl' hc1 hc2 =>
        rw [hl] at hl'; cases hl'
        exact ⟨_,hv2,au (hrun _ _ _ _ hq hi0 (by rw [b2]; exact hi1)) (by rw [Nat.zero_add,← b1,← Nat.add_zero (i.toNat * l.s)]; exact .row id i.toNat 0 l hl) hH.lt⟩
      | fulN _ l' hl' hc1 hc2=>rw [hl] at hl'; cases hl'; exfalso; omega
    · cases hv
  · rename_i id lo len e
    split at hv
    · rename_i u' xs hg
      obtain ⟨hd,hv1⟩:=ae hv
      obtain ⟨hb,hv2⟩:=ae hv1
      clear hv hv1
      have hd:u'=u:=by simpa using hd
      subst hd
      obtain ⟨hi0,hi1⟩:=fp hb
      obtain ⟨l,hl,hbl⟩:=hH.get _ _ (hs _ _ hg)
      obtain ⟨b1,b2,_⟩:=hbl
      rw [e] at h1
      generalize hq:a.eval x=q at h1
      cases h1 with
      | own _ _ _ cap l' hl' hc1 hc2 hc3 =>
        rw [hl] at hl'; cases hl'
        exact ⟨_,hv2,au (hrun _ _ _ _ hq hi0 hi1) (by rw [← b1,← Nat.add_mul,← Nat.add_zero ((lo+i.toNat) * l.s)]; exact .row id (lo+i.toNat) 0 l hl) hH.lt⟩
      | ownE=>exfalso; omega
    · obtain ⟨hz, hv1⟩ := ae hv
      obtain rfl:lo=0:=Nat.eq_of_beq_eq_true hz
      obtain ⟨hb,hv2⟩:=eT hv1
      obtain ⟨hi0,hi1⟩:=fp hb
      rw [e] at h1
      generalize hq:a.eval x=q at h1
      cases h1 with
      | own _ _ _ cap l' hl' hc1 hc2 hc3 =>
        exact ⟨_,hv2,au (hrun _ _ _ _ hq hi0 hi1) (by rw [Nat.zero_mul,Nat.zero_add]; exact .ptr id _ l' hl') hH.lt⟩
      | ownE=>exfalso; omega
    · cases hv
  · cases hv
theorem ny {ty:TypeId} {x ix:Operand} {n es sz:Nat} {ea:Bool} {kd:IntKind} {i:Int} {k:Out U El→Option (Fin U El)} (hX:CtxOk P X) (ho:o.op = .indexAddr ty x ix) (htd:aV X.tds ty=some (.arr n es ea sz)) (hix:oget t ix = .int kd i)
    (hv:(match oget t x with
      | .ptr id off=>ixA n i fun q=>k ⟨.ptr id (off+q * es),[]⟩
      | .row id j off=>ixA n i fun q=>k ⟨.row id j (off+q * es),[]⟩
      | .pel u xs j off=>ixA n i fun q=>k ⟨.pel u xs j (off+q * es),[]⟩
      | .pcs cs off=>ixA n i fun q=>k ⟨.pcs cs (off+q * es),[]⟩
      | _=>none)=some r)
    (hT:TRel X.E S ρ w o t a) (hlt:∀ b,S b→b < w.heap.size):∃ out,k out=some r∧bg P X.E S ρ w o a d out:=by
  have h1:=hT.get (x:=x) (by simp [ho,Op.operands])
  have h2:=hT.get (x:=ix) (by simp [ho,Op.operands])
  obtain ⟨e,hu,_,⟨inf,hi,hsz⟩,_⟩:=hX.td _ _ htd
  rw [hix] at h2
  generalize hq2:a.eval ix=q2 at h2
  cases h2
  have hrun:∀ (b o':Nat),a.eval x = .pointer (some ⟨b,o',none⟩)→inb i n=true→(execOp a.eval o).run P w = .ok (.value (.pointer (some ⟨b,o'+i.toNat * es,none⟩))) w:=fun b o' e hb=>by
    obtain ⟨h0,hl⟩:=fp hb
    simp [execOp,ho,Instr.indexAt,asIntOf,hq2,run_underlying hu,Instr.sureAddr,e,h0,hl,cE hi,hsz,bP]
  split at hv
  · rename_i id o' e; obtain ⟨hb,hv⟩:=eT hv; rw [e] at h1; generalize hq:a.eval x=q at h1; cases h1 with | ptr _ _ l hl=>exact ⟨_,hv,au (hrun _ _ hq hb) (.ptr id _ l hl) hlt⟩
  · rename_i id i o' e; obtain ⟨hb,hv⟩:=eT hv; rw [e] at h1; generalize hq:a.eval x=q at h1; cases h1 with | row _ _ _ l hl=>exact ⟨_,hv,au (hrun _ _ hq hb) (by rw [Nat.add_assoc]; exact .row id _ _ l hl) hlt⟩
  · rename_i u xs i o' e; obtain ⟨hb,hv⟩:=eT hv; rw [e] at h1; generalize hq:a.eval x=q at h1; cases h1 with | pel _ _ _ _ b o2 cap hl hi=>exact ⟨_,hv,au (hrun _ _ hq hb) (by rw [Nat.add_assoc]; exact .pel u xs _ _ b o2 cap hl hi) hlt⟩
  · rename_i cs o' e; obtain ⟨hb,hv⟩:=eT hv; rw [e] at h1; generalize hq:a.eval x=q at h1; cases h1 with | pcs _ _ b o2 val hS hcell hr=>exact ⟨_,hv,au (hrun _ _ hq hb) (by rw [Nat.add_assoc]; exact .pcs cs _ b o2 val hS hcell hr) hlt⟩
  · cases hv
theorem nz {ty:TypeId} {x ix:Operand} {kd:IntKind} {i:Int} {s:List UInt8} (hX:CtxOk P X) (ho:o.op = .index ty x ix) (htd:aV X.tds ty=some .str) (hix:oget t ix = .int kd i) (hx:oget t x = .str s) (hb:inb i s.length=true)
    (hT:TRel X.E S ρ w o t a) (hlt:∀ b,S b→b < w.heap.size):bg P X.E S ρ w o a d ⟨.int .u8 (s.getD i.toNat 0).toNat,[]⟩:=by
  have h1:=hT.get (x:=x) (by simp [ho,Op.operands])
  have h2:=hT.get (x:=ix) (by simp [ho,Op.operands])
  have hu:P.underlying ty=some .string:=hX.td _ _ htd
  rw [hix] at h2
  rw [hx] at h1
  generalize hq:a.eval x=q at h1
  generalize hq2:a.eval ix=q2 at h2
  cases h2
  cases h1
  obtain ⟨h0,hl⟩:=fp hb
  have hj:i.toNat < s.length:=by omega
  have hg:(⟨s.toArray⟩:ByteArray)[i.toNat]? = some (s.getD i.toNat 0):=by
    have hsz:i.toNat < (⟨s.toArray⟩:ByteArray).size:=by simpa [ByteArray.size] using hj
    rw [getElem?_pos (⟨s.toArray⟩:ByteArray) i.toNat hsz]
    simp [ByteArray.getElem_eq_getElem_data,List.getD,List.getElem?_eq_getElem hj]
  refine au ?_ (.int _ _) hlt
  simp [execOp,ho,Instr.index,asIntOf,hq,hq2,run_underlying hu,h0,hg]
theorem nB {ty:TypeId} {x ix:Operand} {n es sz:Nat} {ea:Bool} {kd:IntKind} {i:Int} {cs:List (AV U El)} {k:Out U El→Option (Fin U El)} (hX:CtxOk P X) (ho:o.op = .index ty x ix) (htd:aV X.tds ty=some (.arr n es ea sz)) (hix:oget t ix = .int kd i) (hx:oget t x = .agg cs) (hb:inb i n=true)
    (hv:cW cs (i.toNat * es) es ea (fun v=>k ⟨v,[]⟩)=some r)
    (hT:TRel X.E S ρ w o t a) (hlt:∀ b,S b→b < w.heap.size):∃ out,k out=some r∧bg P X.E S ρ w o a d out:=by
  have h1:=hT.get (x:=x) (by simp [ho,Op.operands])
  have h2:=hT.get (x:=ix) (by simp [ho,Op.operands])
  obtain ⟨e,hu,_,⟨inf,hi,hsz⟩,⟨dd,hd,hag⟩⟩:=hX.td _ _ htd
  rw [hix] at h2
  rw [hx] at h1
  generalize hq:a.eval x=q at h1
  generalize hq2:a.eval ix=q2 at h2
  cases h2
  obtain ⟨h0,hl⟩:=fp hb
  cases h1 with
  | agg _ vs hlen hc =>
    obtain ⟨av,v,hk,hrun,hr⟩:=nx ⟨dd,hd,hag⟩ ⟨inf,hi,hsz⟩ hlen hc hv
    refine ⟨_,hk,au (v:=v) ?_ hr hlt⟩
    simp [execOp,ho,Instr.index,asIntOf,hq,hq2,run_underlying hu,h0,hl,cE hi,hsz,hrun]
end
end Go.Proofs.YtnofdcckddfooaaGreatDoor

namespace Go.Proofs.YtnofdcckddfooaaGreatDoor
set_option linter.unusedVariables false
set_option linter.unusedSectionVars false
set_option linter.unusedSimpArgs false
open Go.RowKit
section
variable {U:Type} {El:U→Type} {P:Program} {X:Ctx U El} {S:Nat→Prop} {ρ:Rho} {w:World} [DecidableEq U]
variable {o:Oper} {a:Act} {t:ba U El} {h H:az U El} {B:Bd} {d:Nat} {r:Fin U El}
theorem ip {e : TypeId} {k : Nat} (hk : gV P e k) : ∀ (m : Nat) (xs ys : List (AV U El)) (n : Nat) (vx vy : Array Value) (b : Bool),
    (∀ (i:Nat) c,xs[i]? = some c→∃ v,vx[n+i]? = some v∧Rel X.E S ρ w c v)→(∀ (i:Nat) c,ys[i]? = some c→∃ v,vy[n+i]? = some v∧Rel X.E S ρ w c v) →
    bo (List.replicate m k) xs ys=some b→∀ D,(Op.eqItems (D+1) e 1 vx vy (List.range' n m)).run P w = .ok b w:=by
  intro m
  induction m with
  | zero =>
    intro xs ys n vx vy b hx hy hc D
    simp only [List.replicate_zero] at hc
    unfold bo at hc
    split at hc<;>simp_all [Op.eqItems]
  | succ m ih =>
    intro xs ys n vx vy b hx hy hc D
    rw [List.replicate_succ] at hc
    have hstep:∀ (c c':AV U El) (x y:List (AV U El)),xs=c :: x→ys=c' :: y→(∃ v v',vx[n]? = some v∧vy[n]? = some v'∧Rel X.E S ρ w c v∧Rel X.E S ρ w c' v')∧∀ b',bo (List.replicate m k) x y=some b'→(Op.eqItems (D+1) e 1 vx vy (List.range' (n+1) m)).run P w = .ok b' w:=by
      intro c c' x y ex ey
      subst ex ey
      obtain ⟨v,hv,hr⟩:=hx 0 c rfl
      obtain ⟨v',hv',hr'⟩:=hy 0 c' rfl
      refine ⟨⟨v,v',hv,hv',hr,hr'⟩,fun b' hb'=>ih x y (n+1) vx vy b' (fun i c hi => ?_) (fun i c hi => ?_) hb' D⟩
      · have:=hx (i+1) c hi; rwa [show n+(i+1)=n+1+i by omega] at this
      · have:=hy (i+1) c hi; rwa [show n+(i+1)=n+1+i by omega] at this
    rw [List.range'_succ]
    generalize hrep:List.replicate m k=ts at hc hstep
    unfold bo at hc
    split at hc
    · cases ‹_ :: _=[]›
    · rename_i ts' ka av x kb bv y e1
      cases e1
      obtain ⟨kd,hu⟩:=hk
      obtain ⟨⟨v,v',hv,hv',hr,hr'⟩,hk⟩:=hstep _ _ _ _ rfl rfl
      cases hr; cases hr'
      cases hd:decide (ka=kb) with
      | false=>rw [hd] at hc; cases hc
      | true =>
        rw [hd] at hc
        simp only [cond] at hc
        have hkk:ka=kb:=by simpa using hd
        subst hkk
        split at hc
        · rename_i r' hr'
          cases hc
          simp [Op.eqItems,part,bS hu,agD,hv,hv',run_equalIn_int _ _ _ _ _ _ _ hu,hk r' hr']
          split<;>simp_all
        · cases hc
    · rename_i ts' av x bv y e1
      cases e1
      obtain ⟨⟨v,v',hv,hv',hr,hr'⟩,hk'⟩:=hstep _ _ _ _ rfl rfl
      cases hr; cases hr'
      have hk:P.underlying e=some .bool:=hk
      split at hc
      · rename_i r' hr'
        cases hc
        simp [Op.eqItems,part,bS hk,agD,hv,hv',run_equalIn_bool' _ _ _ _ _ hk,hk' r' hr']
        split<;>simp_all
      · cases hc
    · rename_i ts' av x bv y e1
      cases e1
      obtain ⟨⟨v,v',hv,hv',hr,hr'⟩,hk'⟩:=hstep _ _ _ _ rfl rfl
      cases hr; cases hr'
      have hk:P.underlying e=some .string:=hk
      split at hc
      · rename_i r' hr'
        cases hc
        simp [Op.eqItems,part,bS hk,agD,hv,hv',run_equalIn_string _ _ _ _ _ hk,hk' r' hr',Lib.toList_data]
        split<;>simp_all
      · cases hc
    · cases hc
theorem jG {ty : TypeId} : ∀ (ts : List Nat) (xs ys : List (AV U El)) (n : Nat) (fs : List Field) (vx vy : Array Value) (b : Bool),
    (∀ (i : Nat) (f : Field) (k : Nat), fs[i]? = some f → ts[i]? = some k → f.name ≠ "_" ∧ f.offset = n + i ∧ gV P f.type k) → fs.length = ts.length →
    (∀ (i:Nat) c,xs[i]? = some c→∃ v,vx[n+i]? = some v∧Rel X.E S ρ w c v)→(∀ (i:Nat) c,ys[i]? = some c→∃ v,vy[n+i]? = some v∧Rel X.E S ρ w c v) →
    bo ts xs ys=some b→∀ D,(Op.eqFields (D+1) vx vy fs).run P w = .ok b w:=by
  intro ts
  induction ts with
  | nil =>
    intro xs ys n fs vx vy b hf hl hx hy hc D
    have:fs=[]:=by simpa using hl
    subst this
    unfold bo at hc
    split at hc<;>simp_all [Op.eqFields]
  | cons k ts ih =>
    intro xs ys n fs vx vy b hf hl hx hy hc D
    cases fs with
    | nil=>simp at hl
    | cons f fs =>
      obtain ⟨h1,h2,h3⟩:=hf 0 f k rfl rfl
      have hf' : ∀ (i : Nat) (g : Field) (k : Nat), fs[i]? = some g → ts[i]? = some k → g.name ≠ "_" ∧ g.offset = n + 1 + i ∧ gV P g.type k := fun i g k' hg hk => by
          have:=hf (i+1) g k' hg hk
          rwa [show n+(i+1)=n+1+i by omega] at this
      have hl':fs.length=ts.length:=by simpa using hl
      have hstep:∀ (c c':AV U El) (x y:List (AV U El)),xs=c :: x→ys=c' :: y→(∃ v v',vx[n]? = some v∧vy[n]? = some v'∧Rel X.E S ρ w c v∧Rel X.E S ρ w c' v')∧∀ b',bo ts x y=some b'→(Op.eqFields (D+1) vx vy fs).run P w = .ok b' w:=by
        intro c c' x y ex ey
        subst ex ey
        obtain ⟨v,hv,hr⟩:=hx 0 c rfl
        obtain ⟨v',hv',hr'⟩:=hy 0 c' rfl
        refine ⟨⟨v,v',hv,hv',hr,hr'⟩,fun b' hb'=>ih x y (n+1) fs vx vy b' hf' hl' (fun i c hi => ?_) (fun i c hi => ?_) hb' D⟩
        · have:=hx (i+1) c hi; rwa [show n+(i+1)=n+1+i by omega] at this
        · have:=hy (i+1) c hi; rwa [show n+(i+1)=n+1+i by omega] at this
      have hof:f.offset=n:=by simpa using h2
      unfold bo at hc
      split at hc
      · cases ‹k :: ts=[]›
      · rename_i ts' ka av x kb bv y e
        cases e
        obtain ⟨kd,hu⟩:=h3
        obtain ⟨⟨v,v',hv,hv',hr,hr'⟩,hk⟩:=hstep _ _ _ _ rfl rfl
        cases hr; cases hr'
        cases hd:decide (ka=kb) with
        | false=>rw [hd] at hc; cases hc
        | true =>
          rw [hd] at hc
          simp only [cond] at hc
          have hkk:ka=kb:=by simpa using hd
          subst hkk
          split at hc
          · rename_i r' hr'
            cases hc
            simp [Op.eqFields,h1,part,bS hu,agD,hof,hv,hv',run_equalIn_int _ _ _ _ _ _ _ hu,hk r' hr']
            split<;>simp_all
          · cases hc
      · rename_i ts' av x bv y e
        cases e
        obtain ⟨⟨v,v',hv,hv',hr,hr'⟩,hk⟩:=hstep _ _ _ _ rfl rfl
        cases hr; cases hr'
        split at hc
        · rename_i r' hr'
          cases hc
          simp [Op.eqFields,h1,part,bS h3,agD,hof,hv,hv',run_equalIn_bool' _ _ _ _ _ h3,hk r' hr']
          split<;>simp_all
        · cases hc
      · rename_i ts' av x bv y e
        cases e
        obtain ⟨⟨v,v',hv,hv',hr,hr'⟩,hk⟩:=hstep _ _ _ _ rfl rfl
        cases hr; cases hr'
        split at hc
        · rename_i r' hr'
          cases hc
          simp [Op.eqFields,h1,part,bS h3,agD,hof,hv,hv',run_equalIn_string _ _ _ _ _ h3,hk r' hr',Lib.toList_data]
          split<;>simp_all
        · cases hc
      · cases hc
theorem oY {op:BinOp} {x y:Int} {b:Bool} (h:km op x y=some b):(Op.intCmp op x y).run P w = .ok (.bool b) w:=by
  unfold km at h
  cases op<;>simp at h<;>subst h<;>simp [Op.intCmp,ilt,ile]
theorem cK {t:TypeId} {x y:Value} {b:Bool} (e:binOp .eql t x y=(do pure (.bool (← Op.equal t x y)))) (h:(Op.equalIn (9999+1) t x y).run P w = .ok b w):(binOp .eql t x y).run P w = .ok (.bool b) w:=by
  have h':(Op.equal t x y).run P w = .ok b w:=h
  rw [e]
  simp only [Sem.run_bind,h',Result.andThen_ok,Sem.run_pure]
theorem cL {t:TypeId} {x y:Value} {b:Bool} (e:binOp .neq t x y=(do pure (.bool (!(← Op.equal t x y))))) (h:(Op.equalIn (9999+1) t x y).run P w = .ok b w):(binOp .neq t x y).run P w = .ok (.bool (!b)) w:=by
  have h':(Op.equal t x y).run P w = .ok b w:=h
  rw [e]
  simp only [Sem.run_bind,h',Result.andThen_ok,Sem.run_pure]
theorem qv {t e:TypeId} (D:Nat) (hu:P.underlying t=some (.pointer e)):(Op.equalIn (D+1) t (.pointer none) (.pointer none)).run P w = .ok true w:=by
  simp only [Op.equalIn,Sem.run_bind,run_underlying hu,Result.andThen_ok]; rfl
theorem gr {t e:TypeId} (D:Nat) (a:Addr) (hu:P.underlying t=some (.pointer e)):(Op.equalIn (D+1) t (.pointer (some a)) (.pointer none)).run P w = .ok false w:=by
  simp only [Op.equalIn,Sem.run_bind,run_underlying hu,Result.andThen_ok]; rfl
theorem qw {t:TypeId} {e:Array (String×TypeId)} (D:Nat) (hu:P.underlying t=some (.interface e)):(Op.equalIn (D+1) t .nilIface .nilIface).run P w = .ok true w:=by
  simp only [Op.equalIn,Sem.run_bind,run_underlying hu,Result.andThen_ok]; rfl
theorem qz {t:TypeId} {e:Array (String×TypeId)} (D:Nat) (u:TypeId) (v:Value) (hu:P.underlying t=some (.interface e)):(Op.equalIn (D+1) t (.iface u v) .nilIface).run P w = .ok false w:=by
  simp only [Op.equalIn,Sem.run_bind,run_underlying hu,Result.andThen_ok]; rfl
theorem tT (s s':List UInt8):(⟨s.toArray⟩:ByteArray)++⟨s'.toArray⟩=⟨(s++s').toArray⟩:=by
  apply ByteArray.ext
  rw [ByteArray.data_append]
  simp
set_option maxHeartbeats 1000000 in
theorem ke {t e:TypeId} (d:Nat) (ao:Addr) (n c:Nat) (hu:P.underlying t=some (.slice e)):(Op.equalIn (d+1) t (.slice (some ao) n c) (.slice none 0 0)).run P w = .ok false w:=by
  simp [Op.equalIn,run_underlying hu]
theorem oZ {op : BinOp} {ty : TypeId} {xo yo : Operand} {x y : AV U El} {vx vy : Value} {k : AV U El → Option (Fin U El)} (hX : CtxOk P X) (hx : Rel X.E S ρ w x vx) (hy : Rel X.E S ρ w y vy)
    (hc:y = .nili→∃ v,yo = .const v) (hp:y = .nilp→∃ e,P.underlying ty=some (.pointer e)) (hi:y = .nili→∃ e,P.underlying ty=some (.interface e)) (hb:∀ b,y = .bool b→P.underlying ty=some .bool) (hsl:y = .nils→∃ e,P.underlying ty=some (.slice e))
    (h:iX op (gG X.eqs ty) x y k=some r) :
    ∃ av v,k av=some r∧(do eqGuard op ty xo yo vx vy; binOp op ty vx vy:Sem Value).run P w = .ok v w∧Rel X.E S ρ w av v:=by
  have str:∀ (s s':List UInt8) (vx vy:Value),vx = .string ⟨s.toArray⟩→vy = .string ⟨s'.toArray⟩→(eqGuard op ty xo yo vx vy).run P w = .ok () w:=fun s s' vx vy e e'=>by subst e e'; cases op<;>simp [eqGuard]
  unfold iX at h
  split at h
  · rename_i ka xv kb yv
    cases hx; cases hy
    have hg:(eqGuard op ty xo yo (.int ka xv) (.int kb yv)).run P w = .ok () w:=by cases op<;>simp [eqGuard]
    cases op<;>dsimp only at h<;>obtain ⟨h1,h2⟩:=ae h
    case shl => have h1 : 0 ≤ yv := by simpa [ile] using h1
                exact ⟨_,_,h2,by simp [hg,binOp,Op.shift,show ¬ yv < 0 by omega],.int _ _⟩
    case shr => have h1 : 0 ≤ yv := by simpa [ile] using h1
                exact ⟨_,_,h2,by simp [hg,binOp,Op.shift,show ¬ yv < 0 by omega],.int _ _⟩
    all_goals (have hk:ka=kb:=by simpa using h1
               subst hk)
    case add=>exact ⟨_,_,h2,by simp [hg,binOp,Op.intArith],.int _ _⟩
    case sub=>exact ⟨_,_,h2,by simp [hg,binOp,Op.intArith],.int _ _⟩
    case mul=>exact ⟨_,_,h2,by simp [hg,binOp,Op.intArith],.int _ _⟩
    case quo => obtain ⟨h3, h4⟩ := ae h2
                have h3:yv≠0:=by simpa using h3
                exact ⟨_,_,h4,by simp [hg,binOp,Op.intDiv,h3],.int _ _⟩
    case rem => obtain ⟨h3, h4⟩ := ae h2
                have h3:yv≠0:=by simpa using h3
                exact ⟨_,_,h4,by simp [hg,binOp,Op.intDiv,h3],.int _ _⟩
    all_goals (split at h2
               · rename_i b hb'
                 first
                   | (simp [km] at hb'; done)
                   | exact ⟨_,_,h2,by simp only [Sem.run_bind,hg,Result.andThen_ok,binOp]; simp; exact oY hb',.bool _⟩
               · cases h2)
  · rename_i s s'
    cases hx; cases hy
    have hg:=str s s' _ _ rfl rfl
    have e1:(⟨s.toArray⟩:ByteArray).toList=s:=by rw [Lib.toList_data]
    have e2:(⟨s'.toArray⟩:ByteArray).toList=s':=by rw [Lib.toList_data]
    cases op<;>dsimp only at h
    case add =>
      obtain ⟨h1,h2⟩:=ae h
      have h1:s.length+s'.length≤9223372036854775807:=by simpa [nle] using h1
      have hz:¬ ((((⟨s.toArray⟩:ByteArray).size+(⟨s'.toArray⟩:ByteArray).size:Nat):Int) > IntKind.i64.max):=by
        simp [ByteArray.size,IntKind.max,IntKind.signed,IntKind.bits]; omega
      exact ⟨_,_,h2,by simp only [Sem.run_bind,hg,Result.andThen_ok,binOp,Op.stringOp,if_neg hz,tT,Sem.run_pure],.str _⟩
    all_goals first
      | (cases h; done)
      | exact ⟨_,_,h,by simp only [Sem.run_bind,hg,Result.andThen_ok,binOp,Op.stringOp,e1,e2,slt,Sem.run_pure],.bool _⟩
  · rename_i b b'
    cases hx; cases hy
    have hu:=hb b' rfl
    have he:=run_equalIn_bool' (P:=P) w 9999 ty b b' hu
    cases op<;>dsimp only at h
    case eql=>exact ⟨_,_,h,by simp only [Sem.run_bind,show (eqGuard .eql ty xo yo (.bool b) (.bool b')).run P w = .ok () w from by simp [eqGuard],Result.andThen_ok]; exact cK rfl he,.bool _⟩
    case neq=>exact ⟨_,_,h,by simp only [Sem.run_bind,show (eqGuard .neq ty xo yo (.bool b) (.bool b')).run P w = .ok () w from by simp [eqGuard],Result.andThen_ok]; exact cL rfl he,.bool _⟩
    all_goals cases h
  · rename_i cx cy
    cases hx with
    | agg _ ax hlx hax =>
      cases hy with
      | agg _ ay hly hay =>
        have key:∀ b,gG X.eqs ty≠[]→bo (gG X.eqs ty) cx cy=some b→(Op.equalIn 10000 ty (.agg ax) (.agg ay)).run P w = .ok b w∧(eqGuard op ty xo yo (.agg ax) (.agg ay)).run P w = .ok () w:=by
          intro b hne hb
          have hxv:∀ (i:Nat) c,cx[i]? = some c→∃ v,ax[0+i]? = some v∧Rel X.E S ρ w c v:=fun i c hc=>by
            have hj:i < ax.size:=by rw [hlx]; exact (List.getElem?_eq_some_iff.1 hc).1
            exact ⟨_,by rw [Nat.zero_add]; exact Array.getElem?_eq_getElem hj,hax i c _ hc (Array.getElem?_eq_getElem hj)⟩
          have hyv:∀ (i:Nat) c,cy[i]? = some c→∃ v,ay[0+i]? = some v∧Rel X.E S ρ w c v:=fun i c hc=>by
            have hj:i < ay.size:=by rw [hly]; exact (List.getElem?_eq_some_iff.1 hc).1
            exact ⟨_,by rw [Nat.zero_add]; exact Array.getElem?_eq_getElem hj,hay i c _ hc (Array.getElem?_eq_getElem hj)⟩
          rcases hX.eq ty hne with ⟨fields,hu,hst,heq,hlen,hf⟩ | ⟨n,e,ie,k,hu,hi,hce,heq,hts,hk⟩
          case inr =>
            refine ⟨?_,run_eqGuard_agg w op ty xo yo ax ay heq⟩
            rw [show (10000:Nat)=9999+1 from rfl,run_equalIn_array w 9999 ax ay hu hi,hce,List.range_eq_range']
            rw [hts] at hb
            exact ip hk n cx cy 0 ax ay b hxv hyv hb 9998
          have hfo:P.fieldsOf ty=fields:=by simp [Program.fieldsOf,hu]
          refine ⟨?_,run_eqGuard_agg w op ty xo yo ax ay heq⟩
          rw [show (10000:Nat)=9999+1 from rfl,run_equalIn_agg w 9999 ty ax ay (by rw [hfo]; exact hu) hst,hfo]
          have:=jG (X:=X) (P:=P) (S:=S) (ρ:=ρ) (w:=w) (ty:=ty) (gG X.eqs ty) cx cy 0 fields.toList ax ay b (fun i f k' h1 h2=>by have:=hf i f k' h1 h2; simpa using this) hlen
            (fun i c hc=>by
              have hj:i < ax.size:=by rw [hlx]; exact (List.getElem?_eq_some_iff.1 hc).1
              exact ⟨_,by rw [Nat.zero_add]; exact Array.getElem?_eq_getElem hj,hax i c _ hc (Array.getElem?_eq_getElem hj)⟩)
            (fun i c hc=>by
              have hj:i < ay.size:=by rw [hly]; exact (List.getElem?_eq_some_iff.1 hc).1
              exact ⟨_,by rw [Nat.zero_add]; exact Array.getElem?_eq_getElem hj,hay i c _ hc (Array.getElem?_eq_getElem hj)⟩) hb 9998
          exact this
        split at h
        · cases hemp : (gG X.eqs ty).isEmpty with
          | true=>rw [hemp] at h; cases h
          | false =>
            rw [hemp] at h
            simp only [cond] at h
            split at h
            · rename_i b hb
              obtain ⟨k1,k2⟩:=key b (by intro e; rw [e] at hemp; cases hemp) hb
              exact ⟨_,_,h,by simp only [Sem.run_bind,k2,Result.andThen_ok]; rw [run_eql_struct,k1]; rfl,.bool _⟩
            · cases h
        · cases hemp : (gG X.eqs ty).isEmpty with
          | true=>rw [hemp] at h; cases h
          | false =>
            rw [hemp] at h
            simp only [cond] at h
            split at h
            · rename_i b hb
              obtain ⟨k1,k2⟩:=key b (by intro e; rw [e] at hemp; cases hemp) hb
              exact ⟨_,_,h,by simp only [Sem.run_bind,k2,Result.andThen_ok]; rw [run_neq_struct,k1]; rfl,.bool _⟩
            · cases h
        · cases h
  · obtain ⟨e, hu⟩ := hp rfl
    cases hx; cases hy
    cases op<;>dsimp only at h
    case eql=>exact ⟨_,_,h,by simp only [Sem.run_bind,show (eqGuard .eql ty xo yo (.pointer none) (.pointer none)).run P w = .ok () w from by simp [eqGuard],Result.andThen_ok]; exact cK rfl (qv _ hu),.bool _⟩
    case neq=>exact ⟨_,_,h,by simp only [Sem.run_bind,show (eqGuard .neq ty xo yo (.pointer none) (.pointer none)).run P w = .ok () w from by simp [eqGuard],Result.andThen_ok]; exact cL rfl (qv _ hu),.bool _⟩
    all_goals cases h
  · obtain ⟨e, hu⟩ := hp rfl
    cases hx; cases hy
    cases op<;>dsimp only at h
    case eql=>exact ⟨_,_,h,by simp only [Sem.run_bind,show ∀ a,(eqGuard .eql ty xo yo (.pointer (some a)) (.pointer none)).run P w = .ok () w from fun a=>by simp [eqGuard],Result.andThen_ok]; exact cK rfl (gr _ _ hu),.bool _⟩
    case neq=>exact ⟨_,_,h,by simp only [Sem.run_bind,show ∀ a,(eqGuard .neq ty xo yo (.pointer (some a)) (.pointer none)).run P w = .ok () w from fun a=>by simp [eqGuard],Result.andThen_ok]; exact cL rfl (gr _ _ hu),.bool _⟩
    all_goals cases h
  · obtain ⟨e, hu⟩ := hp rfl
    cases hx; cases hy
    cases op<;>dsimp only at h
    case eql=>exact ⟨_,_,h,by simp only [Sem.run_bind,show ∀ a,(eqGuard .eql ty xo yo (.pointer (some a)) (.pointer none)).run P w = .ok () w from fun a=>by simp [eqGuard],Result.andThen_ok]; exact cK rfl (gr _ _ hu),.bool _⟩
    case neq=>exact ⟨_,_,h,by simp only [Sem.run_bind,show ∀ a,(eqGuard .neq ty xo yo (.pointer (some a)) (.pointer none)).run P w = .ok () w from fun a=>by simp [eqGuard],Result.andThen_ok]; exact cL rfl (gr _ _ hu),.bool _⟩
    all_goals cases h
  · obtain ⟨e, hu⟩ := hp rfl
    cases hx; cases hy
    cases op<;>dsimp only at h
    case eql=>exact ⟨_,_,h,by simp only [Sem.run_bind,show ∀ a,(eqGuard .eql ty xo yo (.pointer (some a)) (.pointer none)).run P w = .ok () w from fun a=>by simp [eqGuard],Result.andThen_ok]; exact cK rfl (gr _ _ hu),.bool _⟩
    case neq=>exact ⟨_,_,h,by simp only [Sem.run_bind,show ∀ a,(eqGuard .neq ty xo yo (.pointer (some a)) (.pointer none)).run P w = .ok () w from fun a=>by simp [eqGuard],Result.andThen_ok]; exact cL rfl (gr _ _ hu),.bool _⟩
    all_goals cases h
  · obtain ⟨e, hu⟩ := hi rfl
    obtain ⟨cv,rfl⟩:=hc rfl
    cases hx; cases hy
    cases op<;>dsimp only at h
    case eql=>exact ⟨_,_,h,by simp only [Sem.run_bind,show (eqGuard .eql ty xo (.const cv) .nilIface .nilIface).run P w = .ok () w from by simp [eqGuard],Result.andThen_ok]; exact cK rfl (qw _ hu),.bool _⟩
    case neq=>exact ⟨_,_,h,by simp only [Sem.run_bind,show (eqGuard .neq ty xo (.const cv) .nilIface .nilIface).run P w = .ok () w from by simp [eqGuard],Result.andThen_ok]; exact cL rfl (qw _ hu),.bool _⟩
    all_goals cases h
  · obtain ⟨e, hu⟩ := hi rfl
    cases hx; cases hy
    cases op<;>dsimp only at h
    case eql=>exact ⟨_,_,h,by simp only [Sem.run_bind,show ∀ t v,(eqGuard .eql ty xo yo (.iface t v) .nilIface).run P w = .ok () w from fun t v=>by simp [eqGuard],Result.andThen_ok]; exact cK rfl (qz _ _ _ hu),.bool _⟩
    case neq=>exact ⟨_,_,h,by simp only [Sem.run_bind,show ∀ t v,(eqGuard .neq ty xo yo (.iface t v) .nilIface).run P w = .ok () w from fun t v=>by simp [eqGuard],Result.andThen_ok]; exact cL rfl (qz _ _ _ hu),.bool _⟩
    all_goals cases h
  · obtain ⟨e, hu⟩ := hsl rfl
    rename_i u xs
    have key:∀ (ne:0 < xs.length),∃ ao n c,vx = .slice (some ao) n c:=fun ne=>by
      cases hx with
      | lstE=>simp at ne
      | lst _ _ b off cap=>exact ⟨_,_,_,rfl⟩
    cases hy
    cases op<;>dsimp only at h
    case eql =>
      obtain ⟨hl,h⟩:=ae h
      obtain ⟨ao,n,c,rfl⟩:=key (by simpa [nlt] using hl)
      exact ⟨_,_,h,by simp only [Sem.run_bind,show (eqGuard .eql ty xo yo (.slice (some ao) n c) (.slice none 0 0)).run P w = .ok () w from by simp [eqGuard],Result.andThen_ok]; exact cK rfl (ke _ ao n c hu),.bool _⟩
    case neq =>
      obtain ⟨hl,h⟩:=ae h
      obtain ⟨ao,n,c,rfl⟩:=key (by simpa [nlt] using hl)
      exact ⟨_,_,h,by simp only [Sem.run_bind,show (eqGuard .neq ty xo yo (.slice (some ao) n c) (.slice none 0 0)).run P w = .ok () w from by simp [eqGuard],Result.andThen_ok]; exact cL rfl (ke _ ao n c hu),.bool _⟩
    all_goals cases h
  · cases h
end
end Go.Proofs.YtnofdcckddfooaaGreatDoor

namespace Go.Proofs.YtnofdcckddfooaaGreatDoor
set_option linter.unusedVariables false
set_option linter.unusedSectionVars false
set_option linter.unusedSimpArgs false
open Go.RowKit
section
variable {U:Type} {El:U→Type} {P:Program} {X:Ctx U El} {S:Nat→Prop} {ρ:Rho} {w:World} [DecidableEq U]
variable {o:Oper} {a:Act} {t:ba U El} {h H:az U El} {B:Bd} {d:Nat} {r:Fin U El}
theorem sh {op:BinOp} {ty yt:TypeId} {x y:Operand} {k:Out U El→Option (Fin U El)} (hX:CtxOk P X) (ho:o.op = .binOp op ty x y yt) (hb:fM X ty y (oget t y)=true)
    (hv:iX op (gG X.eqs ty) (oget t x) (oget t y) (fun v=>k ⟨v,[]⟩)=some r) (hT:TRel X.E S ρ w o t a) (hlt:∀ b,S b→b < w.heap.size):∃ out,k out=some r∧bg P X.E S ρ w o a d out:=by
  have h1:=hT.get (x:=x) (by simp [ho,Op.operands])
  have h2:=hT.get (x:=y) (by simp [ho,Op.operands])
  obtain ⟨av,v,hk,hrun,hr⟩:=oZ (xo:=x) (yo:=y) hX h1 h2
    (fun e=>by
      rw [e] at hb; unfold fM at hb; dsimp only at hb; split at hb
      · cases y<;>first | exact ⟨_,rfl⟩ | (cases hb; done)
      · cases hb)
    (fun e=>by
      rw [e] at hb; unfold fM at hb; dsimp only at hb; split at hb
      · rename_i e'; exact hX.td _ _ e'
      · cases hb)
    (fun e=>by
      rw [e] at hb; unfold fM at hb; dsimp only at hb; split at hb
      · rename_i e'; exact hX.td _ _ e'
      · cases hb)
    (fun b e=>by
      rw [e] at hb; unfold fM at hb; dsimp only at hb; split at hb
      · rename_i e'; exact hX.td _ _ e'
      · cases hb)
    (fun e=>by
      rw [e] at hb; unfold fM at hb; dsimp only at hb; split at hb
      · rename_i u e'; exact ⟨_,hX.td _ _ e'⟩
      · cases hb) hv
  refine ⟨_,hk,au (v:=v) ?_ hr hlt⟩
  have e:(execOp a.eval o).run P w=(do let v ← (do eqGuard op ty x y (a.eval x) (a.eval y); binOp op ty (a.eval x) (a.eval y):Sem Value); pure (Next.value v):Sem Next).run P w:=by simp only [execOp,ho]
  rw [e]
  simp only [Sem.run_bind] at hrun ⊢
  rw [hrun]
  rfl
theorem cS {isS:Bool} {len cap:Nat} {lo hi:Option Operand} {kl kg:IntKind} {l g:Int} (hl:(match lo with | some o=>oget t o | none=>AV.int .i64 0) = .int kl l) (hg:(match hi with | some o=>oget t o | none=>AV.int .i64 len) = .int kg g)
    (hlo:∀ x,lo=some x→Rel X.E S ρ w (oget t x) (a.eval x)) (hhi:∀ x,hi=some x→Rel X.E S ρ w (oget t x) (a.eval x)) (h0:0≤l) (h1:l≤g) (h2:g≤len) (h3:len≤cap) :
    (Instr.sliceBounds isS len cap (lo.map a.eval) (hi.map a.eval) none).run P w = .ok (l.toNat,g.toNat,cap) w:=by
  have hlv:∀ x,lo=some x→a.eval x = .int kl l:=fun x e=>by
    have:=hlo x e; subst e; simp only at hl; rw [hl] at this; generalize hq:a.eval x=q at this; cases this; rfl
  have hgv:∀ x,hi=some x→a.eval x = .int kg g:=fun x e=>by
    have:=hhi x e; subst e; simp only at hg; rw [hg] at this; generalize hq:a.eval x=q at this; cases this; rfl
  have e1:g≤(cap:Int):=by omega
  have e2:0≤g:=by omega
  have e3:l≤(g.toNat:Int):=by omega
  cases lo with
  | none =>
    simp only [AV.int.injEq] at hl
    obtain ⟨_,rfl⟩:=hl
    cases hi with
    | none=>simp only [AV.int.injEq] at hg; obtain ⟨_,rfl⟩:=hg; simp [Instr.sliceBounds]
    | some y=>simp [Instr.sliceBounds,hgv y rfl,Instr.sliceBound,asIntOf,e1,e2]
  | some x =>
    cases hi with
    | none=>simp only [AV.int.injEq] at hg; obtain ⟨_,rfl⟩:=hg; simp at e3; simp [Instr.sliceBounds,hlv x rfl,Instr.sliceBound,asIntOf,h0,h1]
    | some y=>(simp [Instr.sliceBounds,hlv x rfl,hgv y rfl,Instr.sliceBound,asIntOf,e1,e2,e3,h0]; try (intro hh; omega))
theorem ee {l g:Int} {n:Nat} (h:(ile 0 l&&ile l g&&ile g n)=true):0≤l∧l≤g∧g≤n:=by
  simp [ile] at h; omega
theorem qB {α:Type} {s:List α} {l g:Int} {i:Nat} {x:α} (h0:0≤l) (h:(sub s l g)[i]? = some x):s[l.toNat+i]? = some x∧i < g.toNat - l.toNat:=by
  unfold sub at h
  rw [List.getElem?_take] at h
  split at h
  · rename_i hi; exact ⟨by rw [List.getElem?_drop] at h; exact h,hi⟩
  · cases h
theorem tU {α:Type} {s:List α} {l g:Int} (h0:0≤l) (h1:l≤g) (h2:g≤s.length):(sub s l g).length=g.toNat - l.toNat:=by
  unfold sub; simp; omega
theorem tV {u:U} {xs:List (El u)} {ao:Option Addr} {cap:Nat} {l g:Int} (hr:Rel X.E S ρ w (.lst u xs) (.slice ao xs.length cap)) (h0:0≤l) (h1:l≤g) (h2:g≤xs.length) :
    Rel X.E S ρ w (.lst u (sub xs l g)) (.slice (if cap=l.toNat then ao else ao.map (·.add (l.toNat * X.E.sz u))) (g.toNat - l.toNat) (cap - l.toNat)):=by
  have hlen:=tU h0 h1 h2
  by_cases he:g.toNat - l.toNat=0
  · have : sub xs l g = [] := List.eq_nil_of_length_eq_zero (by rw [hlen]; exact he)
    rw [this,he]
    exact .lstE u _ _
  · generalize hq : Value.slice ao xs.length cap = q at hr
    cases hr with
    | lstE=>simp at h2; omega
    | lst _ _ b off cap' val hS hc hcell hrel =>
      cases hq
      rw [if_neg (by omega),← hlen]
      simp only [Option.map_some,bP]
      refine .lst u _ b _ _ (fun i j=>val (l.toNat+i) j) hS (by omega) (fun i x j c hi hj => ?_) (fun i x j c hi hj=>hrel _ x j c (qB h0 hi).1 hj)
      have:=hcell _ x j c (qB h0 hi).1 hj
      rwa [show off+(l.toNat+i) * X.E.sz u+j=off+l.toNat * X.E.sz u+i * X.E.sz u+j by rw [Nat.add_mul]; omega] at this
theorem si {ty : TypeId} {x : Operand} {lo hi : Option Operand} {k : Out U El → Option (Fin U El)} (hX : CtxOk P X) (ho : o.op = .slice ty x lo hi none)
    (hv:aZ X o t h d k=some r)
    (hT:TRel X.E S ρ w o t a) (hH:HRel X.E S ρ w B H) (hs:∀ id b,ac h id=some b→ac H id=some b):∃ out,k out=some r∧bg P X.E S ρ w o a d out:=by
  have h1:=hT.get (x:=x) (by simp [ho,Op.operands])
  have hlo:∀ y,lo=some y→Rel X.E S ρ w (oget t y) (a.eval y):=fun y e=>hT.get (by simp [ho,Op.operands,e])
  have hhi:∀ y,hi=some y→Rel X.E S ρ w (oget t y) (a.eval y):=fun y e=>hT.get (by simp [ho,Op.operands,e])
  simp only [aZ,ho] at hv
  have runS:∀ (u:U) (ao:Option Addr) (len cap:Nat) (l g:Int),P.underlying ty=some (.slice (X.E.tid u))→a.eval x = .slice ao len cap→(Instr.sliceBounds true len cap (lo.map a.eval) (hi.map a.eval) none).run P w = .ok (l.toNat,g.toNat,cap) w →
      (execOp a.eval o).run P w = .ok (.value (.slice (if cap=l.toNat then ao else ao.map (·.add (l.toNat * X.E.sz u))) (g.toNat - l.toNat) (cap - l.toNat))) w:=by
    intro u ao len cap l g hu e hb
    obtain ⟨inf,z,hi',hsz,_⟩:=hX.u.info u
    simp [execOp,ho,Instr.sliceAt,run_underlying hu,Instr.slice,e,hb,cE hi',hsz]
  split at hv
  · rename_i s htd hx
    split at hv
    · rename_i kl l kg g hl hg
      obtain ⟨hb,hv1⟩:=ae hv
      obtain ⟨b0,b1,b2⟩:=ee hb
      have hu:P.underlying ty=some .string:=hX.td _ _ htd
      rw [hx] at h1
      generalize hq:a.eval x=q at h1
      cases h1
      have hrb:=cS (P:=P) (isS:=false) (cap:=s.length) hl hg hlo hhi b0 b1 b2 (Nat.le_refl _)
      have hsz:(⟨s.toArray⟩:ByteArray).size=s.length:=by simp [ByteArray.size]
      refine ⟨_,hv1,au (v := .string ⟨(sub s l g).toArray⟩) ?_ (.str _) hH.lt⟩
      have hex:(⟨s.toArray⟩:ByteArray).extract l.toNat g.toNat=⟨(sub s l g).toArray⟩:=by
        apply ByteArray.ext
        apply Array.ext'
        rw [Lib.extract_data]
        rfl
      simp [execOp,ho,Instr.sliceAt,run_underlying hu,Instr.slice,hq,hsz,hrb,hex]
    · cases hv
  · rename_i u u' xs htd hx
    split at hv
    · rename_i kl l kg g hl hg
      obtain ⟨hd,hv1⟩:=ae hv
      obtain ⟨hb,hv2⟩:=ae hv1
      have hd:u'=u:=by simpa using hd
      clear hv hv1
      subst hd
      obtain ⟨b0,b1,b2⟩:=ee hb
      have hu:P.underlying ty=some (.slice (X.E.tid u')):=hX.td _ _ htd
      rw [hx] at h1
      generalize hq:a.eval x=q at h1
      have hlen:∃ ao cap,q = .slice ao xs.length cap∧xs.length≤cap:=by
        cases h1 with
        | lstE _ ao cap=>exact ⟨ao,cap,rfl,Nat.zero_le _⟩
        | lst _ _ b off cap val hS hc hcell hrel=>exact ⟨_,_,rfl,hc⟩
      obtain ⟨ao,cap,rfl,hcap⟩:=hlen
      have hrb:=cS (P:=P) (isS:=true) hl hg hlo hhi b0 b1 b2 hcap
      exact ⟨_,hv2,au (runS u' ao _ cap l g hu hq hrb) (tV h1 b0 b1 b2) hH.lt⟩
    · cases hv
  · rename_i u id htd hx
    split at hv
    · rename_i u' xs hg0
      split at hv
      · rename_i kl l kg g hl hg
        obtain ⟨hd,hv1⟩:=ae hv
        obtain ⟨hb,hv2⟩:=ae hv1
        have hd:u'=u:=by simpa using hd
        clear hv hv1
        subst hd
        obtain ⟨b0,b1,b2⟩:=ee hb
        have hu:P.underlying ty=some (.slice (X.E.tid u')):=hX.td _ _ htd
        obtain ⟨lc,hlc,hbl⟩:=hH.get _ _ (hs _ _ hg0)
        obtain ⟨c1,c2,c3,_⟩:=hbl
        rw [hx] at h1
        generalize hq:a.eval x=q at h1
        cases h1 with
        | ful _ cap l' hl' hc1 hc2 =>
          rw [hlc] at hl'; cases hl'
          rw [c2] at hq hc2
          have hrb:=cS (P:=P) (isS:=true) hl hg hlo hhi b0 b1 b2 hc2
          refine ⟨_,hv2,au (runS u' _ _ cap l g hu hq hrb) ?_ hH.lt⟩
          by_cases he:g.toNat - l.toNat=0
          · rw [he]; exact .ownE _ _ _ _
          · rw [if_neg (by omega), ← c1]
            simp only [Option.map_some,bP,Nat.zero_add]
            exact .own id l.toNat _ _ lc hlc (by rw [show l.toNat+(cap - l.toNat)=cap by omega]; exact hc1) (by omega) (by omega)
        | fulN _ l' hl' hc1 hc2 =>
          rw [hlc] at hl'; cases hl'
          have hx0:xs.length=0:=by omega
          have hrb:=cS (P:=P) (isS:=true) (len:=0) (cap:=0) hl (by rw [hx0] at hg; exact hg) hlo hhi b0 b1 (by omega) (Nat.le_refl _)
          refine ⟨_,hv2,au (runS u' _ _ 0 l g hu hq hrb) ?_ hH.lt⟩
          rw [show g.toNat - l.toNat=0 by omega]; exact .ownE _ _ _ _
      · cases hv
    · cases hv
  · rename_i u id lo0 len htd hx
    split at hv
    · rename_i u' xs hg0
      split at hv
      · rename_i kl l kg g hl hg
        obtain ⟨hd,hv1⟩:=ae hv
        obtain ⟨hb,hv2⟩:=ae hv1
        have hd:u'=u:=by simpa using hd
        clear hv hv1
        subst hd
        obtain ⟨b0,b1,b2⟩:=ee hb
        have hu:P.underlying ty=some (.slice (X.E.tid u')):=hX.td _ _ htd
        obtain ⟨lc,hlc,hbl⟩:=hH.get _ _ (hs _ _ hg0)
        obtain ⟨c1,c2,c3,_⟩:=hbl
        rw [hx] at h1
        generalize hq:a.eval x=q at h1
        cases h1 with
        | own _ _ _ cap l' hl' hc1 hc2 hc3 =>
          rw [hlc] at hl'; cases hl'
          have hrb:=cS (P:=P) (isS:=true) hl hg hlo hhi b0 b1 b2 hc2
          refine ⟨_,hv2,au (runS u' _ _ cap l g hu hq hrb) ?_ hH.lt⟩
          by_cases he:g.toNat - l.toNat=0
          · rw [he]; exact .ownE _ _ _ _
          · rw [if_neg (by omega), ← c1]
            simp only [Option.map_some,bP]
            rw [← Nat.add_mul]
            exact .own id (lo0+l.toNat) _ _ lc hlc (by rw [show lo0+l.toNat+(cap - l.toNat)=lo0+cap by omega]; exact hc1) (by omega) (by omega)
        | ownE _ _ ao cap =>
          have hrb:=cS (P:=P) (isS:=true) (len:=0) (cap:=cap) hl hg hlo hhi b0 b1 (by omega) (Nat.zero_le _)
          refine ⟨_,hv2,au (runS u' _ _ cap l g hu hq hrb) ?_ hH.lt⟩
          rw [show g.toNat - l.toNat=0 by omega]; exact .ownE _ _ _ _
      · cases hv
    · cases hv
  · rename_i u htd hx
    split at hv
    · rename_i kl l kg g hl hg
      obtain ⟨hb,hv1⟩:=ae hv
      obtain ⟨b0,b1,b2⟩:=ee (n:=0) hb
      have hu:P.underlying ty=some (.slice (X.E.tid u)):=hX.td _ _ htd
      rw [hx] at h1
      generalize hq:a.eval x=q at h1
      cases h1
      have hrb:=cS (P:=P) (isS:=true) (len:=0) (cap:=0) hl hg hlo hhi b0 b1 (by omega) (Nat.le_refl _)
      have el:l.toNat=0:=by omega
      have eg:g.toNat=0:=by omega
      have:=runS u none 0 0 l g hu hq hrb
      rw [el,eg] at this
      exact ⟨_,hv1,au this .nils hH.lt⟩
    · cases hv
  · cases hv
theorem sj {ty:TypeId} {td:TD U} (hk:oW P X.E ty td):∃ d,P.underlying ty=some d:=by
  cases td with
  | one=>obtain ⟨d,h,_⟩:=hk; exact ⟨d,h⟩
  | bool=>exact ⟨_,hk⟩
  | ptr=>obtain ⟨e,h⟩:=hk; exact ⟨_,h⟩
  | iface=>obtain ⟨e,h⟩:=hk; exact ⟨_,h⟩
  | int k=>exact ⟨_,hk⟩
  | str=>exact ⟨_,hk⟩
  | slice u=>exact ⟨_,hk⟩
  | struct fs sz=>obtain ⟨f,h,_⟩:=hk; exact ⟨_,h⟩
  | arr n es ea sz=>obtain ⟨e,h,_⟩:=hk; exact ⟨_,h⟩
  | bld u=>exact hk.2.1
  | map u v=>exact ⟨_,hk⟩
  | amap u=>obtain ⟨v,e,h,_⟩:=hk; exact ⟨_,h⟩
theorem o3 {s ty:TypeId} {x:Operand} {k:Out U El→Option (Fin U El)} (hX:CtxOk P X) (ho:o.op = .convert s ty x)
    (hv:aZ X o t h d k=some r)
    (hT:TRel X.E S ρ w o t a) (hlt:∀ b,S b→b < w.heap.size):∃ out,k out=some r∧bg P X.E S ρ w o a d out:=by
  have h1:=hT.get (x:=x) (by simp [ho,Op.operands])
  simp only [aZ,ho] at hv
  split at hv
  · rename_i td b hts htd hx
    obtain ⟨ds,hds⟩:=sj (hX.td _ _ hts)
    have hu:P.underlying ty=some .string:=hX.td _ _ htd
    rw [hx] at h1
    generalize hq:a.eval x=q at h1
    cases h1
    refine ⟨_,hv,au ?_ (.str _) hlt⟩
    simp only [execOp,ho,hq,convert,Sem.run_bind,run_underlying hds,run_underlying hu,Result.andThen_ok]
    cases ds<;>rfl
  · rename_i td kd k' n hts htd hx
    obtain ⟨ds,hds⟩:=sj (hX.td _ _ hts)
    have hu:P.underlying ty=some (.int kd):=hX.td _ _ htd
    rw [hx] at h1
    generalize hq:a.eval x=q at h1
    cases h1
    refine ⟨_,hv,au ?_ (.int _ _) hlt⟩
    simp only [execOp,ho,hq,convert,Sem.run_bind,run_underlying hds,run_underlying hu,Result.andThen_ok]
    cases ds<;>simp [Conv.intToInt]
  · cases hv
theorem u7 {as:Array Operand} {ts:Array TypeId} {x:Operand} {n:Nat} (ho:o.op = .call ⟨.builtin .len,as,ts⟩) (has:as.toList=[x]) (hl:lenOf h (oget t x)=some n) (hnm:∀ id,oget t x ≠ .mp id)
    (hty:∃ ty,ts[0]? = some ty∧((∃ s,oget t x = .str s)→P.underlying ty=some .string)∧((¬ ∃ s,oget t x = .str s)→∃ e,P.underlying ty=some (.slice e)))
    (hT:TRel X.E S ρ w o t a) (hH:HRel X.E S ρ w B H) (hs:∀ id b,ac h id=some b→ac H id=some b):bg P X.E S ρ w o a d ⟨.int .i64 n,[]⟩:=by
  have ha:as=#[x]:=by apply Array.ext'; simpa using has
  subst ha
  have h1:=hT.get (x:=x) (by simp [ho,Op.operands,Call.operands])
  obtain ⟨ty,ht0,hs1,hs2⟩:=hty
  have hrun:∀ v,(Builtin.len_ ts o.type #[a.eval x]).run P w = .ok v w→(execOp a.eval o).run P w = .ok (.value v) w:=fun v e=>by
    simp [execOp,ho,resolve,invoke,builtin,e]
  have sl:∀ ao len cap,(¬ ∃ s,oget t x = .str s)→a.eval x = .slice ao len cap→(Builtin.len_ ts o.type #[a.eval x]).run P w = .ok (.int .i64 len) w:=fun ao len cap hn e=>by
    obtain ⟨el,hu⟩:=hs2 hn
    simp [Builtin.len_,ht0,e,run_underlying hu,goInt]
  unfold lenOf at hl
  split at hl
  · rename_i s hx
    cases hl
    have hu:=hs1 ⟨_,hx⟩
    rw [hx] at h1
    generalize hq:a.eval x=q at h1
    cases h1
    refine au (hrun (.int .i64 s.length) ?_) (.int _ _) hH.lt
    have hsz:(⟨s.toArray⟩:ByteArray).size=s.length:=by simp [ByteArray.size]
    simp [Builtin.len_,ht0,hq,run_underlying hu,goInt,hsz]
  · rename_i hx
    cases hl
    rw [hx] at h1
    have hn:¬ ∃ s,oget t x = .str s:=by rw [hx]; rintro ⟨s,e⟩; cases e
    generalize hq:a.eval x=q at h1
    cases h1
    exact au (hrun _ (sl _ _ _ hn hq)) (.int _ _) hH.lt
  · rename_i u xs hx
    cases hl
    rw [hx] at h1
    have hn:¬ ∃ s,oget t x = .str s:=by rw [hx]; rintro ⟨s,e⟩; cases e
    generalize hq:a.eval x=q at h1
    cases h1 with
    | lstE=>exact au (hrun _ (sl _ _ _ hn hq)) (.int _ _) hH.lt
    | lst _ _ b off cap val hS hc hcell hrel=>exact au (hrun _ (sl _ _ _ hn hq)) (.int _ _) hH.lt
  · rename_i id hx
    split at hl
    · rename_i u xs hg
      cases hl
      obtain ⟨lc,hlc,hbl⟩:=hH.get _ _ (hs _ _ hg)
      obtain ⟨c1,c2,c3,_⟩:=hbl
      rw [hx] at h1
      have hn:¬ ∃ s,oget t x = .str s:=by rw [hx]; rintro ⟨s,e⟩; cases e
      generalize hq:a.eval x=q at h1
      cases h1 with
      | ful _ cap l' hl' hc1 hc2=>rw [hlc] at hl'; cases hl'; rw [← c2]; exact au (hrun _ (sl _ _ _ hn hq)) (.int _ _) hH.lt
      | fulN _ l' hl' hc1 hc2=>rw [hlc] at hl'; cases hl'; rw [← c2,hc2]; exact au (hrun _ (sl _ _ _ hn hq)) (.int _ _) hH.lt
    · cases hl
  · rename_i id lo len hx
    cases hl
    rw [hx] at h1
    have hn:¬ ∃ s,oget t x = .str s:=by rw [hx]; rintro ⟨s,e⟩; cases e
    generalize hq:a.eval x=q at h1
    cases h1 with
    | own _ _ _ cap l' hl' hc1 hc2 hc3=>exact au (hrun _ (sl _ _ _ hn hq)) (.int _ _) hH.lt
    | ownE=>exact au (hrun _ (sl _ _ _ hn hq)) (.int _ _) hH.lt
  · rename_i id hx; exact absurd hx (hnm id)
  · cases hl
theorem lX {as:Array Operand} {ts:Array TypeId} {x y:Operand} {ka kb:IntKind} {m n:Int} {isMax:Bool} (ho:o.op = .call ⟨.builtin (if isMax then .max else .min),as,ts⟩) (has:as.toList=[x,y]) (hx:oget t x = .int ka m) (hy:oget t y = .int kb n)
    (hT:TRel X.E S ρ w o t a) (hlt:∀ b,S b→b < w.heap.size):bg P X.E S ρ w o a d ⟨.int ka (if isMax then (bif ilt m n then n else m) else (bif ilt n m then n else m)),[]⟩:=by
  have ha:as=#[x,y]:=by apply Array.ext'; simpa using has
  subst ha
  have h1:=hT.get (x:=x) (by simp [ho,Op.operands,Call.operands])
  have h2:=hT.get (x:=y) (by simp [ho,Op.operands,Call.operands])
  rw [hx] at h1
  rw [hy] at h2
  generalize hq:a.eval x=q at h1
  generalize hq2:a.eval y=q2 at h2
  cases h1; cases h2
  refine au ?_ (.int _ _) hlt
  cases isMax
  · simp [execOp,ho,resolve,invoke,builtin,hq,hq2,Builtin.min_,Builtin.min2,ilt,cond_eq_ite]
  · simp [execOp,ho,resolve,invoke,builtin,hq,hq2,Builtin.max_,Builtin.max2,ilt,cond_eq_ite]
end
end Go.Proofs.YtnofdcckddfooaaGreatDoor
