/- Abstract values and the abstract run of a function's code: a plain Lean function that mirrors the model on values whose slices are lists. -/
import Derived.Calls
import Derived.LoopN
import Derived.Laws.Sem
import Derived.Below
namespace Go.Proofs.YthdklallcljhlaaGreatDoor
set_option linter.unusedSectionVars false
set_option linter.unusedSimpArgs false
set_option linter.unusedVariables false
inductive AV (U:Type) (El:U→Type):Type where
  | any
  | bool (b:Bool)
  | int (k:IntKind) (n:Int)
  | str (s:List UInt8)
  | nilp | nils | nili | nilf | nilm
  | agg (cs:List (AV U El))
  | tup (cs:List (AV U El))
  | lst (u:U) (xs:List (El u))
  | ful (id:Nat)
  | own (id lo len:Nat)
  | ptr (id off:Nat)
  | row (id i off:Nat)
  | pel (u:U) (xs:List (El u)) (i off:Nat)
  | pcs (cs:List (AV U El)) (off:Nat)
  | fn (f:FuncId) (first caps:List (AV U El))
  | err
  | mp (id:Nat)
  | fmp (u v:U) (es:List (El u×El v))
inductive Blk (U:Type) (El:U→Type):Type where
  | rows (u:U) (xs:List (El u))
  | box (t:Nat) (cs:List (AV U El))
  | bld (T:TypeId) (j:Nat)
  | map (u v:U) (es:List (El u×El v))
  | amap (u:U) (ks:List (El u)) (cs:List (AV U El))
inductive TD (U:Type):Type where
  | one
  | bool
  | ptr
  | iface
  | int (k:IntKind)
  | str
  | slice (u:U)
  | struct (fs:List (Nat×Nat×Bool)) (sz:Nat)
  | arr (n es:Nat) (ea:Bool) (sz:Nat)
  | bld (u:U)
  | map (u v:U)
  | amap (u:U)
structure Univ (U:Type) (El:U→Type) where
  enc:(u:U)→El u→List (AV U El)
  dec:(u:U)→List (AV U El)→Option (El u)
  dflt:(u:U)→El u
  sz:U→Nat
  by_:U→Nat
  tid:U→TypeId
  agg:U→Bool
  fl:U→Bool
  G:World→Prop
  keq:(u:U)→El u→El u→Bool
  kok:U→Bool
  vok:U→Bool
def cV {K:Type} (eq:K→K→Bool):List K→K→Option Nat
  | [],_=>none
  | a :: l,x=>bif eq x a then some 0 else (cV eq l x).map (· + 1)
def eE {K V:Type} (eq:K→K→Bool):List (K×V)→K→Option V
  | [],_=>none
  | p :: l,x=>bif eq x p.1 then some p.2 else eE eq l x
def ig {K V:Type} (eq:K→K→Bool):List (K×V)→K→V→List (K×V)
  | [],x,v=>[(x,v)]
  | p :: l,x,v=>bif eq x p.1 then (x,v) :: l else p :: ig eq l x v
def bV {K V:Type} (eq:K→K→Bool) (l:List (K×V)) (x:K) (d:V):V:=(eE eq l x).getD d
def ii {K V:Type} (eq:K→K→Bool) (l:List (K×V)) (x:K):Bool:=(eE eq l x).isSome
section
variable {U:Type} {El:U→Type}
def fU (E:Univ U El) (u:U) (x:El u):AV U El:=bif E.agg u then .agg (E.enc u x) else (E.enc u x).headD .any
def ij (E:Univ U El) (u:U) (a:AV U El):Option (El u) :=
  match a with
  | .agg cs=>bif E.agg u then E.dec u cs else none
  | .any=>none
  | .tup _=>none
  | a=>bif E.agg u then none else E.dec u [a]
def AV.ment (id:Nat):AV U El→Bool
  | .agg cs=>mentL cs
  | .tup cs=>mentL cs
  | .pcs cs _=>mentL cs
  | .fn _ a b=>mentL a||mentL b
  | .ful j=>j == id
  | .own j _ _=>j == id
  | .ptr j _=>j == id
  | .row j _ _=>j == id
  | .mp j=>j == id
  | _=>false
where
  mentL:List (AV U El)→Bool
    | []=>false
    | c :: cs=>AV.ment id c||mentL cs
def AV.flat:AV U El→Bool
  | .agg cs=>flatL cs
  | .tup cs=>flatL cs
  | .bool _ | .int _ _ | .str _ | .nilp | .nils | .nili | .nilf | .nilm | .err=>true
  | .ful _ | .own _ _ _=>true
  | _=>false
where
  flatL:List (AV U El)→Bool
    | []=>true
    | c :: cs=>AV.flat c&&flatL cs
def AV.cell:AV U El→Bool
  | .bool _ | .int _ _ | .str _ | .nilp | .nils | .nili | .nilf | .nilm | .err | .lst _ _ | .fmp _ _ _ | .pel _ _ _ _=>true
  | _=>false
def AV.one:AV U El→Bool
  | .any | .agg _ | .tup _=>false
  | _=>true
def AV.kill (id:Nat) (a:AV U El):AV U El:=bif a.ment id then .any else a
abbrev au (U:Type) (El:U→Type):=List (Nat×Blk U El)
def ac:au U El→Nat→Option (Blk U El)
  | [],_=>none
  | (j,b) :: h,id=>bif Nat.beq j id then some b else ac h id
def fp:au U El→Nat→au U El
  | [],_=>[]
  | (j,b) :: h,id=>bif Nat.beq j id then fp h id else (j,b) :: fp h id
def Blk.kill (id:Nat):Blk U El→Blk U El
  | .rows u xs => .rows u xs
  | .box t cs => .box t (cs.map (AV.kill id))
  | .bld T j=>bif Nat.beq j id then .box 0 [.any,.any] else .bld T j
  | .map u v es => .map u v es
  | .amap u ks cs => .amap u ks (cs.map (AV.kill id))
def nC (id:Nat):au U El→au U El
  | []=>[]
  | (j,b) :: h=>(j,b.kill id) :: nC id h
abbrev aQ (U:Type) (El:U→Type):=List (Nat×AV U El)
def aF:aQ U El→Nat→AV U El
  | [],_ => .any
  | (j,v) :: t,i=>bif Nat.beq j i then v else aF t i
def iE (id:Nat):aQ U El→aQ U El
  | []=>[]
  | (j,v) :: t=>(j,v.kill id) :: iE id t
def AV.ren (σ:Nat→Nat):AV U El→AV U El
  | .agg cs => .agg (renL cs)
  | .tup cs => .tup (renL cs)
  | .pcs cs o => .pcs (renL cs) o
  | .fn f a b => .fn f (renL a) (renL b)
  | .ful j => .ful (σ j)
  | .own j lo len => .own (σ j) lo len
  | .ptr j o => .ptr (σ j) o
  | .row j i o => .row (σ j) i o
  | .mp j => .mp (σ j)
  | .any => .any
  | .bool b => .bool b
  | .int k n => .int k n
  | .str s => .str s
  | .nilp => .nilp
  | .nils => .nils
  | .nili => .nili
  | .nilf => .nilf
  | .nilm => .nilm
  | .lst u xs => .lst u xs
  | .pel u xs i o => .pel u xs i o
  | .err => .err
  | .fmp u v es => .fmp u v es
where
  renL:List (AV U El)→List (AV U El)
    | []=>[]
    | c :: cs=>AV.ren σ c :: renL cs
def Blk.ren (σ:Nat→Nat) (tg:Nat):Blk U El→Blk U El
  | .rows u xs => .rows u xs
  | .box _ cs => .box tg (cs.map (AV.ren σ))
  | .bld T j => .bld T (σ j)
  | .map u v es => .map u v es
  | .amap u ks cs => .amap u ks (cs.map (AV.ren σ))
def Blk.tag:Blk U El→Nat
  | .box t _=>t
  | _=>0
structure St (U:Type) (El:U→Type) where
  t:aQ U El
  h:au U El
def St.forget (st:St U El) (id:Nat):St U El:=⟨iE id st.t,nC id (fp st.h id)⟩
def St.forgets (st:St U El):List Nat→St U El
  | []=>st
  | id :: ids=>(st.forget id).forgets ids
def ik (id j:Nat):Nat→Nat:=fun i=>bif Nat.beq i id then j else i
def fV (id j:Nat):aQ U El→aQ U El
  | []=>[]
  | (i,v) :: t=>(i,v.ren (ik id j)) :: fV id j t
def iw (id j:Nat):au U El→au U El
  | []=>[]
  | (i,b) :: h=>(ik id j i,b.ren (ik id j) b.tag) :: iw id j h
def St.rename (st:St U El) (id j:Nat):St U El:=⟨fV id j st.t,iw id j st.h⟩
abbrev Fin (U:Type) (El:U→Type):=AV U El×au U El
def af {R:Type} (b:Bool) (x y:R):R:=bif b then x else y
def chk {R:Type} (b:Bool) (x:Option R):Option R:=bif b then x else none
noncomputable def amb {R:Type} (x y:Option R):Option R:=@ite _ (x=y) (Classical.propDecidable _) x none
theorem pk {R:Type} (x:Option R):amb x x=x:=by unfold amb; rw [if_pos rfl]
theorem pm {R:Type} {x y:Option R} {r:R} (h:amb x y=some r):x=some r∧y=some r:=by
  unfold amb at h
  split at h
  · rename_i e; exact ⟨h,e ▸ h⟩
  · cases h
def ilt (a b:Int):Bool:=decide (a < b)
def ile (a b:Int):Bool:=decide (a≤b)
def nlt (a b:Nat):Bool:=decide (a < b)
def nle (a b:Nat):Bool:=decide (a≤b)
def slt (a b:List UInt8):Bool:=Op.bytesLess a b
def inb (i:Int) (n:Nat):Bool:=ile 0 i&&ilt i n
abbrev MSp (U:Type) (El:U→Type):=List (AV U El)→au U El→(AV U El→au U El→Option (Fin U El))→Option (Fin U El)
structure Out (U:Type) (El:U→Type) where
  v:AV U El
  new:au U El
structure Ctx (U:Type) (El:U→Type) where
  E:Univ U El
  tds:List (TypeId×TD U)
  zeros:List (TypeId×Value)
  eqs:List (TypeId×List Nat)
  spec:FuncId→List (AV U El)→(AV U El→au U El→Option (Fin U El))→Option (Fin U El)
  fuel:Nat
  nt:Nat
  dspec:FuncId→Option (MSp U El)
  mspec:FuncId→Option (Nat→List (AV U El)→St U El→(AV U El→St U El→Option (Fin U El))→Option (Fin U El))
def aM:List (TypeId×TD U)→TypeId→Option (TD U)
  | [],_=>none
  | (j,d) :: l,t=>bif Nat.beq j t then some d else aM l t
def jO:List (TypeId×Value)→TypeId→Option Value
  | [],_=>none
  | (j,d) :: l,t=>bif Nat.beq j t then some d else jO l t
def constAV:Value→AV U El
  | .bool b => .bool b
  | .int k n => .int k n
  | .string s => .str s.data.toList
  | .pointer none => .nilp
  | .slice none 0 0 => .nils
  | .map none => .nilm
  | .nilFunc => .nilf
  | .nilIface => .nili
  | .agg cs => .agg (constL cs.toList)
  | .tuple cs => .tup (constL cs.toList)
  | _ => .any
where
  constL:List Value→List (AV U El)
    | []=>[]
    | .bool b :: l => .bool b :: constL l
    | .int k n :: l => .int k n :: constL l
    | .string s :: l => .str s.data.toList :: constL l
    | .pointer none :: l => .nilp :: constL l
    | .slice none 0 0 :: l => .nils :: constL l
    | .map none :: l => .nilm :: constL l
    | .nilFunc :: l => .nilf :: constL l
    | .nilIface :: l => .nili :: constL l
    | _ :: l => .any :: constL l
def oget (t:aQ U El):Operand→AV U El
  | .tmp i=>aF t i
  | .const v=>constAV v
  | .global _ => .any
  | .func f => .fn f [] []
variable [DecidableEq U]
def kz (X : Ctx U El) (h : au U El) (td : Option (TD U)) : AV U El → Option (AV U El)
  | .ful id => match ac h id with
    | some (.rows u xs)=>some (.lst u xs)
    | _=>none
  | .own id lo len => match ac h id with
    | some (.rows u xs)=>some (.lst u ((xs.drop lo).take len))
    | _=>none
  | .nils => match td with
    | some (.slice u)=>some (.lst u [])
    | _=>some .nils
  | .bool b=>some (.bool b)
  | .int k n=>some (.int k n)
  | .str s=>some (.str s)
  | .nilp=>some .nilp
  | .nili=>some .nili
  | .nilf=>some .nilf
  | .nilm=>some .nilm
  | .err=>some .err
  | .lst u xs=>some (.lst u xs)
  | .pel u xs i o=>some (.pel u xs i o)
  | .fmp u v es=>some (.fmp u v es)
  | .mp id => match ac h id with
    | some (.map u v es)=>some (.fmp u v es)
    | _=>none
  | _=>none
def d7 (X : Ctx U El) (h : au U El) : List (AV U El) → Option (List (AV U El))
  | []=>some []
  | c :: cs => match kz X h none c with
    | some d => match d7 X h cs with
      | some ds=>some (d :: ds)
      | none=>none
    | none=>none
def kB (X : Ctx U El) (h : au U El) (td : Option (TD U)) : AV U El → Option (AV U El)
  | .agg cs => match d7 X h cs with
    | some ds=>some (.agg ds)
    | none=>none
  | .ptr id off => match ac h id with
    | some (.box _ cs) => match d7 X h cs with
      | some ds=>some (.pcs ds off)
      | none=>none
    | _=>none
  | .pcs cs off=>match d7 X h cs with
      | some ds=>some (.pcs ds off)
      | none=>none
  | a=>kz X h td a
def e9 (X : Ctx U El) (h : au U El) : List (AV U El) → Option (List (AV U El))
  | []=>some []
  | c :: cs => match kB X h none c with
    | some d => match e9 X h cs with
      | some ds=>some (d :: ds)
      | none=>none
    | none=>none
def kC (X : Ctx U El) (h : au U El) (td : Option (TD U)) : AV U El → Option (AV U El)
  | .ptr id off => match ac h id with
    | some (.box _ cs) => match e9 X h cs with
      | some ds=>some (.pcs ds off)
      | none=>none
    | _=>none
  | .pcs cs off=>match e9 X h cs with
      | some ds=>some (.pcs ds off)
      | none=>none
  | a=>kB X h td a
def fa (X : Ctx U El) (h : au U El) : List (AV U El) → Option (List (AV U El))
  | []=>some []
  | c :: cs => match kC X h none c with
    | some d => match fa X h cs with
      | some ds=>some (d :: ds)
      | none=>none
    | none=>none
def po (X : Ctx U El) (h : au U El) (td : Option (TD U)) : AV U El → Option (AV U El)
  | .fn f a b => match fa X h a with
    | some a' => match fa X h b with
      | some b'=>some (.fn f a' b')
      | none=>none
    | none=>none
  | a=>kC X h td a
def gx (X : Ctx U El) (h : au U El) : List (AV U El) → List TypeId → Option (List (AV U El))
  | [],_=>some []
  | c :: cs, ts => match po X h (match ts with | t :: _ => aM X.tds t | [] => none) c with
    | some d => match gx X h cs (ts.drop 1) with
      | some ds=>some (d :: ds)
      | none=>none
    | none=>none
def lg (X : Ctx U El) (h : au U El) (p : AV U El) (k : List (AV U El) → Nat → Option (Fin U El)) : Option (Fin U El) :=
  match p with
  | .ptr id off => match ac h id with
    | some (.box _ cs)=>k cs off
    | _=>none
  | .row id i off => match ac h id with
    | some (.rows u xs)=>chk (nlt i xs.length) (k (X.E.enc u (xs.getD i (X.E.dflt u))) off)
    | _=>none
  | .pel u xs i off=>k (X.E.enc u (xs.getD i (X.E.dflt u))) off
  | .pcs cs off=>k cs off
  | _=>none
def ci (cs : List (AV U El)) (off sz : Nat) (ag : Bool) (k : AV U El → Option (Fin U El)) : Option (Fin U El) :=
  bif ag then chk (Nat.ble (off+sz) cs.length) (k (.agg ((cs.drop off).take sz)))
  else match cs[off]? with
    | some c=>k c
    | none=>none
def gW:TD U→Option (Nat×Bool)
  | .one=>some (1,false)
  | .bool=>some (1,false)
  | .ptr=>some (1,false)
  | .iface=>some (1,false)
  | .int _=>some (1,false)
  | .str=>some (1,false)
  | .slice _=>some (1,false)
  | .struct _ sz=>some (sz,true)
  | .arr _ _ _ sz=>some (sz,true)
  | .bld _=>none
  | .map _ _=>some (1,false)
  | .amap _=>some (1,false)
def fq:List (TypeId×List Nat)→TypeId→List Nat
  | [],_=>[]
  | (j,d) :: l,t=>bif Nat.beq j t then d else fq l t
def bC:List Nat→List (AV U El)→List (AV U El)→Option Bool
  | [],[],[]=>some true
  | 0 :: ts,.int k a :: x,.int k' b :: y=>bif decide (k=k') then match bC ts x y with | some r=>some ((a == b)&&r) | none=>none else none
  | 1 :: ts,.bool a :: x,.bool b :: y=>match bC ts x y with | some r=>some ((a == b)&&r) | none=>none
  | 2 :: ts,.str a :: x,.str b :: y=>match bC ts x y with | some r=>some ((a == b)&&r) | none=>none
  | _,_,_=>none
def iG (op:BinOp) (a b:Int):Option Bool :=
  match op with
  | .eql=>some (a == b)
  | .neq=>some (a != b)
  | .lss=>some (ilt a b)
  | .leq=>some (ile a b)
  | .gtr=>some (ilt b a)
  | .geq=>some (ile b a)
  | _=>none
def gy (op : BinOp) (ts : List Nat) (a b : AV U El) (k : AV U El → Option (Fin U El)) : Option (Fin U El) :=
  match a,b with
  | .int ka x, .int kb y =>
    match op with
    | .shl=>chk (ile 0 y) (k (.int ka (ka.wrap (x * 2 ^ min y.toNat ka.bits))))
    | .shr=>chk (ile 0 y) (k (.int ka (x.fdiv (2 ^ min y.toNat ka.bits))))
    | .add=>chk (decide (ka=kb)) (k (.int ka (ka.wrap (x+y))))
    | .sub=>chk (decide (ka=kb)) (k (.int ka (ka.wrap (x - y))))
    | .mul=>chk (decide (ka=kb)) (k (.int ka (ka.wrap (x * y))))
    | .quo=>chk (decide (ka=kb)) (chk (y != 0) (k (.int ka (ka.wrap (x.tdiv y)))))
    | .rem=>chk (decide (ka=kb)) (chk (y != 0) (k (.int ka (x.tmod y))))
    | _ => chk (decide (ka = kb)) (match iG op x y with
      | some r=>k (.bool r)
      | none=>none)
  | .str x, .str y =>
    match op with
    | .add=>chk (nle (x.length+y.length) 9223372036854775807) (k (.str (x++y)))
    | .eql=>k (.bool (x == y))
    | .neq=>k (.bool (!(x == y)))
    | .lss=>k (.bool (slt x y))
    | .leq=>k (.bool (slt x y||(x == y)))
    | .gtr=>k (.bool (!(slt x y||(x == y))))
    | .geq=>k (.bool (!(slt x y)))
    | _=>none
  | .bool x, .bool y =>
    match op with
    | .eql=>k (.bool (x == y))
    | .neq=>k (.bool (!(x == y)))
    | _=>none
  | .agg x, .agg y =>
    match op with
    | .eql => bif ts.isEmpty then none else match bC ts x y with
      | some r=>k (.bool r)
      | none=>none
    | .neq => bif ts.isEmpty then none else match bC ts x y with
      | some r=>k (.bool (!r))
      | none=>none
    | _=>none
  | .nilp,.nilp=>match op with | .eql=>k (.bool true) | .neq=>k (.bool false) | _=>none
  | .ptr _ _,.nilp=>match op with | .eql=>k (.bool false) | .neq=>k (.bool true) | _=>none
  | .row _ _ _,.nilp=>match op with | .eql=>k (.bool false) | .neq=>k (.bool true) | _=>none
  | .pel _ _ _ _,.nilp=>match op with | .eql=>k (.bool false) | .neq=>k (.bool true) | _=>none
  | .nili,.nili=>match op with | .eql=>k (.bool true) | .neq=>k (.bool false) | _=>none
  | .err,.nili=>match op with | .eql=>k (.bool false) | .neq=>k (.bool true) | _=>none
  | .lst _ xs,.nils=>match op with | .eql=>chk (nlt 0 xs.length) (k (.bool false)) | .neq=>chk (nlt 0 xs.length) (k (.bool true)) | _=>none
  | _,_=>none
def lenOf (h : au U El) : AV U El → Option Nat
  | .str s=>some s.length
  | .nils=>some 0
  | .lst _ xs=>some xs.length
  | .ful id => match ac h id with
    | some (.rows _ xs)=>some xs.length
    | _=>none
  | .own _ _ len=>some len
  | .mp id => match ac h id with
    | some (.map _ _ es)=>some es.length
    | _=>none
  | _=>none
def cellsOf:AV U El→Option (List (AV U El))
  | .agg cs=>some cs
  | .any=>none
  | .tup _=>none
  | a=>some [a]
def fb (E : Univ U El) (u : U) (t : aQ U El) : Nat → List (Nat × Operand) → Option (List (El u))
  | _,[]=>some []
  | n, (i, o) :: ps => bif Nat.beq i n then
      match cellsOf (oget t o) with
      | some cs => match E.dec u cs with
        | some x => match fb E u t (n + 1) ps with
          | some xs=>some (x :: xs)
          | none=>none
        | none=>none
      | none=>none
    else none
def bH (t : aQ U El) (Z : List (AV U El)) : Nat → Nat → List (Nat × Nat × Bool) → List (Nat × Operand) → Option (List (AV U El))
  | _,_,[],[]=>some []
  | n, acc, (off, sz, _) :: fs, [] => bif Nat.beq off acc && Nat.ble (acc + sz) Z.length then
      match bH t Z (n+1) (acc+sz) fs [] with
      | some r=>some ((Z.drop acc).take sz++r)
      | none=>none
    else none
  | n, acc, (off, sz, _) :: fs, (i, o) :: ps => bif Nat.beq i n then
      bif Nat.beq off acc then
      match cellsOf (oget t o) with
      | some cs => bif Nat.beq cs.length sz then
          match bH t Z (n+1) (acc+sz) fs ps with
          | some r=>some (cs++r)
          | none=>none
        else none
      | none=>none
      else none
    else bif Nat.beq off acc&&Nat.ble (acc+sz) Z.length then
      match bH t Z (n+1) (acc+sz) fs ((i,o) :: ps) with
      | some r=>some ((Z.drop acc).take sz++r)
      | none=>none
    else none
  | _,_,[],_ :: _=>none
def iH (t : aQ U El) (fs : List (Nat × Nat × Bool)) : List (AV U El) → List (Nat × Operand) → Option (List (AV U El))
  | cs,[]=>some cs
  | cs, (i, o) :: ps => match fs[i]? with
    | some (off, sz, _) => match cellsOf (oget t o) with
      | some ns=>bif Nat.beq ns.length sz&&Nat.ble (off+sz) cs.length then iH t fs (cs.take off++(ns++cs.drop (off+sz))) ps else none
      | none=>none
    | none=>none
def mC (t:aQ U El) (Z:List (AV U El)) (fs:List (Nat×Nat×Bool)) (ps:List (Nat×Operand)):Option (List (AV U El)) :=
  match bH t Z 0 0 fs ps with
  | some cs=>some cs
  | none=>iH t fs Z ps
def zeroCells (zs:List (TypeId×Value)) (ty:TypeId):List (AV U El) :=
  match jO zs ty with
  | some z=>constAV.constL z.cells.toList
  | none=>[]
def nD (d:Nat):AV U El→AV U El
  | .ful id => .ful (d * 1000+id)
  | a=>a
def rename (d:Nat):AV U El→AV U El
  | .ful id => .ful (d * 1000+id)
  | .agg cs => .agg (cs.map (nD d))
  | a=>a
def fc (d:Nat):AV U El→AV U El
  | .tup cs => .tup (cs.map (rename d))
  | a=>rename d a
def dC (d:Nat):au U El→au U El
  | []=>[]
  | (id,b) :: h=>(d * 1000+id,b) :: dC d h
def sub {α:Type} (s:List α) (l h:Int):List α:=(s.drop l.toNat).take (h.toNat - l.toNat)
def AV.plain:AV U El→Bool
  | .agg cs=>cs.all AV.cell
  | .pel _ _ _ _=>true
  | .fn _ a b=>a.isEmpty&&b.isEmpty
  | a=>a.cell
def AV.cellF:AV U El→Bool
  | .lst _ _=>false
  | .pel _ _ _ _=>false
  | .fmp _ _ _=>false
  | a=>a.cell
def AV.resG1 (ok:AV U El→Bool):AV U El→Bool
  | .ful id=>Nat.blt id 4
  | .agg cs=>cs.all fun c=>ok c||(match c with | .ful id=>Nat.blt id 4 | _=>false)
  | .fn _ [] [.pcs cs _]=>cs.all ok && !(cs.all AV.cellF)
  | a=>ok a
def AV.resG (ok:AV U El→Bool):AV U El→Bool
  | .tup cs=>cs.all (AV.resG1 ok)
  | a=>a.resG1 ok
def fw:au U El→Bool
  | []=>true
  | (_,.rows _ _) :: h=>fw h
  | (_,.box _ _) :: _=>false
  | (_,.bld _ _) :: _=>false
  | (_,.map _ _ _) :: _=>false
  | (_,.amap _ _ _) :: _=>false
def fW (E:Univ U El):au U El→Bool
  | []=>true
  | (_,.rows u _) :: h=>E.fl u&&fW E h
  | (_,.box _ _) :: _=>false
  | (_,.bld _ _) :: _=>false
  | (_,.map _ _ _) :: _=>false
  | (_,.amap _ _ _) :: _=>false
def eF (X:Ctx U El) (ty:TypeId) (yo:Operand) (y:AV U El):Bool :=
  match y with
  | .nilp=>match aM X.tds ty with | some .ptr=>true | _=>false
  | .nili=>match aM X.tds ty with | some .iface=>Region.isConst yo | _=>false
  | .bool _=>match aM X.tds ty with | some .bool=>true | _=>false
  | .nils=>match aM X.tds ty with | some (.slice _)=>true | _=>false
  | _=>true
def aN (X : Ctx U El) (o : Oper) (t : aQ U El) (h : au U El) (d : Nat) (k : Out U El → Option (Fin U El)) : Option (Fin U El) :=
  match o.op with
  | .move x=>k ⟨oget t x,[]⟩
  | .assign x=>k ⟨oget t x,[]⟩
  | .pick c a b => match oget t c with
    | .bool true=>k ⟨oget t a,[]⟩
    | .bool false=>k ⟨oget t b,[]⟩
    | _=>none
  | .box _ x => match cellsOf (oget t x) with
    | some cs=>k ⟨.ptr d 0,[(d,.box 0 cs)]⟩
    | none=>none
  | .alloc ty => match aM X.tds ty with
    | some (.bld u)=>chk (Nat.blt 0 d) (k ⟨.ptr d 0,[(d,.bld ty (d * 1000)),(d * 1000,.rows u [])]⟩)
    | _ => match jO X.zeros ty with
      | some z => match cellsOf (constAV z) with
        | some cs=>k ⟨.ptr d 0,[(d,.box 0 cs)]⟩
        | none=>none
      | none=>none
  | .binOp op ty x y _=>chk (eF X ty y (oget t y)) <| gy op (fq X.eqs ty) (oget t x) (oget t y) fun v=>k ⟨v,[]⟩
  | .unOp op _ x => match op, oget t x with
    | .not,.bool b=>k ⟨.bool (!b),[]⟩
    | .neg,.int kd n=>k ⟨.int kd (kd.wrap (0 - n)),[]⟩
    | _,_=>none
  | .nilCheck x => match oget t x with
    | .ptr id off=>k ⟨.ptr id off,[]⟩
    | .row id i off=>k ⟨.row id i off,[]⟩
    | .pel u xs i off=>k ⟨.pel u xs i off,[]⟩
    | .pcs cs off=>k ⟨.pcs cs off,[]⟩
    | _=>none
  | .load ty p => match aM X.tds ty with
    | some td => match gW td with
      | some (sz,ag)=>lg X h (oget t p) fun cs off=>ci cs off sz ag fun v=>k ⟨v,[]⟩
      | none=>none
    | none=>none
  | .fieldAddr s p f => match aM X.tds s with
    | some (.struct fs _) => match fs[f]? with
      | some (off, _, _) => match oget t p with
        | .ptr id o=>k ⟨.ptr id (o+off),[]⟩
        | .row id i o=>k ⟨.row id i (o+off),[]⟩
        | .pel u xs i o=>k ⟨.pel u xs i (o+off),[]⟩
        | .pcs cs o=>k ⟨.pcs cs (o+off),[]⟩
        | _=>none
      | none=>none
    | _=>none
  | .field s x f => match aM X.tds s with
    | some (.struct fs _) => match fs[f]? with
      | some (off, sz, ag) => match oget t x with
        | .agg cs=>ci cs off sz ag fun v=>k ⟨v,[]⟩
        | _=>none
      | none=>none
    | _=>none
  | .indexAddr ty x ix => match aM X.tds ty, oget t ix with
    | some (.slice u), .int _ i => match oget t x with
      | .lst u' xs=>chk (decide (u'=u)) (chk (inb i xs.length) (k ⟨.pel u' xs i.toNat 0,[]⟩))
      | .ful id => match ac h id with
        | some (.rows u' xs)=>chk (decide (u'=u)) (chk (inb i xs.length) (k ⟨.row id i.toNat 0,[]⟩))
        | _=>none
      | .own id lo len => match ac h id with
        | some (.rows u' xs)=>chk (decide (u'=u)) (chk (inb i len) (k ⟨.row id (lo+i.toNat) 0,[]⟩))
        | _=>none
      | _=>none
    | some (.arr n es _ _), .int _ i => match oget t x with
      | .ptr id off=>chk (inb i n) (k ⟨.ptr id (off+i.toNat * es),[]⟩)
      | .row id j off=>chk (inb i n) (k ⟨.row id j (off+i.toNat * es),[]⟩)
      | .pel u xs j off=>chk (inb i n) (k ⟨.pel u xs j (off+i.toNat * es),[]⟩)
      | .pcs cs off=>chk (inb i n) (k ⟨.pcs cs (off+i.toNat * es),[]⟩)
      | _=>none
    | _,_=>none
  | .index ty x ix => match aM X.tds ty, oget t ix with
    | some (.str), .int _ i => match oget t x with
      | .str s=>chk (inb i s.length) (k ⟨.int .u8 (s.getD i.toNat 0).toNat,[]⟩)
      | _=>none
    | some (.arr n es ea _), .int _ i => match oget t x with
      | .agg cs=>chk (inb i n) (ci cs (i.toNat * es) es ea fun v=>k ⟨v,[]⟩)
      | _=>none
    | _,_=>none
  | .slice ty x lo hi none => match aM X.tds ty, oget t x with
    | some (.str), .str s => match (match lo with | some o => oget t o | none => .int .i64 0), (match hi with | some o => oget t o | none => .int .i64 s.length) with
      | .int _ l,.int _ g=>chk (ile 0 l&&ile l g&&ile g s.length) (k ⟨.str (sub s l g),[]⟩)
      | _,_=>none
    | some (.slice u), .lst u' xs => match (match lo with | some o => oget t o | none => .int .i64 0), (match hi with | some o => oget t o | none => .int .i64 xs.length) with
      | .int _ l,.int _ g=>chk (decide (u'=u)) (chk (ile 0 l&&ile l g&&ile g xs.length) (k ⟨.lst u' (sub xs l g),[]⟩))
      | _,_=>none
    | some (.slice u), .ful id => match ac h id with
      | some (.rows u' xs) => match (match lo with | some o => oget t o | none => .int .i64 0), (match hi with | some o => oget t o | none => .int .i64 xs.length) with
        | .int _ l,.int _ g=>chk (decide (u'=u)) (chk (ile 0 l&&ile l g&&ile g xs.length) (k ⟨.own id l.toNat (g.toNat - l.toNat),[]⟩))
        | _,_=>none
      | _=>none
    | some (.slice u), .own id lo0 len => match ac h id with
      | some (.rows u' _) => match (match lo with | some o => oget t o | none => .int .i64 0), (match hi with | some o => oget t o | none => .int .i64 len) with
        | .int _ l,.int _ g=>chk (decide (u'=u)) (chk (ile 0 l&&ile l g&&ile g len) (k ⟨.own id (lo0+l.toNat) (g.toNat - l.toNat),[]⟩))
        | _,_=>none
      | _=>none
    | some (.slice _), .nils => match (match lo with | some o => oget t o | none => .int .i64 0), (match hi with | some o => oget t o | none => .int .i64 0) with
      | .int _ l,.int _ g=>chk (ile 0 l&&ile l g&&ile g 0) (k ⟨.nils,[]⟩)
      | _,_=>none
    | _,_=>none
  | .extract x i => match oget t x with
    | .tup cs => match cs[i]? with
      | some v=>k ⟨v,[]⟩
      | none=>none
    | _=>none
  | .makeFunc (.func f) a b=>k ⟨.fn f (a.toList.map (oget t)) (b.toList.map (oget t)),[]⟩
  | .build ty ps => match aM X.tds ty with
    | some (.struct fs sz) => match mC t (zeroCells X.zeros ty) fs ps.toList with
      | some cs=>chk (Nat.beq cs.length sz) (k ⟨.agg cs,[]⟩)
      | none=>none
    | some (.arr n es ea sz) => match bH t (zeroCells X.zeros ty) 0 0 ((List.range n).map fun i => (i * es, es, ea)) ps.toList with
      | some cs=>chk (Nat.beq cs.length sz) (k ⟨.agg cs,[]⟩)
      | none=>none
    | _=>none
  | .buildSlice ty n ps => match aM X.tds ty with
    | some (.slice u) => chk (Nat.beq n ps.size) (chk (Nat.ble (n * X.E.sz u) 16777216) (match fb X.E u t 0 ps.toList with
      | some xs=>k ⟨.ful d,[(d,.rows u xs)]⟩
      | none=>none))
    | _=>none
  | .makeSlice ty n c => match aM X.tds ty, oget t n, oget t c with
    | some (.slice u),.int _ ln,.int _ cp=>chk (ile 0 ln&&ile ln cp&&ile (cp * X.E.by_ u) 140737488355328) (k ⟨.ful d,[(d,.rows u (List.replicate ln.toNat (X.E.dflt u)))]⟩)
    | _,_,_=>none
  | .makeMap ty none => match aM X.tds ty with
    | some (.map u v)=>k ⟨.mp d,[(d,.map u v [])]⟩
    | _=>none
  | .lookup ty m ix ok => match aM X.tds ty, oget t m with
    | some (.map u v), .mp id => match ac h id with
      | some (.map u' v' es) => chk (decide (u' = u) && (decide (v' = v) && (X.E.kok u' && X.E.vok v'))) (match ij X.E u' (oget t ix) with
        | some x=>k ⟨bif ok then .tup [fU X.E v' (bV (X.E.keq u') es x (X.E.dflt v')),.bool (ii (X.E.keq u') es x)] else fU X.E v' (bV (X.E.keq u') es x (X.E.dflt v')),[]⟩
        | none=>none)
      | _=>none
    | some (.map u v), .fmp u' v' es => chk (decide (u' = u) && (decide (v' = v) && (X.E.kok u' && X.E.vok v'))) (match ij X.E u' (oget t ix) with
      | some x=>k ⟨bif ok then .tup [fU X.E v' (bV (X.E.keq u') es x (X.E.dflt v')),.bool (ii (X.E.keq u') es x)] else fU X.E v' (bV (X.E.keq u') es x (X.E.dflt v')),[]⟩
      | none=>none)
    | _,_=>none
  | .convert s ty x => match aM X.tds s, aM X.tds ty, oget t x with
    | some _,some .str,.str b=>k ⟨.str b,[]⟩
    | some _,some (.int kd),.int _ n=>k ⟨.int kd (kd.wrap n),[]⟩
    | _,_,_=>none
  | .call ⟨.builtin .len, as, ts⟩ => match as.toList, ts.toList with
    | [x], ty :: _ => match lenOf h (oget t x) with
      | some n => chk (match aM X.tds ty, oget t x with
        | some .str,.str _=>true
        | some (.slice _),.str _=>false
        | some (.slice _),.mp _=>false
        | some (.slice _),_=>true
        | some (.map _ _),.mp _=>true
        | _,_=>false) (k ⟨.int .i64 n,[]⟩)
      | none=>none
    | _,_=>none
  | .call ⟨.builtin .max, as, _⟩ => match as.toList with
    | [x, y] => match oget t x, oget t y with
      | .int ka a,.int kb b=>k ⟨.int ka (bif ilt a b then b else a),[]⟩
      | _,_=>none
    | _=>none
  | .call ⟨.builtin .min, as, _⟩ => match as.toList with
    | [x, y] => match oget t x, oget t y with
      | .int ka a,.int kb b=>k ⟨.int ka (bif ilt b a then b else a),[]⟩
      | _,_=>none
    | _=>none
  | .call ⟨.value f, as, ts⟩ => match oget t f with
    | .fn g first caps => match gx X h (first ++ as.toList.map (oget t) ++ caps) (first.map (fun _ => 0) ++ ts.toList) with
      | some vs=>X.spec g vs fun r ex=>chk (r.resG AV.cell&&fw ex&&((r.resG AV.cellF&&fW X.E ex)||(first++as.toList.map (oget t)++caps).all AV.plain)) (k ⟨fc d r,dC d ex⟩)
      | none=>none
    | _=>none
  | _=>none
def St.put (st:St U El) (d:Option Nat) (o:Out U El):St U El :=
  ⟨match d with | some d=>(d,o.v) :: st.t | none=>st.t,o.new++st.h⟩
def bu (d:Nat):List Nat:=[d * 1000+0,d * 1000+1,d * 1000+2,d * 1000+3]
def aK (o:Oper) (d:Nat):List Nat :=
  match o.op with
  | .box _ _=>[d]
  | .alloc _=>[d,d * 1000]
  | .buildSlice _ _ _=>[d]
  | .makeSlice _ _ _=>[d]
  | .makeMap _ _=>[d]
  | .call ⟨.value _,_,_⟩=>bu d
  | .call ⟨.builtin .append,_,_⟩=>[d]
  | _=>[]
def d8 (h : au U El) (u : U) : AV U El → Option (List (El u))
  | .nils=>some []
  | .lst u' xs=>if e:u'=u then some (e ▸ xs) else none
  | .ful id => match ac h id with
    | some (.rows u' xs)=>if e:u'=u then some (e ▸ xs) else none
    | _=>none
  | .own id lo len => match ac h id with
    | some (.rows u' xs)=>if e:u'=u then some (e ▸ ((xs.drop lo).take len)) else none
    | _=>none
  | _=>none
def eG (h : au U El) (u : U) : AV U El → Option (List (El u) × Option Nat)
  | .nils=>some ([],none)
  | .ful id => match ac h id with
    | some (.rows u' xs)=>if e:u'=u then some (e ▸ xs,some id) else none
    | _=>none
  | _=>none
def iI (X : Ctx U El) (d : Nat) (ty : TypeId) (s x : AV U El) (st : St U El) (k : St U El → Option (Fin U El)) : Option (Fin U El) :=
  match aM X.tds ty with
  | some (.slice u) => match eG st.h u s, d8 st.h u x with
    | some (xs, id), some ys =>
      chk (nle ((xs.length+ys.length) * X.E.by_ u) 140737488355328&&nle (xs.length+ys.length) 9223372036854775807)
        (let aA:=(match id with | some id=>st.forget id | none=>st).forget d
         k ⟨(d,.ful d) :: aA.t,(d,.rows u (xs++ys)) :: aA.h⟩)
    | _,_=>none
  | _=>none
def hset:au U El→Nat→Blk U El→au U El
  | [],_,_=>[]
  | (j,b) :: h,id,c=>bif Nat.beq j id then (j,c) :: h else (j,b) :: hset h id c
def b9 (X : Ctx U El) (ty : TypeId) (p v : AV U El) (st : St U El) (k : St U El → Option (Fin U El)) : Option (Fin U El) :=
  match aM X.tds ty with
  | some td => match gW td, cellsOf v with
    | some (sz, _), some ns => chk (Nat.beq ns.length sz && Nat.blt 0 sz && ns.all AV.one) (match p with
      | .ptr id off => match ac st.h id with
        | some (.box tg cs)=>chk (Nat.ble (off+sz) cs.length) (k ⟨st.t,hset st.h id (.box tg (cs.take off++ns++cs.drop (off+sz)))⟩)
        | _=>none
      | .row id i off => match ac st.h id with
        | some (.rows u xs) => chk (nlt i xs.length && Nat.ble (off + sz) (X.E.sz u)) (match X.E.dec u ((X.E.enc u (xs.getD i (X.E.dflt u))).take off ++ ns ++ (X.E.enc u (xs.getD i (X.E.dflt u))).drop (off + sz)) with
          | some y=>k ⟨st.t,hset st.h id (.rows u (xs.set i y))⟩
          | none=>none)
        | _=>none
      | _=>none)
    | _,_=>none
  | none=>none
def kD (X : Ctx U El) (ty : TypeId) (s : AV U El) (st : St U El) (k : St U El → Option (Fin U El)) : Option (Fin U El) :=
  match aM X.tds ty,s with
  | some (.slice u), .own id lo len => match ac st.h id with
    | some (.rows v xs)=>chk (decide (v=u)&&(nlt 0 len&&nle (lo+len) xs.length)) (k ⟨st.t,hset st.h id (.rows v (List.take lo xs++(List.replicate len (X.E.dflt v)++List.drop (lo+len) xs)))⟩)
    | _=>none
  | _,_=>none
def mD (X : Ctx U El) (dst : Option Nat) (ty : TypeId) (s x : AV U El) (st : St U El) (k : St U El → Option (Fin U El)) : Option (Fin U El) :=
  match aM X.tds ty,s with
  | some (.slice u), .own id lo len => match ac st.h id with
    | some (.rows v xs) => match d8 st.h v x with
      | some ys=>chk (decide (v=u)&&nle (lo+len) xs.length) (k ((⟨st.t,hset st.h id (.rows v (List.take lo xs++(List.take (Nat.min ys.length len) ys++List.drop (lo+Nat.min ys.length len) xs)))⟩:St U El).put dst ⟨.int .i64 (Int.ofNat (Nat.min ys.length len)),[]⟩))
      | none=>none
    | _=>none
  | _,_=>none
def dh (X : Ctx U El) (ty : TypeId) (m ix x : AV U El) (st : St U El) (k : St U El → Option (Fin U El)) : Option (Fin U El) :=
  match aM X.tds ty,m with
  | some (.map u v), .mp id => match ac st.h id with
    | some (.map u' v' es) => chk (decide (u' = u) && (decide (v' = v) && (X.E.kok u' && X.E.vok v'))) (match ij X.E u' ix, ij X.E v' x with
      | some y,some z=>k ⟨st.t,hset st.h id (.map u' v' (ig (X.E.keq u') es y z))⟩
      | _,_=>none)
    | _=>none
  | _,_=>none
def iJ (X:Ctx U El) (o:Oper) (st:St U El) (k:St U El→Option (Fin U El)):Option (Fin U El) :=
  let d:=o.dst.getD 999
  let bA:=st.forgets (aK o d)
  chk (match o.dst with | some d=>Nat.blt d X.nt | none=>true) (aN X o bA.t bA.h d fun out=>k (bA.put o.dst out))
def kE (h : au U El) : AV U El → Option Nat
  | .lst _ xs=>some xs.length
  | .ful id => match ac h id with
    | some (.rows _ xs)=>some xs.length
    | _=>none
  | _=>none
noncomputable def fX (n:Nat) (eq:Bool) (k:Bool→Option (Fin U El)):Option (Fin U El):=af (nlt 0 n) (k (!eq)) (amb (k true) (k false))
noncomputable def d9 (X:Ctx U El) (o:Oper) (st:St U El) (k:St U El→Option (Fin U El)):Option (Fin U El) :=
  match o.op with
  | .store ty p v => match o.dst with
    | none=>b9 X ty (oget st.t p) (oget st.t v) st k
    | some _=>none
  | .binOp op ty x y _ => match op, oget st.t y, kE st.h (oget st.t x), o.dst with
    | .eql,.nils,some n,some d=>chk (eF X ty y (.nils:AV U El)&&Nat.blt d X.nt) (fX n true fun b=>k ⟨(d,.bool b) :: st.t,st.h⟩)
    | .neq,.nils,some n,some d=>chk (eF X ty y (.nils:AV U El)&&Nat.blt d X.nt) (fX n false fun b=>k ⟨(d,.bool b) :: st.t,st.h⟩)
    | _,_,_,_=>iJ X o st k
  | .mapUpdate ty m i v => match o.dst with
    | none=>dh X ty (oget st.t m) (oget st.t i) (oget st.t v) st k
    | some _=>none
  | .insert ty m i v => match o.dst with
    | none=>dh X ty (oget st.t m) (oget st.t i) (oget st.t v) st k
    | some _=>none
  | .call ⟨.builtin .append, as, ts⟩ => match as.toList, ts.toList, o.dst with
    | [s,x],[ty,ty'],some d=>chk (Nat.beq ty ty'&&Nat.blt d X.nt) (iI X d ty (oget st.t s) (oget st.t x) st k)
    | _,_,_=>none
  | .call ⟨.builtin .clear, as, ts⟩ => match as.toList, ts.toList, o.dst with
    | [s],[ty],none=>kD X ty (oget st.t s) st k
    | _,_,_=>none
  | .call ⟨.builtin .copy, as, ts⟩ => match as.toList, ts.toList with
    | [s,x],[ty,ty']=>chk (match o.dst with | some d=>Nat.blt d X.nt | none=>true) (mD X o.dst ty (oget st.t s) (oget st.t x) st k)
    | _,_=>none
  | .call ⟨.value f, as, _⟩ => match oget st.t f with
    | .fn g first caps => match X.mspec g with
      | some sp=>chk (match o.dst with | some d=>Nat.blt d X.nt | none=>true) (sp (o.dst.getD 999) (first++as.toList.map (oget st.t)++caps) st fun v st'=>k ⟨match o.dst with | some d=>(d,v) :: st'.t | none=>st'.t,st'.h⟩)
      | none=>iJ X o st k
    | _=>none
  | _=>iJ X o st k
def iK (t:aQ U El) (g:Nat) (k:aQ U El→Bool→Option (Fin U El)):Option (Fin U El) :=
  match aF t g with
  | .bool b=>af b (k ((g,.bool true) :: t) true) (k ((g,.bool false) :: t) false)
  | _=>none
def fd (t:aQ U El) (g:Nat) (want:Bool) (k:aQ U El→Bool→Option (Fin U El)):Option (Fin U El) :=
  match aF t g with
  | .bool b=>af b (k ((g,.bool true) :: t) true) (k ((g,.bool false) :: t) false)
  | .tup []=>k t (!want)
  | _=>none
def dD (dsts:List (Option Nat)) (o:Oper):Option (Option Nat×Bool) :=
  match o.guard with
  | none=>none
  | some (j,want)=>some (match dsts[j]? with | some d=>d | none=>none,want)
def bx (o:Oper) (t:aQ U El) (k:aQ U El→Option (Fin U El)):Option (Fin U El) :=
  match o.op with
  | .pick (.tmp c) _ _=>iK t c fun t' _=>k t'
  | _=>k t
def fY (st : St U El) (s : Nat) (u : U) (k : St U El → Option (Fin U El)) : Option (Fin U El) :=
  match aF st.t s with
  | .lst _ _=>k st
  | .nils=>k ⟨(s,.lst u []) :: st.t,st.h⟩
  | .ful id => match ac st.h id with
    | some (.rows v xs)=>let aA:=st.forget id; k ⟨(s,.lst v xs) :: aA.t,aA.h⟩
    | _=>none
  | .own id lo len => match ac st.h id with
    | some (.rows v xs)=>chk (nle (lo+len) xs.length) (k ⟨(s,.lst v ((xs.drop lo).take len)) :: (st.forget id).t,(st.forget id).h⟩)
    | _=>none
  | .fmp _ _ _=>k st
  | .nilm=>k st
  | .mp id => match ac st.h id with
    | some (.map u v es)=>k ⟨(s,.fmp u v es) :: (st.forget id).t,(st.forget id).h⟩
    | _=>none
  | _=>none
def fe (st : St U El) (s off : Nat) (u : U) (k : St U El → Option (Fin U El)) : Option (Fin U El) :=
  match aF st.t s with
  | .agg cs => match cs[off]? with
    | some (.lst _ _)=>k st
    | some .nils=>k ⟨(s,.agg (cs.set off (.lst u []))) :: st.t,st.h⟩
    | some (.ful id) => match ac st.h id with
      | some (.rows v xs)=>k ⟨(s,.agg ((cs.map (AV.kill id)).set off (.lst v xs))) :: (st.forget id).t,(st.forget id).h⟩
      | _=>k st
    | _=>k st
  | _=>k st
def cC (st : St U El) (s : Nat) : List Nat → (St U El → Option (Fin U El)) → Option (Fin U El)
  | [],k=>k st
  | off :: l, k => match aF st.t s with
    | .agg cs => match cs[off]? with
      | some (.ful id) => match ac st.h id with
        | some (.rows v _)=>fe st s off v fun st'=>cC st' s l k
        | _=>cC st s l k
      | _=>cC st s l k
    | _=>cC st s l k
def cD (st : St U El) (s : Nat) (k : St U El → Option (Fin U El)) : Option (Fin U El) :=
  match aF st.t s with
  | .ful id => match ac st.h id with
    | some (.rows v _)=>fY st s v k
    | _=>k st
  | .agg cs=>cC st s (List.range cs.length) k
  | _=>k st
def ec (st:St U El):List (Nat×Operand)→(St U El→Option (Fin U El))→Option (Fin U El)
  | [],k=>k st
  | (_,.tmp s) :: l,k=>cD st s fun st'=>ec st' l k
  | _ :: l,k=>ec st l k
def cN (o : Oper) (st : St U El) (k : St U El → Option (Fin U El)) : Option (Fin U El) :=
  match o.op with
  | .store _ p (.tmp s) => match oget st.t p with
    | .row _ _ _=>cD st s k
    | _=>k st
  | .buildSlice _ _ ps=>ec st ps.toList k
  | .mapUpdate _ _ _ (.tmp s)=>cD st s k
  | .insert _ _ _ (.tmp s)=>cD st s k
  | _=>k st
noncomputable def cE (X:Ctx U El) (dsts:List (Option Nat)):List Oper→St U El→(St U El→Option (Fin U El))→Option (Fin U El)
  | [],st,k=>k st
  | o :: os, st, k =>
    match dD dsts o with
    | none=>bx o st.t fun t=>cN o ⟨t,st.h⟩ fun aA=>d9 X o aA fun st'=>cE X dsts os st' k
    | some (some g,want)=>fd st.t g want fun t b =>
        bif Bool.xor b want then cE X dsts os ⟨match o.dst with | some d=>(d,.tup []) :: t | none=>t,st.h⟩ k
        else bx o t fun t'=>cN o ⟨t',st.h⟩ fun aA=>d9 X o aA fun st'=>cE X dsts os st' k
    | some (none,_)=>none
def mE (anc:List Nat):List Edge→Nat→Nat
  | [],m=>m
  | e :: es,m=>mE anc es (bif Region.binds .any e then Nat.lor m (Nat.lor (2 ^ e.on) (anc.getD e.on 0)) else m)
def di (anc:List Nat) (o:Oper):Nat:=mE anc o.after.toList 0
def cZ:List Oper→List Nat→List Nat
  | [],acc=>acc
  | o :: os,acc=>cZ os (acc++[di acc o])
def dE (ops:List Oper) (ws:List (Nat×Nat)):List (Nat×Nat) :=
  (ops.zipIdx.flatMap fun (o,j)=>(aK o (o.dst.getD 999)).map fun id=>(j,id))++ws
def iL (anc:List Nat) (evs:List (Nat×Nat)) (i id:Nat):Bool :=
  evs.all fun (j,id') => !(Nat.beq id' id)||Nat.beq j i||(bif Nat.blt j i then Nat.testBit (anc.getD i 0) j else Nat.testBit (anc.getD j 0) i)
def bg (p:Nat→Bool):au U El→au U El
  | []=>[]
  | (j,b) :: h=>bif p j then (j,b) :: bg p h else bg p h
def be (h:au U El):List Nat→au U El
  | []=>h
  | id :: ids=>be (fp h id) ids
def bh (ws:List (Nat×Nat)) (i:Nat):List Nat:=(ws.filter fun p=>Nat.beq p.1 i).map (·.2)
def iM (id:Nat):AV U El→Bool
  | .ptr j _=>Nat.beq j id
  | .row j _ _=>Nat.beq j id
  | .mp j=>Nat.beq j id
  | _=>false
def AV.within (ids:List Nat):AV U El→Bool
  | .agg cs=>withinL cs
  | .tup cs=>withinL cs
  | .pcs cs _=>withinL cs
  | .fn _ a b=>withinL a&&withinL b
  | .ful j=>ids.elem j
  | .own j _ _=>ids.elem j
  | .ptr j _=>ids.elem j
  | .row j _ _=>ids.elem j
  | .mp j=>ids.elem j
  | _=>true
where
  withinL:List (AV U El)→Bool
    | []=>true
    | c :: cs=>AV.within ids c&&withinL cs
def Blk.within (ids:List Nat):Blk U El→Bool
  | .box _ cs=>cs.all (AV.within ids)
  | .amap _ _ cs=>cs.all (AV.within ids)
  | .bld _ j=>ids.elem j
  | _=>true
def oc (l:List Nat) (i:Nat):List Nat:=bif l.elem i then l else l++[i]
def AV.nms:AV U El→List Nat→List Nat
  | .agg cs,l=>nmsL cs l
  | .tup cs,l=>nmsL cs l
  | .pcs cs _,l=>nmsL cs l
  | .fn _ a b,l=>nmsL b (nmsL a l)
  | .ful j,l=>oc l j
  | .own j _ _,l=>oc l j
  | .ptr j _,l=>oc l j
  | .row j _ _,l=>oc l j
  | .mp j,l=>oc l j
  | _,l=>l
where
  nmsL:List (AV U El)→List Nat→List Nat
    | [],l=>l
    | c :: cs,l=>nmsL cs (AV.nms c l)
def Blk.nms:Blk U El→List Nat→List Nat
  | .box _ cs,l=>AV.nms.nmsL cs l
  | .amap _ _ cs,l=>AV.nms.nmsL cs l
  | .bld _ j,l=>oc l j
  | _,l=>l
def eH (h : au U El) : Nat → Nat → List Nat → List Nat
  | 0,_,l=>l
  | n + 1, i, l => match l[i]? with
    | some id => match ac h id with
      | some b=>eH h n (i+1) (b.nms l)
      | none=>eH h n (i+1) l
    | none=>l
def aI:Nat:=1000000000
def cW:List Nat→Nat→Nat→Nat
  | [],_,j=>j
  | i :: ids,n,j=>bif Nat.beq i j then n else cW ids (n+1) j
def cX (h : au U El) (all : List Nat) : List Nat → Nat → Option (au U El)
  | [],_=>some []
  | id :: ids, n => match ac h id with
    | some b => match cX h all ids (n + 1) with
      | some hs=>chk (b.within all) (some ((n,b.ren (cW all aI) n) :: hs))
      | none=>none
    | none=>none
def eI:List (Nat×Nat)→Nat→Option Nat
  | [],_=>none
  | (id,j) :: l,x=>bif Nat.beq id x then some j else eI l x
def il:List (Nat×Nat)→Nat→Nat
  | [],j=>j
  | (id,j) :: l,x=>bif Nat.beq j x then id else il l x
def ff (ids:List Nat) (outs:List (Nat×Nat)) (pins:List Nat):List Nat:=(ids++outs.map (·.1)).filter fun i => !pins.elem i
def dj (h hc : au U El) (pins : List Nat) (all : List (Nat × Nat)) : List (Nat × Nat) → au U El
  | []=>[]
  | (id, j) :: l => match ac hc j with
    | some b=>(id,b.ren (il all) (bif pins.elem id then (match ac h id with | some b0=>b0.tag | none=>0) else 0)) :: dj h hc pins all l
    | none=>dj h hc pins all l
def mOk (hc : au U El) (ids : List Nat) (outs : List (Nat × Nat)) (pins : List Nat) (v : AV U El) : Bool :=
  decide ids.Nodup&&(decide (outs.map (·.1)).Nodup&&(decide (outs.map (·.2)).Nodup&&(v.within (outs.map (·.2))&&(
    (outs.all fun p=>match ac hc p.2 with | some b=>b.within (outs.map (·.2)) | none=>true) &&
    (pins.all fun id=>ids.elem id&&(match eI outs id with | some j=>Nat.beq j (cW ids aI id)&&(match ac hc j with | some (.box t _)=>Nat.beq t j | _=>false) | none=>false))))))
def bq (ids:List Nat):au U El→List Nat
  | []=>[]
  | (j,b) :: h=>bif Nat.ble aI j&&(match b with | .box t _=>Nat.beq t j | _=>false) then ids.getD (j - aI) 0 :: bq ids h else bq ids h
def dF (ids:List Nat) (d:Nat) (pins:List Nat):au U El→Nat→List (Nat×Nat)
  | [],_=>[]
  | (j,_) :: h,n=>bif Nat.ble aI j&&pins.elem (ids.getD (j - aI) 0) then (ids.getD (j - aI) 0,j) :: dF ids d pins h n else (d * 1000+n,j) :: dF ids d pins h (n+1)
def nF (X : Ctx U El) (f : Operand) (as : Array Operand) (d : Nat) (wj : List Nat) (sf : Nat → Bool) (t : aQ U El) (h : au U El) (k : aQ U El → au U El → Option (Fin U El)) : Option (Fin U El) :=
  match oget t f with
  | .fn g first caps => match X.dspec g with
    | some sp =>
      match cX (bg sf h) (eH (bg sf h) 40 0 (AV.nms.nmsL (first++as.toList.map (oget t)++caps) [])) (eH (bg sf h) 40 0 (AV.nms.nmsL (first++as.toList.map (oget t)++caps) [])) aI with
      | some hs=>sp ((first++as.toList.map (oget t)++caps).map (AV.ren (cW (eH (bg sf h) 40 0 (AV.nms.nmsL (first++as.toList.map (oget t)++caps) [])) aI))) hs fun v hc =>
         chk (decide (wj=eH (bg sf h) 40 0 (AV.nms.nmsL (first++as.toList.map (oget t)++caps) []))&&((first++as.toList.map (oget t)++caps).all (AV.within wj)&&(mOk hc wj (dF wj d (bq wj hc) hc 0) (bq wj hc) v&&(dF wj d (bq wj hc) hc 0).all fun p=>(bq wj hc).elem p.1||(bu d).elem p.1)))
           (k ((d,v.ren (il (dF wj d (bq wj hc) hc 0))) :: t) (dj (bg sf h) hc (bq wj hc) (dF wj d (bq wj hc) hc 0) (dF wj d (bq wj hc) hc 0)++be h wj))
      | none=>none
    | none=>none
  | _=>none
def AV.shr (h:au U El) (wj:List Nat):AV U El→AV U El
  | .ful id=>bif wj.elem id then (match ac h id with | some (.rows v xs) => .lst v xs | _ => .ful id) else .ful id
  | a=>a
def AV.shr2 (h:au U El) (wj:List Nat):AV U El→AV U El
  | .agg cs => .agg (cs.map (AV.shr h wj))
  | a=>a.shr h wj
def mF (h:au U El) (wj:List Nat):aQ U El→aQ U El
  | []=>[]
  | (j,v) :: t=>(j,v.shr2 h wj) :: mF h wj t
def kF (h:au U El) (wj:List Nat):Bool:=wj.all fun id=>match ac h id with | some (.rows _ _)=>true | _=>false
def kG (X : Ctx U El) (o : Oper) (sf : Nat → Bool) (wj : List Nat) (t : aQ U El) (h : au U El) (k : aQ U El → au U El → Option (Fin U El)) : Option (Fin U El) :=
  match o.op with
  | .store ty p v => match wj, o.dst with
    | [id], none => chk (iM id (oget t p)) (b9 X ty (oget t p) (oget t v) ⟨[], bg sf h⟩ fun st' => match ac st'.h id with
      | some b=>k t ((id,b) :: fp h id)
      | none=>none)
    | _,_=>none
  | .mapUpdate ty m i v => match wj, o.dst with
    | [id], none => chk (iM id (oget t m)) (dh X ty (oget t m) (oget t i) (oget t v) ⟨[], bg sf h⟩ fun st' => match ac st'.h id with
      | some b=>k t ((id,b) :: fp h id)
      | none=>none)
    | _,_=>none
  | .call ⟨.builtin .append, as, ts⟩ => match as.toList, ts.toList, o.dst with
    | [s, x], [ty, ty'], some d => match aM X.tds ty with
      | some (.slice u) => match eG (bg sf h) u (oget t s), d8 (bg sf h) u (oget t x) with
        | some (xs,sid),some ys=>chk (Nat.beq ty ty'&&decide (wj=sid.toList)&&nle ((xs.length+ys.length) * X.E.by_ u) 140737488355328&&nle (xs.length+ys.length) 9223372036854775807)
            (k ((d,.ful d) :: t) ((d,.rows u (xs++ys)) :: be h wj))
        | _,_=>none
      | _=>none
    | _,_,_=>none
  | _ => match wj, o.dst with
    | [],some d=>aN X o t (bg sf h) d fun out=>chk (out.new.all fun p=>(aK o d).contains p.1) (k ((d,out.v) :: t) (out.new++h))
    | _ :: _, some d => match o.op with
      | .call ⟨.value f,as,_⟩=>nF X f as d wj sf t h k
      | .buildSlice _ _ _=>chk (kF (bg sf h) wj) (aN X o (mF (bg sf h) wj t) (be (bg sf h) wj) d fun out=>chk (out.new.all fun p=>(aK o d).contains p.1) (k ((d,out.v) :: t) (out.new++be h wj)))
      | _=>none
    | _,_=>none
def bw (X : Ctx U El) (dsts : List (Option Nat)) (sf : Nat → Nat → Bool) (ws : List (Nat × Nat)) : List Oper → Nat → aQ U El → au U El → (St U El → Option (Fin U El)) → Option (Fin U El)
  | [],_,t,h,k=>k ⟨t,h⟩
  | o :: os, j, t, h, k =>
    let go:=fun (t':aQ U El)=>kG X o (sf j) (bh ws j) t' h fun t2 h2=>bw X dsts sf ws os (j+1) t2 h2 k
    match dD dsts o with
    | none=>bx o t go
    | some (some g,want)=>fd t g want fun t1 b =>
        bif Bool.xor b want then (match o.dst,bh ws j with | some d,[]=>bw X dsts sf ws os (j+1) ((d,.tup []) :: t1) h k | some d,id :: wj=>bw X dsts sf ws os (j+1) ((d,.tup []) :: t1) (bg (fun i=>sf j i&&(id :: wj).elem i) h++be h (id :: wj)) k | none,_=>none)
        else bx o t1 go
    | some (none,_)=>none
def Oper.looks (dsts:List (Option Nat)) (o:Oper):List Nat :=
  (o.op.operands.toList.filterMap fun | .tmp t=>some t | _=>none) ++
  (match o.guard with
   | some (g,_)=>(match dsts[g]? with | some (some d)=>[d] | _=>[])
   | none=>[])
def dL (nt : Nat) (ops : List Oper) (ws : List (Nat × Nat)) : Bool :=
  let dsts:=ops.map (·.dst)
  let anc:=cZ ops []
  let evs:=dE ops ws
  (ops.zipIdx.all fun (o,j)=>o.after.toList.all fun e => !(Region.binds .any e)||Nat.blt e.on j) &&
  (ops.zipIdx.all fun (o,j)=>match o.dst with | some d=>Nat.blt d nt&&(Nat.blt 0 d||(aK o d).isEmpty)&&Nat.blt d 1000 | none=>(match o.op with | .store _ _ _=>true | .mapUpdate _ _ _ _=>true | _=>false)) &&
  (ops.zipIdx.all fun (o,j)=>ops.zipIdx.all fun (p,k)=>(Nat.beq j k)||(match p.dst with
    | none=>true
    | some d=>(match o.dst with | some e => !(Nat.beq d e) | none=>true) &&
        (!((Oper.looks dsts o).contains d)||(bif Nat.blt k j then Nat.testBit (anc.getD j 0) k else Nat.testBit (anc.getD k 0) j)))) &&
  (ops.all fun o=>match o.op with | .select _ _=>false | _=>true) &&
  (evs.all fun (i,a)=>evs.all fun (j,b) => !(Nat.beq a b) || !(Nat.blt i j)||Nat.testBit (anc.getD j 0) i) &&
  (evs.all fun (i,_)=>Nat.blt i ops.length)
def bN (ops:List Oper):List Nat:=ops.flatMap fun o=>aK o (o.dst.getD 999)
def kH (nt:Nat) (ops:List Oper) (o:Oper):Bool :=
  (match o.guard with | none=>true | some _=>false)&&(match o.dst with | some d=>Nat.blt d nt | none=>true) &&
  (List.range ops.length).all (fun i=>Nat.testBit (di (cZ ops []) o) i)&&(o.after.toList.all fun e => !(Region.binds .any e)||Nat.blt e.on ops.length) &&
  (ops.zipIdx.all fun (p,j)=>match p.guard with | some (g,_)=>Nat.blt g j | none=>true)
structure Norm (U:Type) where
  casts:List (Nat×U)
  keep:List Nat
  ids:List Nat
  shares:List (Nat×U)
  cells:List (Nat×Nat×U×Nat)
  scells:List (Nat×Nat×U)
  bcells:List (Nat×Nat×U)
def AV.mv (id s:Nat):AV U El→AV U El
  | .ful i=>bif Nat.beq i id then .ful s else ((AV.ful i).kill id).kill s
  | .own i lo n=>bif Nat.beq i id then .own s lo n else ((AV.own i lo n).kill id).kill s
  | v=>(v.kill id).kill s
def lh (id s:Nat):aQ U El→aQ U El
  | []=>[]
  | (j,v) :: t=>(j,v.mv id s) :: lh id s t
def kI (st : St U El) (s : Nat) (u : U) (k : St U El → Option (Fin U El)) : Option (Fin U El) :=
  match aF st.t s with
  | .nils=>let aA:=st.forget s; k ⟨(s,.ful s) :: aA.t,(s,.rows u []) :: aA.h⟩
  | .ful id => bif Nat.beq id s then k st else match ac st.h id with
    | some (.rows v xs)=>let aA:=(st.forget id).forget s; k ⟨(s,.ful s) :: lh id s st.t,(s,.rows v xs) :: aA.h⟩
    | _=>none
  | .own id lo len => chk (Nat.beq lo 0 && nlt 0 len) (match ac st.h id with
    | some (.rows v xs)=>let aA:=(st.forget id).forget s; k ⟨(s,.ful s) :: aA.t,(s,.rows v (List.take len xs)) :: aA.h⟩
    | _=>none)
  | _=>none
def iP (st : St U El) (b off : Nat) (u : U) (j : Nat) (k : St U El → Option (Fin U El)) : Option (Fin U El) :=
  match ac st.h b with
  | some (.box _ cs) => match cs[off]? with
    | some (.ful id)=>bif Nat.beq id j then k st else k ((st.forget j).rename id j)
    | some (.mp id)=>bif Nat.beq id j then k st else k ((st.forget j).rename id j)
    | some .nils => match ac (st.forget j).h b with
      | some (.box tg cs') => match cs'[off]? with
        | some .nils=>k ⟨(st.forget j).t,(j,.rows u []) :: hset (st.forget j).h b (.box tg (cs'.set off (.ful j)))⟩
        | _=>k st
      | _=>k st
    | _=>k st
  | _=>k st
def gz (st:St U El):List (Nat×Nat×U×Nat)→(St U El→Option (Fin U El))→Option (Fin U El)
  | [],k=>k st
  | (b,off,u,j) :: l,k=>iP st b off u j fun st'=>gz st' l k
def fH (st:St U El):List (Nat×Nat×U)→(St U El→Option (Fin U El))→Option (Fin U El)
  | [],k=>k st
  | (s,off,u) :: l,k=>fe st s off u fun st'=>fH st' l k
def iQ (st : St U El) (b off : Nat) (u : U) (k : St U El → Option (Fin U El)) : Option (Fin U El) :=
  match ac st.h b with
  | some (.box tg cs) => match cs[off]? with
    | some .nils=>k ⟨st.t,hset st.h b (.box tg (cs.set off (.lst u [])))⟩
    | some (.ful id) => match ac st.h id with
      | some (.rows v xs) => match ac (st.forget id).h b with
        | some (.box tg' cs')=>k ⟨(st.forget id).t,hset (st.forget id).h b (.box tg' (cs'.set off (.lst v xs)))⟩
        | _=>k st
      | _=>k st
    | _=>k st
  | _=>k st
def fI (st:St U El):List (Nat×Nat×U)→(St U El→Option (Fin U El))→Option (Fin U El)
  | [],k=>k st
  | (b,off,u) :: l,k=>iQ st b off u fun st'=>fI st' l k
def iR (st:St U El):List (Nat×U)→(St U El→Option (Fin U El))→Option (Fin U El)
  | [],k=>k st
  | (s,u) :: cs,k=>fY st s u fun st'=>iR st' cs k
def kJ (st:St U El):List (Nat×U)→(St U El→Option (Fin U El))→Option (Fin U El)
  | [],k=>k st
  | (s,u) :: cs,k=>kI st s u fun st'=>kJ st' cs k
def fZ (t:aQ U El):List Nat→aQ U El
  | []=>[]
  | s :: l=>(s,aF t s) :: fZ t l
def ga (h : au U El) : List Nat → au U El
  | []=>[]
  | s :: l => match ac h s with
    | some b=>(s,b) :: ga h l
    | none=>ga h l
def aL (nm:Norm U) (st:St U El) (k:St U El→Option (Fin U El)):Option (Fin U El) :=
  kJ st nm.casts fun bA=>gz bA nm.cells fun aA=>fI aA nm.bcells fun st3=>fH st3 nm.scells fun st2=>iR st2 nm.shares fun st'=>k ⟨fZ st'.t nm.keep,ga st'.h nm.ids⟩
inductive Ann (U:Type):Type where
  | d
  | seq (j:Option (Norm U)) (a b:Ann U)
  | cond (a b:Ann U)
  | block (a:Ann U)
  | loop (j:Norm U) (a:Ann U)
  | region (ws:List (Nat×Nat))
  | regionL (ws:List (Nat×Nat))
def Ann.fst:Ann U→Ann U | .seq _ a _=>a | .cond a _=>a | .block a=>a | .loop _ a=>a | _ => .d
def Ann.ws:Ann U→List (Nat×Nat) | .region ws=>ws | .regionL ws=>ws | _=>[]
def Ann.isL:Ann U→Bool | .regionL _=>true | _=>false
def Ann.snd:Ann U→Ann U | .seq _ _ b=>b | .cond _ b=>b | _ => .d
def Ann.cut:Ann U→Option (Norm U) | .seq j _ _=>j | .loop j _=>some j | _=>none
abbrev ah (U:Type) (El:U→Type):=St U El→Option (Fin U El)
def bD (nm:Norm U) (body:St U El→ah U El→Option (Fin U El)):Nat→ah U El
  | 0,_=>none
  | n+1,st=>body st fun st'=>aL nm st' (bD nm body n)
def ap (nm:Norm U) (K:ah U El):ah U El:=fun st=>aL nm st K
def aC (id:Nat) (K:ah U El) (E:Nat→ah U El):Nat→ah U El:=fun i st=>bif Nat.beq i id then K st else E i st
omit [DecidableEq U] in
theorem pp:∃ f:ah U El→ah U El,∀ k,f k=k:=⟨id,fun _=>rfl⟩
noncomputable def hid:ah U El→ah U El:=Classical.choose pp
omit [DecidableEq U] in
theorem am (k:ah U El):hid k=k:=Classical.choose_spec pp k
noncomputable def ak (X:Ctx U El):Code→Ann U→St U El→ah U El→(Nat→ah U El)→ah U El→Option (Fin U El)
  | .skip,_,st,K,_,_=>K st
  | .region _ ops dr, n, st, K, _, _ =>
    bif dr then
      bif n.isL then
        (match ops.toList.getLast? with
         | some o=>bif dL X.nt ops.toList.dropLast n.ws&&kH X.nt ops.toList.dropLast o then
            (let os:=ops.toList.dropLast
             let bA:=st.forgets (bN os)
             bw X (os.map (·.dst)) (iL (cZ os []) (dE os n.ws)) n.ws os 0 bA.t bA.h fun st'=>cE X [] [o] st' K)
            else none
         | none=>none)
      else bif dL X.nt ops.toList n.ws then
        (let bA:=st.forgets (bN ops.toList)
         bw X (ops.toList.map (·.dst)) (iL (cZ ops.toList []) (dE ops.toList n.ws)) n.ws ops.toList 0 bA.t bA.h K)
      else none
    else chk (ops.toList.all fun o=>match o.dst with | some d=>Nat.blt d X.nt | none=>true) (cE X (ops.toList.map (·.dst)) ops.toList st K)
  | .seq a b,n,st,K,E,R=>ak X a n.fst st (match n.cut with
      | none=>fun st'=>ak X b n.snd st' K E R
      | some nm=>ap nm (hid fun st'=>ak X b n.snd st' K E R)) E R
  | .cond c a b, n, st, K, E, R => match c with
    | .tmp g=>iK st.t g fun t bv=>bif bv then ak X a n.fst ⟨t,st.h⟩ K E R else ak X b n.snd ⟨t,st.h⟩ K E R
    | _=>none
  | .block id b,n,st,K,E,R=>ak X b n.fst st K (aC id K E) R
  | .loop b, n, st, _, E, R => match n.cut with
    | some nm=>aL nm st (hid (bD nm (fun st' K'=>ak X b n.fst st' K' E R) X.fuel))
    | none=>none
  | .exit id,_,st,_,E,_=>E id st
  | .ret,_,st,_,_,R=>R st
  | _,_,_,_,_,_=>none
def cF:List Nat→Nat→List (Nat×Nat)
  | [],_=>[]
  | id :: l,n=>(id,n) :: cF l (n+1)
def pq (m : List (Nat × Nat)) : AV U El → Option (AV U El)
  | .ful id => match m.find? (fun p => Nat.beq p.1 id) with
    | some p=>some (.ful p.2)
    | none=>none
  | .agg cs=>bif cs.all AV.cell then some (.agg cs) else none
  | a=>bif a.cell then some a else none
def od (m : List (Nat × Nat)) : List (AV U El) → Option (List (AV U El))
  | []=>some []
  | c :: cs => match pq m c with
    | some d => match od m cs with
      | some ds=>some (d :: ds)
      | none=>none
    | none=>none
def oe (h : au U El) : List (Nat × Nat) → Option (au U El)
  | []=>some []
  | (id, n) :: l => match ac h id with
    | some (.rows u xs) => match oe h l with
      | some r=>some ((n,.rows u xs) :: r)
      | none=>none
    | _=>none
def aG (res ex:List Nat) (st:St U El):Option (Fin U El) :=
  match od (cF ex 0) (res.map (aF st.t)),oe st.h (cF ex 0) with
  | some [v],some h=>some (v,h)
  | some vs,some h=>some (.tup vs,h)
  | _,_=>none
def cj:List (AV U El)→Nat→aQ U El
  | [],_=>[]
  | a :: l,n=>(n,a) :: cj l (n+1)
def bR (X : Ctx U El) (n0 : Nat) : List (Nat × TypeId) → Nat → St U El → (St U El → Option (Fin U El)) → Option (Fin U El)
  | [],_,st,k=>k st
  | (a, ty) :: l, p, st, k => match aM X.tds ty with
    | some td => match gW td with
      | some (sz,ag)=>chk (Nat.blt a n0) (lg X st.h (aF st.t a) fun cs off=>ci cs off sz ag fun v=>bR X n0 l (p+1) ⟨(p,v) :: st.t,st.h⟩ k)
      | none=>none
    | none=>none
def jP (nt : Nat) (lds : List (Nat × TypeId)) (r : Nat) : ResultVar :=
  if r < nt then .tmp r else match lds[r - nt]? with
    | some p => .cell p.1 p.2
    | none => .tmp r
noncomputable def rv (X:Ctx U El) (body:Code) (n:Ann U) (nm:Norm U) (lds:List (Nat×TypeId)) (res ex:List Nat) (args:List (AV U El)):Option (Fin U El) :=
  ak X body n ⟨cj args 0,[]⟩ (fun st=>bR X X.nt lds X.nt st fun st=>aL nm st (aG res ex)) (fun _ _=>none) (fun st=>bR X X.nt lds X.nt st fun st=>aL nm st (aG res ex))
noncomputable def aS (X:Ctx U El) (body:Code) (n:Ann U) (nm:Norm U) (res ex:List Nat) (args:List (AV U El)):Option (Fin U El) :=
  ak X body n ⟨cj args 0,[]⟩ (fun st=>aL nm st (aG res ex)) (fun _ _=>none) (fun st=>aL nm st (aG res ex))
end
end Go.Proofs.YthdklallcljhlaaGreatDoor
