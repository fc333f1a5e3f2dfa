/- Abstract values and the abstract run of a function's code: a plain Lean function that mirrors the model on values whose slices are lists. -/
import Derived.Calls
import Derived.LoopN
import Derived.Laws.Sem
import Derived.Below
namespace Go.Proofs.Ytkeplmpcijigaaa
set_option linter.unusedSectionVars false
set_option linter.unusedSimpArgs false
set_option linter.unusedVariables false
inductive AV (U:Type) (El:U→Type):Type where
  | any
  | bool (b:Bool)
  | int (k:IntKind) (n:Int)
  | str (s:List UInt8)
  | nilp | nils | nili | nilf | nilm
  | agg (cs:List (AV U El))
  | tup (cs:List (AV U El))
  | lst (u:U) (xs:List (El u))
  | ful (id:Nat)
  | own (id lo len:Nat)
  | ptr (id off:Nat)
  | row (id i off:Nat)
  | pel (u:U) (xs:List (El u)) (i off:Nat)
  | pcs (cs:List (AV U El)) (off:Nat)
  | fn (f:FuncId) (first caps:List (AV U El))
  | err
  | mp (id:Nat)
  | fmp (u v:U) (es:List (El u×El v))
inductive Blk (U:Type) (El:U→Type):Type where
  | rows (u:U) (xs:List (El u))
  | box (t:Nat) (cs:List (AV U El))
  | bld (T:TypeId) (j:Nat)
  | map (u v:U) (es:List (El u×El v))
  | amap (u:U) (ks:List (El u)) (cs:List (AV U El))
inductive TD (U:Type):Type where
  | one
  | bool
  | ptr
  | iface
  | int (k:IntKind)
  | str
  | slice (u:U)
  | struct (fs:List (Nat×Nat×Bool)) (sz:Nat)
  | arr (n es:Nat) (ea:Bool) (sz:Nat)
  | bld (u:U)
  | map (u v:U)
  | amap (u:U)
structure Univ (U:Type) (El:U→Type) where
  enc:(u:U)→El u→List (AV U El)
  dec:(u:U)→List (AV U El)→Option (El u)
  dflt:(u:U)→El u
  sz:U→Nat
  by_:U→Nat
  tid:U→TypeId
  agg:U→Bool
  fl:U→Bool
  G:World→Prop
  keq:(u:U)→El u→El u→Bool
  kok:U→Bool
  vok:U→Bool
  arrU:TypeId→Option U:=fun _=>none
  boxS:TypeId→Nat:=fun _=>0
def midx {K:Type} (eq:K→K→Bool):List K→K→Option Nat
  | [],_=>none
  | a :: l,x=>bif eq x a then some 0 else (midx eq l x).map (· + 1)
def mfind {K V:Type} (eq:K→K→Bool):List (K×V)→K→Option V
  | [],_=>none
  | p :: l,x=>bif eq x p.1 then some p.2 else mfind eq l x
def mput {K V:Type} (eq:K→K→Bool):List (K×V)→K→V→List (K×V)
  | [],x,v=>[(x,v)]
  | p :: l,x,v=>bif eq x p.1 then (x,v) :: l else p :: mput eq l x v
def mgetD {K V:Type} (eq:K→K→Bool) (l:List (K×V)) (x:K) (d:V):V:=(mfind eq l x).getD d
def mhas {K V:Type} (eq:K→K→Bool) (l:List (K×V)) (x:K):Bool:=(mfind eq l x).isSome
section
variable {U:Type} {El:U→Type}
def elAV (E:Univ U El) (u:U) (x:El u):AV U El:=bif E.agg u then .agg (E.enc u x) else (E.enc u x).headD .any
def decV (E:Univ U El) (u:U) (a:AV U El):Option (El u) :=
  match a with
  | .agg cs=>bif E.agg u then E.dec u cs else none
  | .any=>none
  | .tup _=>none
  | a=>bif E.agg u then none else E.dec u [a]
def AV.ment (id:Nat):AV U El→Bool
  | .agg cs=>mentL cs
  | .tup cs=>mentL cs
  | .pcs cs _=>mentL cs
  | .fn _ a b=>mentL a||mentL b
  | .ful j=>j == id
  | .own j _ _=>j == id
  | .ptr j _=>j == id
  | .row j _ _=>j == id
  | .mp j=>j == id
  | _=>false
where
  mentL:List (AV U El)→Bool
    | []=>false
    | c :: cs=>AV.ment id c||mentL cs
def AV.flat:AV U El→Bool
  | .agg cs=>flatL cs
  | .tup cs=>flatL cs
  | .bool _ | .int _ _ | .str _ | .nilp | .nils | .nili | .nilf | .nilm | .err=>true
  | .ful _ | .own _ _ _=>true
  | _=>false
where
  flatL:List (AV U El)→Bool
    | []=>true
    | c :: cs=>AV.flat c&&flatL cs
def AV.cell:AV U El→Bool
  | .bool _ | .int _ _ | .str _ | .nilp | .nils | .nili | .nilf | .nilm | .err | .lst _ _ | .fmp _ _ _ | .pel _ _ _ _=>true
  | _=>false
def AV.one:AV U El→Bool
  | .any | .agg _ | .tup _=>false
  | _=>true
def AV.kill (id:Nat) (a:AV U El):AV U El:=bif a.ment id then .any else a
abbrev Heap (U:Type) (El:U→Type):=List (Nat×Blk U El)
def hget:Heap U El→Nat→Option (Blk U El)
  | [],_=>none
  | (j,b) :: h,id=>bif Nat.beq j id then some b else hget h id
def hdel:Heap U El→Nat→Heap U El
  | [],_=>[]
  | (j,b) :: h,id=>bif Nat.beq j id then hdel h id else (j,b) :: hdel h id
def Blk.kill (id:Nat):Blk U El→Blk U El
  | .rows u xs => .rows u xs
  | .box t cs => .box t (cs.map (AV.kill id))
  | .bld T j=>bif Nat.beq j id then .box 0 [.any,.any] else .bld T j
  | .map u v es => .map u v es
  | .amap u ks cs => .amap u ks (cs.map (AV.kill id))
def hkill (id:Nat):Heap U El→Heap U El
  | []=>[]
  | (j,b) :: h=>(j,b.kill id) :: hkill id h
abbrev Tmps (U:Type) (El:U→Type):=List (Nat×AV U El)
def tget:Tmps U El→Nat→AV U El
  | [],_ => .any
  | (j,v) :: t,i=>bif Nat.beq j i then v else tget t i
def tkill (id:Nat):Tmps U El→Tmps U El
  | []=>[]
  | (j,v) :: t=>(j,v.kill id) :: tkill id t
def AV.ren (σ:Nat→Nat):AV U El→AV U El
  | .agg cs => .agg (renL cs)
  | .tup cs => .tup (renL cs)
  | .pcs cs o => .pcs (renL cs) o
  | .fn f a b => .fn f (renL a) (renL b)
  | .ful j => .ful (σ j)
  | .own j lo len => .own (σ j) lo len
  | .ptr j o => .ptr (σ j) o
  | .row j i o => .row (σ j) i o
  | .mp j => .mp (σ j)
  | .any => .any
  | .bool b => .bool b
  | .int k n => .int k n
  | .str s => .str s
  | .nilp => .nilp
  | .nils => .nils
  | .nili => .nili
  | .nilf => .nilf
  | .nilm => .nilm
  | .lst u xs => .lst u xs
  | .pel u xs i o => .pel u xs i o
  | .err => .err
  | .fmp u v es => .fmp u v es
where
  renL:List (AV U El)→List (AV U El)
    | []=>[]
    | c :: cs=>AV.ren σ c :: renL cs
def Blk.ren (σ:Nat→Nat) (tg:Nat):Blk U El→Blk U El
  | .rows u xs => .rows u xs
  | .box _ cs => .box tg (cs.map (AV.ren σ))
  | .bld T j => .bld T (σ j)
  | .map u v es => .map u v es
  | .amap u ks cs => .amap u ks (cs.map (AV.ren σ))
def Blk.tag:Blk U El→Nat
  | .box t _=>t
  | _=>0
structure St (U:Type) (El:U→Type) where
  t:Tmps U El
  h:Heap U El
def St.forget (st:St U El) (id:Nat):St U El:=⟨tkill id st.t,hkill id (hdel st.h id)⟩
def St.forgets (st:St U El):List Nat→St U El
  | []=>st
  | id :: ids=>(st.forget id).forgets ids
def ren1 (id j:Nat):Nat→Nat:=fun i=>bif Nat.beq i id then j else i
def trename (id j:Nat):Tmps U El→Tmps U El
  | []=>[]
  | (i,v) :: t=>(i,v.ren (ren1 id j)) :: trename id j t
def hrename (id j:Nat):Heap U El→Heap U El
  | []=>[]
  | (i,b) :: h=>(ren1 id j i,b.ren (ren1 id j) b.tag) :: hrename id j h
def St.rename (st:St U El) (id j:Nat):St U El:=⟨trename id j st.t,hrename id j st.h⟩
abbrev Fin (U:Type) (El:U→Type):=AV U El×Heap U El
def condB {R:Type} (b:Bool) (x y:R):R:=bif b then x else y
def chk {R:Type} (b:Bool) (x:Option R):Option R:=bif b then x else none
noncomputable def amb {R:Type} (x y:Option R):Option R:=@ite _ (x=y) (Classical.propDecidable _) x none
theorem amb_same {R:Type} (x:Option R):amb x x=x:=by unfold amb; rw [if_pos rfl]
theorem amb_some {R:Type} {x y:Option R} {r:R} (h:amb x y=some r):x=some r∧y=some r:=by
  unfold amb at h
  split at h
  · rename_i e; exact ⟨h,e ▸ h⟩
  · cases h
def ilt (a b:Int):Bool:=decide (a < b)
def ile (a b:Int):Bool:=decide (a≤b)
def nlt (a b:Nat):Bool:=decide (a < b)
def nle (a b:Nat):Bool:=decide (a≤b)
def slt (a b:List UInt8):Bool:=Op.bytesLess a b
def inb (i:Int) (n:Nat):Bool:=ile 0 i&&ilt i n
abbrev MSp (U:Type) (El:U→Type):=List (AV U El)→Heap U El→(AV U El→Heap U El→Option (Fin U El))→Option (Fin U El)
structure Out (U:Type) (El:U→Type) where
  v:AV U El
  new:Heap U El
structure Ctx (U:Type) (El:U→Type) where
  E:Univ U El
  tds:List (TypeId×TD U)
  zeros:List (TypeId×Value)
  eqs:List (TypeId×List Nat)
  spec:FuncId→List (AV U El)→(AV U El→Heap U El→Option (Fin U El))→Option (Fin U El)
  fuel:Nat
  nt:Nat
  dspec:FuncId→Option (MSp U El)
  mspec:FuncId→Option (Nat→List (AV U El)→St U El→(AV U El→St U El→Option (Fin U El))→Option (Fin U El))
  frag:Nat→Option (St U El→(St U El→Option (Fin U El))→Option (Fin U El))
def tdGet:List (TypeId×TD U)→TypeId→Option (TD U)
  | [],_=>none
  | (j,d) :: l,t=>bif Nat.beq j t then some d else tdGet l t
def zGet:List (TypeId×Value)→TypeId→Option Value
  | [],_=>none
  | (j,d) :: l,t=>bif Nat.beq j t then some d else zGet l t
def constAV:Value→AV U El
  | .bool b => .bool b
  | .int k n => .int k n
  | .string s => .str s.data.toList
  | .pointer none => .nilp
  | .slice none 0 0 => .nils
  | .map none => .nilm
  | .nilFunc => .nilf
  | .nilIface => .nili
  | .agg cs => .agg (constL cs.toList)
  | .tuple cs => .tup (constL cs.toList)
  | _ => .any
where
  constL:List Value→List (AV U El)
    | []=>[]
    | .bool b :: l => .bool b :: constL l
    | .int k n :: l => .int k n :: constL l
    | .string s :: l => .str s.data.toList :: constL l
    | .pointer none :: l => .nilp :: constL l
    | .slice none 0 0 :: l => .nils :: constL l
    | .map none :: l => .nilm :: constL l
    | .nilFunc :: l => .nilf :: constL l
    | .nilIface :: l => .nili :: constL l
    | _ :: l => .any :: constL l
def oget (t:Tmps U El):Operand→AV U El
  | .tmp i=>tget t i
  | .const v=>constAV v
  | .global _ => .any
  | .func f => .fn f [] []
variable [DecidableEq U]
def toArg1 (X : Ctx U El) (h : Heap U El) (td : Option (TD U)) : AV U El → Option (AV U El)
  | .ful id => match hget h id with
    | some (.rows u xs)=>some (.lst u xs)
    | _=>none
  | .own id lo len => match hget h id with
    | some (.rows u xs)=>some (.lst u ((xs.drop lo).take len))
    | _=>none
  | .nils => match td with
    | some (.slice u)=>some (.lst u [])
    | _=>some .nils
  | .bool b=>some (.bool b)
  | .int k n=>some (.int k n)
  | .str s=>some (.str s)
  | .nilp=>some .nilp
  | .nili=>some .nili
  | .nilf=>some .nilf
  | .nilm=>some .nilm
  | .err=>some .err
  | .lst u xs=>some (.lst u xs)
  | .pel u xs i o=>some (.pel u xs i o)
  | .fmp u v es=>some (.fmp u v es)
  | .mp id => match hget h id with
    | some (.map u v es)=>some (.fmp u v es)
    | _=>none
  | _=>none
def toArgs1 (X : Ctx U El) (h : Heap U El) : List (AV U El) → Option (List (AV U El))
  | []=>some []
  | c :: cs => match toArg1 X h none c with
    | some d => match toArgs1 X h cs with
      | some ds=>some (d :: ds)
      | none=>none
    | none=>none
def toArg2 (X : Ctx U El) (h : Heap U El) (td : Option (TD U)) : AV U El → Option (AV U El)
  | .agg cs => match toArgs1 X h cs with
    | some ds=>some (.agg ds)
    | none=>none
  | .ptr id off => match hget h id with
    | some (.box _ cs) => match toArgs1 X h cs with
      | some ds=>some (.pcs ds off)
      | none=>none
    | _=>none
  | .pcs cs off=>match toArgs1 X h cs with
      | some ds=>some (.pcs ds off)
      | none=>none
  | a=>toArg1 X h td a
def toArgs2 (X : Ctx U El) (h : Heap U El) : List (AV U El) → Option (List (AV U El))
  | []=>some []
  | c :: cs => match toArg2 X h none c with
    | some d => match toArgs2 X h cs with
      | some ds=>some (d :: ds)
      | none=>none
    | none=>none
def toArg3 (X : Ctx U El) (h : Heap U El) (td : Option (TD U)) : AV U El → Option (AV U El)
  | .ptr id off => match hget h id with
    | some (.box _ cs) => match toArgs2 X h cs with
      | some ds=>some (.pcs ds off)
      | none=>none
    | _=>none
  | .pcs cs off=>match toArgs2 X h cs with
      | some ds=>some (.pcs ds off)
      | none=>none
  | a=>toArg2 X h td a
def toArgs3 (X : Ctx U El) (h : Heap U El) : List (AV U El) → Option (List (AV U El))
  | []=>some []
  | c :: cs => match toArg3 X h none c with
    | some d => match toArgs3 X h cs with
      | some ds=>some (d :: ds)
      | none=>none
    | none=>none
def toArg (X : Ctx U El) (h : Heap U El) (td : Option (TD U)) : AV U El → Option (AV U El)
  | .fn f a b => match toArgs3 X h a with
    | some a' => match toArgs3 X h b with
      | some b'=>some (.fn f a' b')
      | none=>none
    | none=>none
  | a=>toArg3 X h td a
def toArgs (X : Ctx U El) (h : Heap U El) : List (AV U El) → List TypeId → Option (List (AV U El))
  | [],_=>some []
  | c :: cs, ts => match toArg X h (match ts with | t :: _ => tdGet X.tds t | [] => none) c with
    | some d => match toArgs X h cs (ts.drop 1) with
      | some ds=>some (d :: ds)
      | none=>none
    | none=>none
def view (X : Ctx U El) (h : Heap U El) (p : AV U El) (k : List (AV U El) → Nat → Option (Fin U El)) : Option (Fin U El) :=
  match p with
  | .ptr id off => match hget h id with
    | some (.box _ cs)=>k cs off
    | _=>none
  | .row id i off => match hget h id with
    | some (.rows u xs)=>chk (nlt i xs.length) (k (X.E.enc u (xs.getD i (X.E.dflt u))) off)
    | _=>none
  | .pel u xs i off=>k (X.E.enc u (xs.getD i (X.E.dflt u))) off
  | .pcs cs off=>k cs off
  | _=>none
def partOf (cs : List (AV U El)) (off sz : Nat) (ag : Bool) (k : AV U El → Option (Fin U El)) : Option (Fin U El) :=
  bif ag then chk (Nat.ble (off+sz) cs.length) (k (.agg ((cs.drop off).take sz)))
  else match cs[off]? with
    | some c=>k c
    | none=>none
def tdAgg:TD U→Option (Nat×Bool)
  | .one=>some (1,false)
  | .bool=>some (1,false)
  | .ptr=>some (1,false)
  | .iface=>some (1,false)
  | .int _=>some (1,false)
  | .str=>some (1,false)
  | .slice _=>some (1,false)
  | .struct _ sz=>some (sz,true)
  | .arr _ _ _ sz=>some (sz,true)
  | .bld _=>none
  | .map _ _=>some (1,false)
  | .amap _=>some (1,false)
def eGet:List (TypeId×List Nat)→TypeId→List Nat
  | [],_=>[]
  | (j,d) :: l,t=>bif Nat.beq j t then d else eGet l t
def cellsEq:List Nat→List (AV U El)→List (AV U El)→Option Bool
  | [],[],[]=>some true
  | 0 :: ts,.int k a :: x,.int k' b :: y=>bif decide (k=k') then match cellsEq ts x y with | some r=>some ((a == b)&&r) | none=>none else none
  | 1 :: ts,.bool a :: x,.bool b :: y=>match cellsEq ts x y with | some r=>some ((a == b)&&r) | none=>none
  | 2 :: ts,.str a :: x,.str b :: y=>match cellsEq ts x y with | some r=>some ((a == b)&&r) | none=>none
  | _,_,_=>none
def absCmp (op:BinOp) (a b:Int):Option Bool :=
  match op with
  | .eql=>some (a == b)
  | .neq=>some (a != b)
  | .lss=>some (ilt a b)
  | .leq=>some (ile a b)
  | .gtr=>some (ilt b a)
  | .geq=>some (ile b a)
  | _=>none
def absBin (op : BinOp) (ts : List Nat) (a b : AV U El) (k : AV U El → Option (Fin U El)) : Option (Fin U El) :=
  match a,b with
  | .int ka x, .int kb y =>
    match op with
    | .shl=>chk (ile 0 y) (k (.int ka (ka.wrap (x * 2 ^ min y.toNat ka.bits))))
    | .shr=>chk (ile 0 y) (k (.int ka (x.fdiv (2 ^ min y.toNat ka.bits))))
    | .add=>chk (decide (ka=kb)) (k (.int ka (ka.wrap (x+y))))
    | .sub=>chk (decide (ka=kb)) (k (.int ka (ka.wrap (x - y))))
    | .mul=>chk (decide (ka=kb)) (k (.int ka (ka.wrap (x * y))))
    | .quo=>chk (decide (ka=kb)) (chk (y != 0) (k (.int ka (ka.wrap (x.tdiv y)))))
    | .rem=>chk (decide (ka=kb)) (chk (y != 0) (k (.int ka (x.tmod y))))
    | .and=>chk (decide (ka=kb)) (k (.int ka (ka.wrap (BitVec.ofInt ka.bits x &&& BitVec.ofInt ka.bits y).toNat)))
    | .or=>chk (decide (ka=kb)) (k (.int ka (ka.wrap (BitVec.ofInt ka.bits x ||| BitVec.ofInt ka.bits y).toNat)))
    | .xor=>chk (decide (ka=kb)) (k (.int ka (ka.wrap (BitVec.ofInt ka.bits x ^^^ BitVec.ofInt ka.bits y).toNat)))
    | _ => chk (decide (ka = kb)) (match absCmp op x y with
      | some r=>k (.bool r)
      | none=>none)
  | .str x, .str y =>
    match op with
    | .add=>chk (nle (x.length+y.length) 9223372036854775807) (k (.str (x++y)))
    | .eql=>k (.bool (x == y))
    | .neq=>k (.bool (!(x == y)))
    | .lss=>k (.bool (slt x y))
    | .leq=>k (.bool (slt x y||(x == y)))
    | .gtr=>k (.bool (!(slt x y||(x == y))))
    | .geq=>k (.bool (!(slt x y)))
    | _=>none
  | .bool x, .bool y =>
    match op with
    | .eql=>k (.bool (x == y))
    | .neq=>k (.bool (!(x == y)))
    | _=>none
  | .agg x, .agg y =>
    match op with
    | .eql => bif ts.isEmpty then none else match cellsEq ts x y with
      | some r=>k (.bool r)
      | none=>none
    | .neq => bif ts.isEmpty then none else match cellsEq ts x y with
      | some r=>k (.bool (!r))
      | none=>none
    | _=>none
  | .nilp,.nilp=>match op with | .eql=>k (.bool true) | .neq=>k (.bool false) | _=>none
  | .ptr _ _,.nilp=>match op with | .eql=>k (.bool false) | .neq=>k (.bool true) | _=>none
  | .row _ _ _,.nilp=>match op with | .eql=>k (.bool false) | .neq=>k (.bool true) | _=>none
  | .pel _ _ _ _,.nilp=>match op with | .eql=>k (.bool false) | .neq=>k (.bool true) | _=>none
  | .nili,.nili=>match op with | .eql=>k (.bool true) | .neq=>k (.bool false) | _=>none
  | .err,.nili=>match op with | .eql=>k (.bool false) | .neq=>k (.bool true) | _=>none
  | .lst _ xs,.nils=>match op with | .eql=>chk (nlt 0 xs.length) (k (.bool false)) | .neq=>chk (nlt 0 xs.length) (k (.bool true)) | _=>none
  | _,_=>none
def lenOf (h : Heap U El) : AV U El → Option Nat
  | .str s=>some s.length
  | .nils=>some 0
  | .lst _ xs=>some xs.length
  | .ful id => match hget h id with
    | some (.rows _ xs)=>some xs.length
    | _=>none
  | .own _ _ len=>some len
  | .mp id => match hget h id with
    | some (.map _ _ es)=>some es.length
    | _=>none
  | _=>none
def cellsOf:AV U El→Option (List (AV U El))
  | .agg cs=>some cs
  | .any=>none
  | .tup _=>none
  | a=>some [a]
def litRows (E : Univ U El) (u : U) (t : Tmps U El) : Nat → List (Nat × Operand) → Option (List (El u))
  | _,[]=>some []
  | n, (i, o) :: ps => bif Nat.beq i n then
      match cellsOf (oget t o) with
      | some cs => match E.dec u cs with
        | some x => match litRows E u t (n + 1) ps with
          | some xs=>some (x :: xs)
          | none=>none
        | none=>none
      | none=>none
    else none
def litBox (t:Tmps U El):Nat→List (Nat×Operand)→Option (List (AV U El))
  | _,[]=>some []
  | n, (i, x) :: ps => bif Nat.beq i n then
      (match cellsOf (oget t x) with
       | some [c] => match litBox t (n + 1) ps with
         | some cs=>some (c :: cs)
         | none=>none
       | _=>none) else none
def litCells (t : Tmps U El) (Z : List (AV U El)) : Nat → Nat → List (Nat × Nat × Bool) → List (Nat × Operand) → Option (List (AV U El))
  | _,_,[],[]=>some []
  | n, acc, (off, sz, _) :: fs, [] => bif Nat.beq off acc && Nat.ble (acc + sz) Z.length then
      match litCells t Z (n+1) (acc+sz) fs [] with
      | some r=>some ((Z.drop acc).take sz++r)
      | none=>none
    else none
  | n, acc, (off, sz, _) :: fs, (i, o) :: ps => bif Nat.beq i n then
      bif Nat.beq off acc then
      match cellsOf (oget t o) with
      | some cs => bif Nat.beq cs.length sz then
          match litCells t Z (n+1) (acc+sz) fs ps with
          | some r=>some (cs++r)
          | none=>none
        else none
      | none=>none
      else none
    else bif Nat.beq off acc&&Nat.ble (acc+sz) Z.length then
      match litCells t Z (n+1) (acc+sz) fs ((i,o) :: ps) with
      | some r=>some ((Z.drop acc).take sz++r)
      | none=>none
    else none
  | _,_,[],_ :: _=>none
def litSet (t : Tmps U El) (fs : List (Nat × Nat × Bool)) : List (AV U El) → List (Nat × Operand) → Option (List (AV U El))
  | cs,[]=>some cs
  | cs, (i, o) :: ps => match fs[i]? with
    | some (off, sz, _) => match cellsOf (oget t o) with
      | some ns=>bif Nat.beq ns.length sz&&Nat.ble (off+sz) cs.length then litSet t fs (cs.take off++(ns++cs.drop (off+sz))) ps else none
      | none=>none
    | none=>none
def litAny (t:Tmps U El) (Z:List (AV U El)) (fs:List (Nat×Nat×Bool)) (ps:List (Nat×Operand)):Option (List (AV U El)) :=
  match litCells t Z 0 0 fs ps with
  | some cs=>some cs
  | none=>litSet t fs Z ps
def zeroCells (zs:List (TypeId×Value)) (ty:TypeId):List (AV U El) :=
  match zGet zs ty with
  | some z=>constAV.constL z.cells.toList
  | none=>[]
def rename0 (d:Nat):AV U El→AV U El
  | .ful id => .ful (d * 1000+id)
  | a=>a
def rename (d:Nat):AV U El→AV U El
  | .ful id => .ful (d * 1000+id)
  | .agg cs => .agg (cs.map (rename0 d))
  | a=>a
def renameR (d:Nat):AV U El→AV U El
  | .tup cs => .tup (cs.map (rename d))
  | a=>rename d a
def renameH (d:Nat):Heap U El→Heap U El
  | []=>[]
  | (id,b) :: h=>(d * 1000+id,b) :: renameH d h
def sub {α:Type} (s:List α) (l h:Int):List α:=(s.drop l.toNat).take (h.toNat - l.toNat)
def AV.plain:AV U El→Bool
  | .agg cs=>cs.all AV.cell
  | .pel _ _ _ _=>true
  | .fn _ a b=>a.isEmpty&&b.isEmpty
  | a=>a.cell
def AV.cellF:AV U El→Bool
  | .lst _ _=>false
  | .pel _ _ _ _=>false
  | .fmp _ _ _=>false
  | a=>a.cell
def AV.resG1 (ok:AV U El→Bool):AV U El→Bool
  | .ful id=>Nat.blt id 4
  | .agg cs=>cs.all fun c=>ok c||(match c with | .ful id=>Nat.blt id 4 | _=>false)
  | .fn _ [] [.pcs cs _]=>cs.all ok && !(cs.all AV.cellF)
  | a=>ok a
def AV.resG (ok:AV U El→Bool):AV U El→Bool
  | .tup cs=>cs.all (AV.resG1 ok)
  | a=>a.resG1 ok
def rowsH:Heap U El→Bool
  | []=>true
  | (_,.rows _ _) :: h=>rowsH h
  | (_,.box _ _) :: _=>false
  | (_,.bld _ _) :: _=>false
  | (_,.map _ _ _) :: _=>false
  | (_,.amap _ _ _) :: _=>false
def flatH (E:Univ U El):Heap U El→Bool
  | []=>true
  | (_,.rows u _) :: h=>E.fl u&&flatH E h
  | (_,.box _ _) :: _=>false
  | (_,.bld _ _) :: _=>false
  | (_,.map _ _ _) :: _=>false
  | (_,.amap _ _ _) :: _=>false
def binOk (X:Ctx U El) (ty:TypeId) (yo:Operand) (y:AV U El):Bool :=
  match y with
  | .nilp=>match tdGet X.tds ty with | some .ptr=>true | _=>false
  | .nili=>match tdGet X.tds ty with | some .iface=>Region.isConst yo | _=>false
  | .bool _=>match tdGet X.tds ty with | some .bool=>true | _=>false
  | .nils=>match tdGet X.tds ty with | some (.slice _)=>true | _=>false
  | _=>true
def caseIx {R:Type} (i:Int):Nat→Nat→(Nat→Option R)→Option R
  | _,0,_=>none
  | j,m+1,k=>condB (i == Int.ofNat j) (k j) (caseIx i (j+1) m k)
def ixA {R:Type} (n:Nat) (i:Int) (k:Nat→Option R):Option R:=bif Nat.ble n 8 then caseIx i 0 n k else chk (inb i n) (k i.toNat)
def evalOp (X : Ctx U El) (o : Oper) (t : Tmps U El) (h : Heap U El) (d : Nat) (k : Out U El → Option (Fin U El)) : Option (Fin U El) :=
  match o.op with
  | .move x=>k ⟨oget t x,[]⟩
  | .assign x=>k ⟨oget t x,[]⟩
  | .pick c a b => match oget t c with
    | .bool true=>k ⟨oget t a,[]⟩
    | .bool false=>k ⟨oget t b,[]⟩
    | _=>none
  | .box _ x => match cellsOf (oget t x) with
    | some cs=>k ⟨.ptr d 0,[(d,.box 0 cs)]⟩
    | none=>none
  | .alloc ty => match tdGet X.tds ty with
    | some (.bld u)=>chk (Nat.blt 0 d) (k ⟨.ptr d 0,[(d,.bld ty (d * 1000)),(d * 1000,.rows u [])]⟩)
    | _ => match zGet X.zeros ty with
      | some z => match cellsOf (constAV z) with
        | some cs=>k ⟨.ptr d 0,[(d,.box 0 cs)]⟩
        | none=>none
      | none=>none
  | .binOp op ty x y _=>chk (binOk X ty y (oget t y)) <| absBin op (eGet X.eqs ty) (oget t x) (oget t y) fun v=>k ⟨v,[]⟩
  | .unOp op _ x => match op, oget t x with
    | .not,.bool b=>k ⟨.bool (!b),[]⟩
    | .neg,.int kd n=>k ⟨.int kd (kd.wrap (0 - n)),[]⟩
    | _,_=>none
  | .nilCheck x => match oget t x with
    | .ptr id off=>k ⟨.ptr id off,[]⟩
    | .row id i off=>k ⟨.row id i off,[]⟩
    | .pel u xs i off=>k ⟨.pel u xs i off,[]⟩
    | .pcs cs off=>k ⟨.pcs cs off,[]⟩
    | _=>none
  | .load ty p => match tdGet X.tds ty with
    | some td => match tdAgg td with
      | some (sz,ag)=>view X h (oget t p) fun cs off=>partOf cs off sz ag fun v=>k ⟨v,[]⟩
      | none=>none
    | none=>none
  | .fieldAddr s p f => match tdGet X.tds s with
    | some (.struct fs _) => match fs[f]? with
      | some (off, _, _) => match oget t p with
        | .ptr id o=>k ⟨.ptr id (o+off),[]⟩
        | .row id i o=>k ⟨.row id i (o+off),[]⟩
        | .pel u xs i o=>k ⟨.pel u xs i (o+off),[]⟩
        | .pcs cs o=>k ⟨.pcs cs (o+off),[]⟩
        | _=>none
      | none=>none
    | _=>none
  | .field s x f => match tdGet X.tds s with
    | some (.struct fs _) => match fs[f]? with
      | some (off, sz, ag) => match oget t x with
        | .agg cs=>partOf cs off sz ag fun v=>k ⟨v,[]⟩
        | _=>none
      | none=>none
    | _=>none
  | .indexAddr ty x ix => match tdGet X.tds ty, oget t ix with
    | some (.slice u), .int _ i => match oget t x with
      | .lst u' xs=>chk (decide (u'=u)) (chk (inb i xs.length) (k ⟨.pel u' xs i.toNat 0,[]⟩))
      | .ful id => match hget h id with
        | some (.rows u' xs)=>chk (decide (u'=u)) (chk (inb i xs.length) (k ⟨.row id i.toNat 0,[]⟩))
        | _=>none
      | .own id lo len => match hget h id with
        | some (.rows u' xs)=>chk (decide (u'=u)) (chk (inb i len) (k ⟨.row id (lo+i.toNat) 0,[]⟩))
        | some (.box _ _)=>chk (Nat.beq lo 0) (ixA len i fun q=>k ⟨.ptr id (q * X.E.sz u),[]⟩)
        | _=>none
      | _=>none
    | some (.arr n es _ _), .int _ i => match oget t x with
      | .ptr id off=>ixA n i fun q=>k ⟨.ptr id (off+q * es),[]⟩
      | .row id j off=>ixA n i fun q=>k ⟨.row id j (off+q * es),[]⟩
      | .pel u xs j off=>ixA n i fun q=>k ⟨.pel u xs j (off+q * es),[]⟩
      | .pcs cs off=>ixA n i fun q=>k ⟨.pcs cs (off+q * es),[]⟩
      | _=>none
    | _,_=>none
  | .index ty x ix => match tdGet X.tds ty, oget t ix with
    | some (.str), .int _ i => match oget t x with
      | .str s=>chk (inb i s.length) (k ⟨.int .u8 (s.getD i.toNat 0).toNat,[]⟩)
      | _=>none
    | some (.arr n es ea _), .int _ i => match oget t x with
      | .agg cs=>ixA n i fun q=>partOf cs (q * es) es ea fun v=>k ⟨v,[]⟩
      | _=>none
    | _,_=>none
  | .slice ty x lo hi none => match tdGet X.tds ty, oget t x with
    | some (.str), .str s => match (match lo with | some o => oget t o | none => .int .i64 0), (match hi with | some o => oget t o | none => .int .i64 s.length) with
      | .int _ l,.int _ g=>chk (ile 0 l&&ile l g&&ile g s.length) (k ⟨.str (sub s l g),[]⟩)
      | _,_=>none
    | some (.slice u), .lst u' xs => match (match lo with | some o => oget t o | none => .int .i64 0), (match hi with | some o => oget t o | none => .int .i64 xs.length) with
      | .int _ l,.int _ g=>chk (decide (u'=u)) (chk (ile 0 l&&ile l g&&ile g xs.length) (k ⟨.lst u' (sub xs l g),[]⟩))
      | _,_=>none
    | some (.slice u), .ful id => match hget h id with
      | some (.rows u' xs) => match (match lo with | some o => oget t o | none => .int .i64 0), (match hi with | some o => oget t o | none => .int .i64 xs.length) with
        | .int _ l,.int _ g=>chk (decide (u'=u)) (chk (ile 0 l&&ile l g&&ile g xs.length) (k ⟨.own id l.toNat (g.toNat - l.toNat),[]⟩))
        | _,_=>none
      | _=>none
    | some (.slice u), .own id lo0 len => match hget h id with
      | some (.rows u' _) => match (match lo with | some o => oget t o | none => .int .i64 0), (match hi with | some o => oget t o | none => .int .i64 len) with
        | .int _ l,.int _ g=>chk (decide (u'=u)) (chk (ile 0 l&&ile l g&&ile g len) (k ⟨.own id (lo0+l.toNat) (g.toNat - l.toNat),[]⟩))
        | _,_=>none
      | _=>none
    | some (.slice _), .nils => match (match lo with | some o => oget t o | none => .int .i64 0), (match hi with | some o => oget t o | none => .int .i64 0) with
      | .int _ l,.int _ g=>chk (ile 0 l&&ile l g&&ile g 0) (k ⟨.nils,[]⟩)
      | _,_=>none
    | _,_=>none
  | .extract x i => match oget t x with
    | .tup cs => match cs[i]? with
      | some v=>k ⟨v,[]⟩
      | none=>none
    | _=>none
  | .makeFunc (.func f) a b=>k ⟨.fn f (a.toList.map (oget t)) (b.toList.map (oget t)),[]⟩
  | .build ty ps => match tdGet X.tds ty with
    | some (.struct fs sz) => match litAny t (zeroCells X.zeros ty) fs ps.toList with
      | some cs=>chk (Nat.beq cs.length sz) (k ⟨.agg cs,[]⟩)
      | none=>none
    | some (.arr n es ea sz) => match litCells t (zeroCells X.zeros ty) 0 0 ((List.range n).map fun i => (i * es, es, ea)) ps.toList with
      | some cs=>chk (Nat.beq cs.length sz) (k ⟨.agg cs,[]⟩)
      | none=>none
    | _=>none
  | .buildSlice ty n ps => match tdGet X.tds ty with
    | some (.slice u) => bif Nat.blt 0 (X.E.boxS ty) then
        chk (Nat.beq n ps.size&&(Nat.beq n (X.E.boxS ty)&&(Nat.ble n 1000&&Nat.beq (X.E.sz u) 1))) (match litBox t 0 ps.toList with
          | some cs=>k ⟨.own d 0 n,[(d,.box 0 cs)]⟩
          | none=>none)
      else chk (Nat.beq n ps.size) (chk (Nat.ble (n * X.E.sz u) 16777216) (match litRows X.E u t 0 ps.toList with
      | some xs=>k ⟨.ful d,[(d,.rows u xs)]⟩
      | none=>none))
    | _=>none
  | .makeSlice ty n c => match tdGet X.tds ty, oget t n, oget t c with
    | some (.slice u), .int _ ln, .int _ cp => bif Nat.blt 0 (X.E.boxS ty) then
        chk (ln == Int.ofNat (X.E.boxS ty) && cp == Int.ofNat (X.E.boxS ty) && Nat.ble (X.E.boxS ty * X.E.by_ u) 140737488355328 && Nat.beq (X.E.sz u) 1) (match zGet X.zeros (X.E.tid u) with
          | some z => match cellsOf (constAV z) with
            | some [c]=>k ⟨.own d 0 (X.E.boxS ty),[(d,.box 0 (List.replicate (X.E.boxS ty) c))]⟩
            | _=>none
          | none=>none)
      else chk (ile 0 ln&&ile ln cp&&ile (cp * X.E.by_ u) 140737488355328) (k ⟨.ful d,[(d,.rows u (List.replicate ln.toNat (X.E.dflt u)))]⟩)
    | _,_,_=>none
  | .makeMap ty none => match tdGet X.tds ty with
    | some (.map u v)=>k ⟨.mp d,[(d,.map u v [])]⟩
    | _=>none
  | .lookup ty m ix ok => match tdGet X.tds ty, oget t m with
    | some (.map u v), .mp id => match hget h id with
      | some (.map u' v' es) => chk (decide (u' = u) && (decide (v' = v) && (X.E.kok u' && X.E.vok v'))) (match decV X.E u' (oget t ix) with
        | some x=>k ⟨bif ok then .tup [elAV X.E v' (mgetD (X.E.keq u') es x (X.E.dflt v')),.bool (mhas (X.E.keq u') es x)] else elAV X.E v' (mgetD (X.E.keq u') es x (X.E.dflt v')),[]⟩
        | none=>none)
      | _=>none
    | some (.map u v), .fmp u' v' es => chk (decide (u' = u) && (decide (v' = v) && (X.E.kok u' && X.E.vok v'))) (match decV X.E u' (oget t ix) with
      | some x=>k ⟨bif ok then .tup [elAV X.E v' (mgetD (X.E.keq u') es x (X.E.dflt v')),.bool (mhas (X.E.keq u') es x)] else elAV X.E v' (mgetD (X.E.keq u') es x (X.E.dflt v')),[]⟩
      | none=>none)
    | _,_=>none
  | .convert s ty x => match tdGet X.tds s, tdGet X.tds ty, oget t x with
    | some _,some .str,.str b=>k ⟨.str b,[]⟩
    | some _,some (.int kd),.int _ n=>k ⟨.int kd (kd.wrap n),[]⟩
    | _,_,_=>none
  | .call ⟨.builtin .len, as, ts⟩ => match as.toList, ts.toList with
    | [x], ty :: _ => match lenOf h (oget t x) with
      | some n => chk (match tdGet X.tds ty, oget t x with
        | some .str,.str _=>true
        | some (.slice _),.str _=>false
        | some (.slice _),.mp _=>false
        | some (.slice _),_=>true
        | some (.map _ _),.mp _=>true
        | _,_=>false) (k ⟨.int .i64 n,[]⟩)
      | none=>none
    | _,_=>none
  | .call ⟨.builtin .max, as, _⟩ => match as.toList with
    | [x, y] => match oget t x, oget t y with
      | .int ka a,.int kb b=>k ⟨.int ka (bif ilt a b then b else a),[]⟩
      | _,_=>none
    | _=>none
  | .call ⟨.builtin .min, as, _⟩ => match as.toList with
    | [x, y] => match oget t x, oget t y with
      | .int ka a,.int kb b=>k ⟨.int ka (bif ilt b a then b else a),[]⟩
      | _,_=>none
    | _=>none
  | .call ⟨.value f, as, ts⟩ => match oget t f with
    | .fn g first caps => match toArgs X h (first ++ as.toList.map (oget t) ++ caps) (first.map (fun _ => 0) ++ ts.toList) with
      | some vs=>X.spec g vs fun r ex=>chk (r.resG AV.cell&&rowsH ex&&((r.resG AV.cellF&&flatH X.E ex)||(first++as.toList.map (oget t)++caps).all AV.plain)) (k ⟨renameR d r,renameH d ex⟩)
      | none=>none
    | _=>none
  | _=>none
def St.put (st:St U El) (d:Option Nat) (o:Out U El):St U El :=
  ⟨match d with | some d=>(d,o.v) :: st.t | none=>st.t,o.new++st.h⟩
def callIds (d:Nat):List Nat:=[d * 1000+0,d * 1000+1,d * 1000+2,d * 1000+3]
def newIds (o:Oper) (d:Nat):List Nat :=
  match o.op with
  | .box _ _=>[d]
  | .alloc _=>[d,d * 1000]
  | .buildSlice _ _ _=>[d]
  | .makeSlice _ _ _=>[d]
  | .makeMap _ _=>[d]
  | .call ⟨.value _,_,_⟩=>callIds d
  | .call ⟨.builtin .append,_,_⟩=>[d]
  | _=>[]
def rowsOf (h : Heap U El) (u : U) : AV U El → Option (List (El u))
  | .nils=>some []
  | .lst u' xs=>if e:u'=u then some (e ▸ xs) else none
  | .ful id => match hget h id with
    | some (.rows u' xs)=>if e:u'=u then some (e ▸ xs) else none
    | _=>none
  | .own id lo len => match hget h id with
    | some (.rows u' xs)=>if e:u'=u then some (e ▸ ((xs.drop lo).take len)) else none
    | _=>none
  | _=>none
def frontB:AV U El→Bool
  | .own _ lo len=>Nat.beq lo 0&&nlt 0 len
  | _=>true
def rowsTo (h : Heap U El) (u : U) : AV U El → Option (List (El u) × Option Nat)
  | .nils=>some ([],none)
  | .ful id => match hget h id with
    | some (.rows u' xs)=>if e:u'=u then some (e ▸ xs,some id) else none
    | _=>none
  | .own id _ len => match hget h id with
    | some (.rows u' xs)=>if e:u'=u then some (List.take len (e ▸ xs),some id) else none
    | _=>none
  | _=>none
def appendOp (X : Ctx U El) (d : Nat) (ty : TypeId) (s x : AV U El) (st : St U El) (k : St U El → Option (Fin U El)) : Option (Fin U El) :=
  match tdGet X.tds ty with
  | some (.slice u) => match rowsTo st.h u s, rowsOf st.h u x with
    | some (xs, id), some ys =>
      chk (frontB s&&(nle ((xs.length+ys.length) * X.E.by_ u) 140737488355328&&nle (xs.length+ys.length) 9223372036854775807))
        (let aA:=(match id with | some id=>st.forget id | none=>st).forget d
         k ⟨(d,.ful d) :: aA.t,(d,.rows u (xs++ys)) :: aA.h⟩)
    | _,_=>none
  | _=>none
def hset:Heap U El→Nat→Blk U El→Heap U El
  | [],_,_=>[]
  | (j,b) :: h,id,c=>bif Nat.beq j id then (j,c) :: h else (j,b) :: hset h id c
def storeOp (X : Ctx U El) (ty : TypeId) (p v : AV U El) (st : St U El) (k : St U El → Option (Fin U El)) : Option (Fin U El) :=
  match tdGet X.tds ty with
  | some td => match tdAgg td, cellsOf v with
    | some (sz, _), some ns => chk (Nat.beq ns.length sz && Nat.blt 0 sz && ns.all AV.one) (match p with
      | .ptr id off => match hget st.h id with
        | some (.box tg cs)=>chk (Nat.ble (off+sz) cs.length) (k ⟨st.t,hset st.h id (.box tg (cs.take off++ns++cs.drop (off+sz)))⟩)
        | _=>none
      | .row id i off => match hget st.h id with
        | some (.rows u xs) => chk (nlt i xs.length && Nat.ble (off + sz) (X.E.sz u)) (match X.E.dec u ((X.E.enc u (xs.getD i (X.E.dflt u))).take off ++ ns ++ (X.E.enc u (xs.getD i (X.E.dflt u))).drop (off + sz)) with
          | some y=>k ⟨st.t,hset st.h id (.rows u (xs.set i y))⟩
          | none=>none)
        | _=>none
      | _=>none)
    | _,_=>none
  | none=>none
def clearOp (X : Ctx U El) (ty : TypeId) (s : AV U El) (st : St U El) (k : St U El → Option (Fin U El)) : Option (Fin U El) :=
  match tdGet X.tds ty,s with
  | some (.slice u), .own id lo len => match hget st.h id with
    | some (.rows v xs)=>chk (decide (v=u)&&(nlt 0 len&&nle (lo+len) xs.length)) (k ⟨st.t,hset st.h id (.rows v (List.take lo xs++(List.replicate len (X.E.dflt v)++List.drop (lo+len) xs)))⟩)
    | _=>none
  | _,_=>none
def copyOp (X : Ctx U El) (dst : Option Nat) (ty : TypeId) (s x : AV U El) (st : St U El) (k : St U El → Option (Fin U El)) : Option (Fin U El) :=
  match tdGet X.tds ty,s with
  | some (.slice u), .own id lo len => match hget st.h id with
    | some (.rows v xs) => match rowsOf st.h v x with
      | some ys=>chk (decide (v=u)&&nle (lo+len) xs.length) (k ((⟨st.t,hset st.h id (.rows v (List.take lo xs++(List.take (Nat.min ys.length len) ys++List.drop (lo+Nat.min ys.length len) xs)))⟩:St U El).put dst ⟨.int .i64 (Int.ofNat (Nat.min ys.length len)),[]⟩))
      | none=>none
    | _=>none
  | _,_=>none
def mupdOp (X : Ctx U El) (ty : TypeId) (m ix x : AV U El) (st : St U El) (k : St U El → Option (Fin U El)) : Option (Fin U El) :=
  match tdGet X.tds ty,m with
  | some (.map u v), .mp id => match hget st.h id with
    | some (.map u' v' es) => chk (decide (u' = u) && (decide (v' = v) && (X.E.kok u' && X.E.vok v'))) (match decV X.E u' ix, decV X.E v' x with
      | some y,some z=>k ⟨st.t,hset st.h id (.map u' v' (mput (X.E.keq u') es y z))⟩
      | _,_=>none)
    | _=>none
  | _,_=>none
def decRows (E : Univ U El) (u : U) : Nat → List (AV U El) → Option (List (El u))
  | 0,_=>some []
  | n + 1, cs => match E.dec u (cs.take (E.sz u)) with
    | some x => match decRows E u n (cs.drop (E.sz u)) with
      | some xs=>some (x :: xs)
      | none=>none
    | none=>none
def arrOp (X : Ctx U El) (d : Nat) (ty : TypeId) (x : AV U El) (st : St U El) (k : St U El → Option (Fin U El)) : Option (Fin U El) :=
  match tdGet X.tds ty,X.E.arrU ty,x with
  | some (.arr n es _ _), some u, .ptr id 0 => match hget st.h id with
    | some (.box _ cs) => chk (Nat.beq (X.E.sz u) es && (Nat.beq cs.length (n * es) && (Nat.blt 0 n && Nat.blt d X.nt))) (match decRows X.E u n cs with
      | some xs=>let aA:=st.forget id; k ⟨(d,.lst u xs) :: aA.t,aA.h⟩
      | none=>none)
    | _=>none
  | _,_,_=>none
def stepEv (X:Ctx U El) (o:Oper) (st:St U El) (k:St U El→Option (Fin U El)):Option (Fin U El) :=
  let d:=o.dst.getD 999
  let bA:=st.forgets (newIds o d)
  chk (match o.dst with | some d=>Nat.blt d X.nt | none=>true) (evalOp X o bA.t bA.h d fun out=>k (bA.put o.dst out))
def nilLen (h : Heap U El) : AV U El → Option Nat
  | .lst _ xs=>some xs.length
  | .ful id => match hget h id with
    | some (.rows _ xs)=>some xs.length
    | _=>none
  | _=>none
noncomputable def nilTest (n:Nat) (eq:Bool) (k:Bool→Option (Fin U El)):Option (Fin U El):=condB (nlt 0 n) (k (!eq)) (amb (k true) (k false))
noncomputable def stepOp (X:Ctx U El) (o:Oper) (st:St U El) (k:St U El→Option (Fin U El)):Option (Fin U El) :=
  match o.op with
  | .store ty p v => match o.dst with
    | none=>storeOp X ty (oget st.t p) (oget st.t v) st k
    | some _=>none
  | .binOp op ty x y _ => match op, oget st.t y, nilLen st.h (oget st.t x), o.dst with
    | .eql,.nils,some n,some d=>chk (binOk X ty y (.nils:AV U El)&&Nat.blt d X.nt) (nilTest n true fun b=>k ⟨(d,.bool b) :: st.t,st.h⟩)
    | .neq,.nils,some n,some d=>chk (binOk X ty y (.nils:AV U El)&&Nat.blt d X.nt) (nilTest n false fun b=>k ⟨(d,.bool b) :: st.t,st.h⟩)
    | _,_,_,_=>stepEv X o st k
  | .slice ty x none none none => match tdGet X.tds ty, o.dst with
    | some (.arr _ _ _ _),some d=>arrOp X d ty (oget st.t x) st k
    | _,_=>stepEv X o st k
  | .mapUpdate ty m i v => match o.dst with
    | none=>mupdOp X ty (oget st.t m) (oget st.t i) (oget st.t v) st k
    | some _=>none
  | .insert ty m i v => match o.dst with
    | none=>mupdOp X ty (oget st.t m) (oget st.t i) (oget st.t v) st k
    | some _=>none
  | .call ⟨.builtin .append, as, ts⟩ => match as.toList, ts.toList, o.dst with
    | [s,x],[ty,ty'],some d=>chk (Nat.beq ty ty'&&Nat.blt d X.nt) (appendOp X d ty (oget st.t s) (oget st.t x) st k)
    | _,_,_=>none
  | .call ⟨.builtin .clear, as, ts⟩ => match as.toList, ts.toList, o.dst with
    | [s],[ty],none=>clearOp X ty (oget st.t s) st k
    | _,_,_=>none
  | .call ⟨.builtin .copy, as, ts⟩ => match as.toList, ts.toList with
    | [s,x],[ty,ty']=>chk (match o.dst with | some d=>Nat.blt d X.nt | none=>true) (copyOp X o.dst ty (oget st.t s) (oget st.t x) st k)
    | _,_=>none
  | .call ⟨.value f, as, _⟩ => match oget st.t f with
    | .fn g first caps => match X.mspec g with
      | some sp=>chk (match o.dst with | some d=>Nat.blt d X.nt | none=>true) (sp (o.dst.getD 999) (first++as.toList.map (oget st.t)++caps) st fun v st'=>k ⟨match o.dst with | some d=>(d,v) :: st'.t | none=>st'.t,st'.h⟩)
      | none=>stepEv X o st k
    | _=>none
  | _=>stepEv X o st k
def branch (t:Tmps U El) (g:Nat) (k:Tmps U El→Bool→Option (Fin U El)):Option (Fin U El) :=
  match tget t g with
  | .bool b=>condB b (k ((g,.bool true) :: t) true) (k ((g,.bool false) :: t) false)
  | _=>none
def gbranch (t:Tmps U El) (g:Nat) (want:Bool) (k:Tmps U El→Bool→Option (Fin U El)):Option (Fin U El) :=
  match tget t g with
  | .bool b=>condB b (k ((g,.bool true) :: t) true) (k ((g,.bool false) :: t) false)
  | .tup []=>k t (!want)
  | _=>none
def guardOf (dsts:List (Option Nat)) (o:Oper):Option (Option Nat×Bool) :=
  match o.guard with
  | none=>none
  | some (j,want)=>some (match dsts[j]? with | some d=>d | none=>none,want)
def withTest (o:Oper) (t:Tmps U El) (k:Tmps U El→Option (Fin U El)):Option (Fin U El) :=
  match o.op with
  | .pick (.tmp c) _ _=>branch t c fun t' _=>k t'
  | _=>k t
def shareRow (st : St U El) (s : Nat) (u : U) (k : St U El → Option (Fin U El)) : Option (Fin U El) :=
  match tget st.t s with
  | .lst _ _=>k st
  | .nils=>k ⟨(s,.lst u []) :: st.t,st.h⟩
  | .ful id => match hget st.h id with
    | some (.rows v xs)=>let aA:=st.forget id; k ⟨(s,.lst v xs) :: aA.t,aA.h⟩
    | _=>none
  | .own id lo len => match hget st.h id with
    | some (.rows v xs)=>chk (nle (lo+len) xs.length) (k ⟨(s,.lst v ((xs.drop lo).take len)) :: (st.forget id).t,(st.forget id).h⟩)
    | _=>none
  | .fmp _ _ _=>k st
  | .nilm=>k st
  | .mp id => match hget st.h id with
    | some (.map u v es)=>k ⟨(s,.fmp u v es) :: (st.forget id).t,(st.forget id).h⟩
    | _=>none
  | _=>none
def shareCell (st : St U El) (s off : Nat) (u : U) (k : St U El → Option (Fin U El)) : Option (Fin U El) :=
  match tget st.t s with
  | .agg cs => match cs[off]? with
    | some (.lst _ _)=>k st
    | some .nils=>k ⟨(s,.agg (cs.set off (.lst u []))) :: st.t,st.h⟩
    | some (.ful id) => match hget st.h id with
      | some (.rows v xs)=>k ⟨(s,.agg ((cs.map (AV.kill id)).set off (.lst v xs))) :: (st.forget id).t,(st.forget id).h⟩
      | _=>k st
    | _=>k st
  | _=>k st
def shareOffs (st : St U El) (s : Nat) : List Nat → (St U El → Option (Fin U El)) → Option (Fin U El)
  | [],k=>k st
  | off :: l, k => match tget st.t s with
    | .agg cs => match cs[off]? with
      | some (.ful id) => match hget st.h id with
        | some (.rows v _)=>shareCell st s off v fun st'=>shareOffs st' s l k
        | _=>shareOffs st s l k
      | _=>shareOffs st s l k
    | _=>shareOffs st s l k
def shareSlot (st : St U El) (s : Nat) (k : St U El → Option (Fin U El)) : Option (Fin U El) :=
  match tget st.t s with
  | .ful id => match hget st.h id with
    | some (.rows v _)=>shareRow st s v k
    | _=>k st
  | .agg cs=>shareOffs st s (List.range cs.length) k
  | _=>k st
def shareParts (st:St U El):List (Nat×Operand)→(St U El→Option (Fin U El))→Option (Fin U El)
  | [],k=>k st
  | (_,.tmp s) :: l,k=>shareSlot st s fun st'=>shareParts st' l k
  | _ :: l,k=>shareParts st l k
def preShare (o : Oper) (st : St U El) (k : St U El → Option (Fin U El)) : Option (Fin U El) :=
  match o.op with
  | .store _ p (.tmp s) => match oget st.t p with
    | .row _ _ _=>shareSlot st s k
    | _=>k st
  | .buildSlice _ _ ps=>shareParts st ps.toList k
  | .mapUpdate _ _ _ (.tmp s)=>shareSlot st s k
  | .insert _ _ _ (.tmp s)=>shareSlot st s k
  | _=>k st
noncomputable def runOps (X:Ctx U El) (dsts:List (Option Nat)):List Oper→St U El→(St U El→Option (Fin U El))→Option (Fin U El)
  | [],st,k=>k st
  | o :: os, st, k =>
    match guardOf dsts o with
    | none=>withTest o st.t fun t=>preShare o ⟨t,st.h⟩ fun aA=>stepOp X o aA fun st'=>runOps X dsts os st' k
    | some (some g,want)=>gbranch st.t g want fun t b =>
        bif Bool.xor b want then runOps X dsts os ⟨match o.dst with | some d=>(d,.tup []) :: t | none=>t,st.h⟩ k
        else withTest o t fun t'=>preShare o ⟨t',st.h⟩ fun aA=>stepOp X o aA fun st'=>runOps X dsts os st' k
    | some (none,_)=>none
noncomputable def ambL {R:Type}:List (Option R)→Option R
  | []=>none
  | [x]=>x
  | x :: y :: l=>amb x (ambL (y :: l))
theorem ambL_some {R:Type} {r:R}:∀ (l:List (Option R)),ambL l=some r→∀ x∈l,x=some r:=by
  intro l
  induction l with
  | nil=>intro h; cases h
  | cons x l ih =>
    intro h y hy
    match l,ih with
    | [],_=>simp only [List.mem_singleton] at hy; rw [hy]; exact h
    | z :: l, ih =>
      obtain ⟨h1,h2⟩:=amb_some h
      rcases List.mem_cons.1 hy with e | e
      · rw [e]; exact h1
      · exact ih h2 y e
def readyL (ops:List Oper) (dn:Nat):List Nat:=(List.range ops.length).filter fun i => !Nat.testBit dn i&&(match ops[i]? with | some o=>o.after.toList.all fun e => !Region.binds .any e||Nat.testBit dn e.on | none=>false)
noncomputable def anyOps (X:Ctx U El) (dsts:List (Option Nat)) (ops:List Oper) (k:St U El→Option (Fin U El)):Nat→Nat→St U El→Option (Fin U El)
  | 0,dn,st=>match readyL ops dn with | []=>k st | _=>none
  | n + 1, dn, st => match readyL ops dn with
    | []=>k st
    | i :: is=>ambL ((i :: is).map fun i=>match ops[i]? with | some o=>runOps X dsts [o] st (fun st'=>anyOps X dsts ops k n (dn ||| 2 ^ i) st') | none=>none)
def ancF (anc:List Nat):List Edge→Nat→Nat
  | [],m=>m
  | e :: es,m=>ancF anc es (bif Region.binds .any e then Nat.lor m (Nat.lor (2 ^ e.on) (anc.getD e.on 0)) else m)
def ancOf (anc:List Nat) (o:Oper):Nat:=ancF anc o.after.toList 0
def ancs:List Oper→List Nat→List Nat
  | [],acc=>acc
  | o :: os,acc=>ancs os (acc++[ancOf acc o])
def evsOf (ops:List Oper) (ws:List (Nat×Nat)):List (Nat×Nat) :=
  (ops.zipIdx.flatMap fun (o,j)=>(newIds o (o.dst.getD 999)).map fun id=>(j,id))++ws
def safeB (anc:List Nat) (evs:List (Nat×Nat)) (i id:Nat):Bool :=
  evs.all fun (j,id') => !(Nat.beq id' id)||Nat.beq j i||(bif Nat.blt j i then Nat.testBit (anc.getD i 0) j else Nat.testBit (anc.getD j 0) i)
def hfil (p:Nat→Bool):Heap U El→Heap U El
  | []=>[]
  | (j,b) :: h=>bif p j then (j,b) :: hfil p h else hfil p h
def hdels (h:Heap U El):List Nat→Heap U El
  | []=>h
  | id :: ids=>hdels (hdel h id) ids
def wsOf (ws:List (Nat×Nat)) (i:Nat):List Nat:=(ws.filter fun p=>Nat.beq p.1 i).map (·.2)
def names (id:Nat):AV U El→Bool
  | .ptr j _=>Nat.beq j id
  | .row j _ _=>Nat.beq j id
  | .mp j=>Nat.beq j id
  | _=>false
def AV.within (ids:List Nat):AV U El→Bool
  | .agg cs=>withinL cs
  | .tup cs=>withinL cs
  | .pcs cs _=>withinL cs
  | .fn _ a b=>withinL a&&withinL b
  | .ful j=>ids.elem j
  | .own j _ _=>ids.elem j
  | .ptr j _=>ids.elem j
  | .row j _ _=>ids.elem j
  | .mp j=>ids.elem j
  | _=>true
where
  withinL:List (AV U El)→Bool
    | []=>true
    | c :: cs=>AV.within ids c&&withinL cs
def Blk.within (ids:List Nat):Blk U El→Bool
  | .box _ cs=>cs.all (AV.within ids)
  | .amap _ _ cs=>cs.all (AV.within ids)
  | .bld _ j=>ids.elem j
  | _=>true
def ladd (l:List Nat) (i:Nat):List Nat:=bif l.elem i then l else l++[i]
def AV.nms:AV U El→List Nat→List Nat
  | .agg cs,l=>nmsL cs l
  | .tup cs,l=>nmsL cs l
  | .pcs cs _,l=>nmsL cs l
  | .fn _ a b,l=>nmsL b (nmsL a l)
  | .ful j,l=>ladd l j
  | .own j _ _,l=>ladd l j
  | .ptr j _,l=>ladd l j
  | .row j _ _,l=>ladd l j
  | .mp j,l=>ladd l j
  | _,l=>l
where
  nmsL:List (AV U El)→List Nat→List Nat
    | [],l=>l
    | c :: cs,l=>nmsL cs (AV.nms c l)
def Blk.nms:Blk U El→List Nat→List Nat
  | .box _ cs,l=>AV.nms.nmsL cs l
  | .amap _ _ cs,l=>AV.nms.nmsL cs l
  | .bld _ j,l=>ladd l j
  | _,l=>l
def reach (h : Heap U El) : Nat → Nat → List Nat → List Nat
  | 0,_,l=>l
  | n + 1, i, l => match l[i]? with
    | some id => match hget h id with
      | some b=>reach h n (i+1) (b.nms l)
      | none=>reach h n (i+1) l
    | none=>l
def hidBase:Nat:=1000000000
def upOf:List Nat→Nat→Nat→Nat
  | [],_,j=>j
  | i :: ids,n,j=>bif Nat.beq i j then n else upOf ids (n+1) j
def handed (h : Heap U El) (all : List Nat) : List Nat → Nat → Option (Heap U El)
  | [],_=>some []
  | id :: ids, n => match hget h id with
    | some b => match handed h all ids (n + 1) with
      | some hs=>chk (b.within all) (some ((n,b.ren (upOf all hidBase) n) :: hs))
      | none=>none
    | none=>none
def fstOf:List (Nat×Nat)→Nat→Option Nat
  | [],_=>none
  | (id,j) :: l,x=>bif Nat.beq id x then some j else fstOf l x
def dnOf:List (Nat×Nat)→Nat→Nat
  | [],j=>j
  | (id,j) :: l,x=>bif Nat.beq j x then id else dnOf l x
def mForget (ids:List Nat) (outs:List (Nat×Nat)) (pins:List Nat):List Nat:=(ids++outs.map (·.1)).filter fun i => !pins.elem i
def mBlks (h hc : Heap U El) (pins : List Nat) (all : List (Nat × Nat)) : List (Nat × Nat) → Heap U El
  | []=>[]
  | (id, j) :: l => match hget hc j with
    | some b=>(id,b.ren (dnOf all) (bif pins.elem id then (match hget h id with | some b0=>b0.tag | none=>0) else 0)) :: mBlks h hc pins all l
    | none=>mBlks h hc pins all l
def mOk (hc : Heap U El) (ids : List Nat) (outs : List (Nat × Nat)) (pins : List Nat) (v : AV U El) : Bool :=
  decide ids.Nodup&&(decide (outs.map (·.1)).Nodup&&(decide (outs.map (·.2)).Nodup&&(v.within (outs.map (·.2))&&(
    (outs.all fun p=>match hget hc p.2 with | some b=>b.within (outs.map (·.2)) | none=>true) &&
    (pins.all fun id=>ids.elem id&&(match fstOf outs id with | some j=>Nat.beq j (upOf ids hidBase id)&&(match hget hc j with | some (.box t _)=>Nat.beq t j | _=>false) | none=>false))))))
def pinsOf (ids:List Nat):Heap U El→List Nat
  | []=>[]
  | (j,b) :: h=>bif Nat.ble hidBase j&&(match b with | .box t _=>Nat.beq t j | _=>false) then ids.getD (j - hidBase) 0 :: pinsOf ids h else pinsOf ids h
def outsD (ids:List Nat) (d:Nat) (pins:List Nat):Heap U El→Nat→List (Nat×Nat)
  | [],_=>[]
  | (j,_) :: h,n=>bif Nat.ble hidBase j&&pins.elem (ids.getD (j - hidBase) 0) then (ids.getD (j - hidBase) 0,j) :: outsD ids d pins h n else (d * 1000+n,j) :: outsD ids d pins h (n+1)
def dcallOp (X : Ctx U El) (f : Operand) (as : Array Operand) (d : Nat) (wj : List Nat) (sf : Nat → Bool) (t : Tmps U El) (h : Heap U El) (k : Tmps U El → Heap U El → Option (Fin U El)) : Option (Fin U El) :=
  match oget t f with
  | .fn g first caps => match X.dspec g with
    | some sp =>
      match handed (hfil sf h) (reach (hfil sf h) 40 0 (AV.nms.nmsL (first++as.toList.map (oget t)++caps) [])) (reach (hfil sf h) 40 0 (AV.nms.nmsL (first++as.toList.map (oget t)++caps) [])) hidBase with
      | some hs=>sp ((first++as.toList.map (oget t)++caps).map (AV.ren (upOf (reach (hfil sf h) 40 0 (AV.nms.nmsL (first++as.toList.map (oget t)++caps) [])) hidBase))) hs fun v hc =>
         chk (decide (wj=reach (hfil sf h) 40 0 (AV.nms.nmsL (first++as.toList.map (oget t)++caps) []))&&((first++as.toList.map (oget t)++caps).all (AV.within wj)&&(mOk hc wj (outsD wj d (pinsOf wj hc) hc 0) (pinsOf wj hc) v&&(outsD wj d (pinsOf wj hc) hc 0).all fun p=>(pinsOf wj hc).elem p.1||(callIds d).elem p.1)))
           (k ((d,v.ren (dnOf (outsD wj d (pinsOf wj hc) hc 0))) :: t) (mBlks (hfil sf h) hc (pinsOf wj hc) (outsD wj d (pinsOf wj hc) hc 0) (outsD wj d (pinsOf wj hc) hc 0)++hdels h wj))
      | none=>none
    | none=>none
  | _=>none
def AV.shr (h:Heap U El) (wj:List Nat):AV U El→AV U El
  | .ful id=>bif wj.elem id then (match hget h id with | some (.rows v xs) => .lst v xs | _ => .ful id) else .ful id
  | a=>a
def AV.shr2 (h:Heap U El) (wj:List Nat):AV U El→AV U El
  | .agg cs => .agg (cs.map (AV.shr h wj))
  | a=>a.shr h wj
def tshr (h:Heap U El) (wj:List Nat):Tmps U El→Tmps U El
  | []=>[]
  | (j,v) :: t=>(j,v.shr2 h wj) :: tshr h wj t
def rowsAll (h:Heap U El) (wj:List Nat):Bool:=wj.all fun id=>match hget h id with | some (.rows _ _)=>true | _=>false
def drawOp (X : Ctx U El) (o : Oper) (sf : Nat → Bool) (wj : List Nat) (t : Tmps U El) (h : Heap U El) (k : Tmps U El → Heap U El → Option (Fin U El)) : Option (Fin U El) :=
  match o.op with
  | .store ty p v => match wj, o.dst with
    | [id], none => chk (names id (oget t p)) (storeOp X ty (oget t p) (oget t v) ⟨[], hfil sf h⟩ fun st' => match hget st'.h id with
      | some b=>k t ((id,b) :: hdel h id)
      | none=>none)
    | _,_=>none
  | .mapUpdate ty m i v => match wj, o.dst with
    | [id], none => chk (names id (oget t m)) (mupdOp X ty (oget t m) (oget t i) (oget t v) ⟨[], hfil sf h⟩ fun st' => match hget st'.h id with
      | some b=>k t ((id,b) :: hdel h id)
      | none=>none)
    | _,_=>none
  | .call ⟨.builtin .append, as, ts⟩ => match as.toList, ts.toList, o.dst with
    | [s, x], [ty, ty'], some d => match tdGet X.tds ty with
      | some (.slice u) => match rowsTo (hfil sf h) u (oget t s), rowsOf (hfil sf h) u (oget t x) with
        | some (xs,sid),some ys=>chk (frontB (oget t s)&&(Nat.beq ty ty'&&decide (wj=sid.toList)&&nle ((xs.length+ys.length) * X.E.by_ u) 140737488355328&&nle (xs.length+ys.length) 9223372036854775807))
            (k ((d,.ful d) :: t) ((d,.rows u (xs++ys)) :: hdels h wj))
        | _,_=>none
      | _=>none
    | _,_,_=>none
  | _ => match wj, o.dst with
    | [],some d=>evalOp X o t (hfil sf h) d fun out=>chk (out.new.all fun p=>(newIds o d).contains p.1) (k ((d,out.v) :: t) (out.new++h))
    | _ :: _, some d => match o.op with
      | .call ⟨.value f,as,_⟩=>dcallOp X f as d wj sf t h k
      | .buildSlice _ _ _=>chk (rowsAll (hfil sf h) wj) (evalOp X o (tshr (hfil sf h) wj t) (hdels (hfil sf h) wj) d fun out=>chk (out.new.all fun p=>(newIds o d).contains p.1) (k ((d,out.v) :: t) (out.new++hdels h wj)))
      | _=>none
    | _,_=>none
def drawOps (X : Ctx U El) (dsts : List (Option Nat)) (sf : Nat → Nat → Bool) (ws : List (Nat × Nat)) : List Oper → Nat → Tmps U El → Heap U El → (St U El → Option (Fin U El)) → Option (Fin U El)
  | [],_,t,h,k=>k ⟨t,h⟩
  | o :: os, j, t, h, k =>
    let go:=fun (t':Tmps U El)=>drawOp X o (sf j) (wsOf ws j) t' h fun t2 h2=>drawOps X dsts sf ws os (j+1) t2 h2 k
    match guardOf dsts o with
    | none=>withTest o t go
    | some (some g,want)=>gbranch t g want fun t1 b =>
        bif Bool.xor b want then (match o.dst,wsOf ws j with | some d,[]=>drawOps X dsts sf ws os (j+1) ((d,.tup []) :: t1) h k | some d,id :: wj=>drawOps X dsts sf ws os (j+1) ((d,.tup []) :: t1) (hfil (fun i=>sf j i&&(id :: wj).elem i) h++hdels h (id :: wj)) k | none,_=>none)
        else withTest o t1 go
    | some (none,_)=>none
def Oper.looks (dsts:List (Option Nat)) (o:Oper):List Nat :=
  (o.op.operands.toList.filterMap fun | .tmp t=>some t | _=>none) ++
  (match o.guard with
   | some (g,_)=>(match dsts[g]? with | some (some d)=>[d] | _=>[])
   | none=>[])
def drawOk (nt : Nat) (ops : List Oper) (ws : List (Nat × Nat)) : Bool :=
  let dsts:=ops.map (·.dst)
  let anc:=ancs ops []
  let evs:=evsOf ops ws
  (ops.zipIdx.all fun (o,j)=>o.after.toList.all fun e => !(Region.binds .any e)||Nat.blt e.on j) &&
  (ops.zipIdx.all fun (o,j)=>match o.dst with | some d=>Nat.blt d nt&&(Nat.blt 0 d||(newIds o d).isEmpty)&&Nat.blt d 1000 | none=>(match o.op with | .store _ _ _=>true | .mapUpdate _ _ _ _=>true | _=>false)) &&
  (ops.zipIdx.all fun (o,j)=>ops.zipIdx.all fun (p,k)=>(Nat.beq j k)||(match p.dst with
    | none=>true
    | some d=>(match o.dst with | some e => !(Nat.beq d e) | none=>true) &&
        (!((Oper.looks dsts o).contains d)||(bif Nat.blt k j then Nat.testBit (anc.getD j 0) k else Nat.testBit (anc.getD k 0) j)))) &&
  (ops.all fun o=>match o.op with | .select _ _=>false | _=>true) &&
  (evs.all fun (i,a)=>evs.all fun (j,b) => !(Nat.beq a b) || !(Nat.blt i j)||Nat.testBit (anc.getD j 0) i) &&
  (evs.all fun (i,_)=>Nat.blt i ops.length)
def drawIds (ops:List Oper):List Nat:=ops.flatMap fun o=>newIds o (o.dst.getD 999)
def lastOk (nt:Nat) (ops:List Oper) (o:Oper):Bool :=
  (match o.guard with | none=>true | some _=>false)&&(match o.dst with | some d=>Nat.blt d nt | none=>true) &&
  (List.range ops.length).all (fun i=>Nat.testBit (ancOf (ancs ops []) o) i)&&(o.after.toList.all fun e => !(Region.binds .any e)||Nat.blt e.on ops.length) &&
  (ops.zipIdx.all fun (p,j)=>match p.guard with | some (g,_)=>Nat.blt g j | none=>true)
structure Norm (U:Type) where
  casts:List (Nat×U)
  keep:List Nat
  ids:List Nat
  shares:List (Nat×U)
  cells:List (Nat×Nat×U×Nat)
  scells:List (Nat×Nat×U)
  bcells:List (Nat×Nat×U)
def AV.mv (id s:Nat):AV U El→AV U El
  | .ful i=>bif Nat.beq i id then .ful s else ((AV.ful i).kill id).kill s
  | .own i lo n=>bif Nat.beq i id then .own s lo n else ((AV.own i lo n).kill id).kill s
  | v=>(v.kill id).kill s
def tmove (id s:Nat):Tmps U El→Tmps U El
  | []=>[]
  | (j,v) :: t=>(j,v.mv id s) :: tmove id s t
def castRow (st : St U El) (s : Nat) (u : U) (k : St U El → Option (Fin U El)) : Option (Fin U El) :=
  match tget st.t s with
  | .nils=>let aA:=st.forget s; k ⟨(s,.ful s) :: aA.t,(s,.rows u []) :: aA.h⟩
  | .ful id => bif Nat.beq id s then k st else match hget st.h id with
    | some (.rows v xs)=>let aA:=(st.forget id).forget s; k ⟨(s,.ful s) :: tmove id s st.t,(s,.rows v xs) :: aA.h⟩
    | _=>none
  | .own id lo len => chk (Nat.beq lo 0 && nlt 0 len) (match hget st.h id with
    | some (.rows v xs)=>let aA:=(st.forget id).forget s; k ⟨(s,.ful s) :: aA.t,(s,.rows v (List.take len xs)) :: aA.h⟩
    | _=>none)
  | _=>none
def castCell (st : St U El) (b off : Nat) (u : U) (j : Nat) (k : St U El → Option (Fin U El)) : Option (Fin U El) :=
  match hget st.h b with
  | some (.box _ cs) => match cs[off]? with
    | some (.ful id)=>bif Nat.beq id j then k st else k ((st.forget j).rename id j)
    | some (.mp id)=>bif Nat.beq id j then k st else k ((st.forget j).rename id j)
    | some .nils => match hget (st.forget j).h b with
      | some (.box tg cs') => match cs'[off]? with
        | some .nils=>k ⟨(st.forget j).t,(j,.rows u []) :: hset (st.forget j).h b (.box tg (cs'.set off (.ful j)))⟩
        | _=>k st
      | _=>k st
    | _=>k st
  | _=>k st
def castCells (st:St U El):List (Nat×Nat×U×Nat)→(St U El→Option (Fin U El))→Option (Fin U El)
  | [],k=>k st
  | (b,off,u,j) :: l,k=>castCell st b off u j fun st'=>castCells st' l k
def shareCells (st:St U El):List (Nat×Nat×U)→(St U El→Option (Fin U El))→Option (Fin U El)
  | [],k=>k st
  | (s,off,u) :: l,k=>shareCell st s off u fun st'=>shareCells st' l k
def shareBox (st : St U El) (b off : Nat) (u : U) (k : St U El → Option (Fin U El)) : Option (Fin U El) :=
  match hget st.h b with
  | some (.box tg cs) => match cs[off]? with
    | some .nils=>k ⟨st.t,hset st.h b (.box tg (cs.set off (.lst u [])))⟩
    | some (.ful id) => match hget st.h id with
      | some (.rows v xs) => match hget (st.forget id).h b with
        | some (.box tg' cs')=>k ⟨(st.forget id).t,hset (st.forget id).h b (.box tg' (cs'.set off (.lst v xs)))⟩
        | _=>k st
      | _=>k st
    | _=>k st
  | _=>k st
def shareBoxes (st:St U El):List (Nat×Nat×U)→(St U El→Option (Fin U El))→Option (Fin U El)
  | [],k=>k st
  | (b,off,u) :: l,k=>shareBox st b off u fun st'=>shareBoxes st' l k
def shareAll (st:St U El):List (Nat×U)→(St U El→Option (Fin U El))→Option (Fin U El)
  | [],k=>k st
  | (s,u) :: cs,k=>shareRow st s u fun st'=>shareAll st' cs k
def castAll (st:St U El):List (Nat×U)→(St U El→Option (Fin U El))→Option (Fin U El)
  | [],k=>k st
  | (s,u) :: cs,k=>castRow st s u fun st'=>castAll st' cs k
def keepT (t:Tmps U El):List Nat→Tmps U El
  | []=>[]
  | s :: l=>(s,tget t s) :: keepT t l
def keepH (h : Heap U El) : List Nat → Heap U El
  | []=>[]
  | s :: l => match hget h s with
    | some b=>(s,b) :: keepH h l
    | none=>keepH h l
def normK (nm:Norm U) (st:St U El) (k:St U El→Option (Fin U El)):Option (Fin U El) :=
  castAll st nm.casts fun bA=>castCells bA nm.cells fun aA=>shareBoxes aA nm.bcells fun st3=>shareCells st3 nm.scells fun st2=>shareAll st2 nm.shares fun st'=>k ⟨keepT st'.t nm.keep,keepH st'.h nm.ids⟩
inductive Ann (U:Type):Type where
  | d
  | seq (j:Option (Norm U)) (a b:Ann U)
  | cond (a b:Ann U)
  | block (a:Ann U)
  | loop (j:Norm U) (a:Ann U)
  | region (ws:List (Nat×Nat))
  | regionL (ws:List (Nat×Nat))
  | regionA
def Ann.fst:Ann U→Ann U | .seq _ a _=>a | .cond a _=>a | .block a=>a | .loop _ a=>a | _ => .d
def Ann.ws:Ann U→List (Nat×Nat) | .region ws=>ws | .regionL ws=>ws | _=>[]
def Ann.isL:Ann U→Bool | .regionL _=>true | _=>false
def Ann.isA:Ann U→Bool | .regionA=>true | _=>false
def Ann.snd:Ann U→Ann U | .seq _ _ b=>b | .cond _ b=>b | _ => .d
def Ann.cut:Ann U→Option (Norm U) | .seq j _ _=>j | .loop j _=>some j | _=>none
abbrev Kont (U:Type) (El:U→Type):=St U El→Option (Fin U El)
def iter (nm:Norm U) (body:St U El→Kont U El→Option (Fin U El)):Nat→Kont U El
  | 0,_=>none
  | n+1,st=>body st fun st'=>normK nm st' (iter nm body n)
def iterU (body:St U El→Kont U El→Option (Fin U El)):Nat→Kont U El
  | 0,_=>none
  | n+1,st=>body st (iterU body n)
def cutK (nm:Norm U) (K:Kont U El):Kont U El:=fun st=>normK nm st K
def Eblk (id:Nat) (K:Kont U El) (E:Nat→Kont U El):Nat→Kont U El:=fun i st=>bif Nat.beq i id then K st else E i st
omit [DecidableEq U] in
theorem hid_ex:∃ f:Kont U El→Kont U El,∀ k,f k=k:=⟨id,fun _=>rfl⟩
noncomputable def hid:Kont U El→Kont U El:=Classical.choose hid_ex
omit [DecidableEq U] in
theorem hid_eq (k:Kont U El):hid k=k:=Classical.choose_spec hid_ex k
noncomputable def exec (X:Ctx U El):Code→Ann U→St U El→Kont U El→(Nat→Kont U El)→Kont U El→Option (Fin U El)
  | .skip,_,st,K,_,_=>K st
  | .region _ ops dr, n, st, K, _, _ =>
    bif dr then
      bif n.isA then chk (ops.toList.all fun o=>match o.dst with | some d=>Nat.blt d X.nt | none=>true) (anyOps X (ops.toList.map (·.dst)) ops.toList K ops.toList.length 0 st)
      else bif n.isL then
        (match ops.toList.getLast? with
         | some o=>bif drawOk X.nt ops.toList.dropLast n.ws&&lastOk X.nt ops.toList.dropLast o then
            (let os:=ops.toList.dropLast
             let bA:=st.forgets (drawIds os)
             drawOps X (os.map (·.dst)) (safeB (ancs os []) (evsOf os n.ws)) n.ws os 0 bA.t bA.h fun st'=>runOps X [] [o] st' K)
            else none
         | none=>none)
      else bif drawOk X.nt ops.toList n.ws then
        (let bA:=st.forgets (drawIds ops.toList)
         drawOps X (ops.toList.map (·.dst)) (safeB (ancs ops.toList []) (evsOf ops.toList n.ws)) n.ws ops.toList 0 bA.t bA.h K)
      else none
    else chk (ops.toList.all fun o=>match o.dst with | some d=>Nat.blt d X.nt | none=>true) (runOps X (ops.toList.map (·.dst)) ops.toList st K)
  | .seq a b,n,st,K,E,R=>exec X a n.fst st (match n.cut with
      | none=>fun st'=>exec X b n.snd st' K E R
      | some nm=>cutK nm (hid fun st'=>exec X b n.snd st' K E R)) E R
  | .cond c a b, n, st, K, E, R => match c with
    | .tmp g=>branch st.t g fun t bv=>bif bv then exec X a n.fst ⟨t,st.h⟩ K E R else exec X b n.snd ⟨t,st.h⟩ K E R
    | _=>none
  | .block id b, n, st, K, E, R => match X.frag id with
    | some f=>f st K
    | none=>exec X b n.fst st K (Eblk id K E) R
  | .loop b, n, st, _, E, R => match n.cut with
    | some nm=>normK nm st (hid (iter nm (fun st' K'=>exec X b n.fst st' K' E R) X.fuel))
    | none=>iterU (fun st' K'=>exec X b n.fst st' K' E R) 64 st
  | .exit id,_,st,_,E,_=>E id st
  | .ret,_,st,_,_,R=>R st
  | _,_,_,_,_,_=>none
def expIds:List Nat→Nat→List (Nat×Nat)
  | [],_=>[]
  | id :: l,n=>(id,n) :: expIds l (n+1)
def expAV (m : List (Nat × Nat)) : AV U El → Option (AV U El)
  | .ful id => match m.find? (fun p => Nat.beq p.1 id) with
    | some p=>some (.ful p.2)
    | none=>none
  | .agg cs=>bif cs.all AV.cell then some (.agg cs) else none
  | a=>bif a.cell then some a else none
def expL (m : List (Nat × Nat)) : List (AV U El) → Option (List (AV U El))
  | []=>some []
  | c :: cs => match expAV m c with
    | some d => match expL m cs with
      | some ds=>some (d :: ds)
      | none=>none
    | none=>none
def expH (h : Heap U El) : List (Nat × Nat) → Option (Heap U El)
  | []=>some []
  | (id, n) :: l => match hget h id with
    | some (.rows u xs) => match expH h l with
      | some r=>some ((n,.rows u xs) :: r)
      | none=>none
    | _=>none
def retFin (res ex:List Nat) (st:St U El):Option (Fin U El) :=
  match expL (expIds ex 0) (res.map (tget st.t)),expH st.h (expIds ex 0) with
  | some [v],some h=>some (v,h)
  | some vs,some h=>some (.tup vs,h)
  | _,_=>none
def args0:List (AV U El)→Nat→Tmps U El
  | [],_=>[]
  | a :: l,n=>(n,a) :: args0 l (n+1)
def loadRes (X : Ctx U El) (n0 : Nat) : List (Nat × TypeId) → Nat → St U El → (St U El → Option (Fin U El)) → Option (Fin U El)
  | [],_,st,k=>k st
  | (a, ty) :: l, p, st, k => match tdGet X.tds ty with
    | some td => match tdAgg td with
      | some (sz,ag)=>chk (Nat.blt a n0) (view X st.h (tget st.t a) fun cs off=>partOf cs off sz ag fun v=>loadRes X n0 l (p+1) ⟨(p,v) :: st.t,st.h⟩ k)
      | none=>none
    | none=>none
def rvOf (nt : Nat) (lds : List (Nat × TypeId)) (r : Nat) : ResultVar :=
  if r < nt then .tmp r else match lds[r - nt]? with
    | some p => .cell p.1 p.2
    | none => .tmp r
noncomputable def runFnC (X:Ctx U El) (body:Code) (n:Ann U) (nm:Norm U) (lds:List (Nat×TypeId)) (res ex:List Nat) (args:List (AV U El)):Option (Fin U El) :=
  exec X body n ⟨args0 args 0,[]⟩ (fun st=>loadRes X X.nt lds X.nt st fun st=>normK nm st (retFin res ex)) (fun _ _=>none) (fun st=>loadRes X X.nt lds X.nt st fun st=>normK nm st (retFin res ex))
noncomputable def runFn (X:Ctx U El) (body:Code) (n:Ann U) (nm:Norm U) (res ex:List Nat) (args:List (AV U El)):Option (Fin U El) :=
  exec X body n ⟨args0 args 0,[]⟩ (fun st=>normK nm st (retFin res ex)) (fun _ _=>none) (fun st=>normK nm st (retFin res ex))
end
end Go.Proofs.Ytkeplmpcijigaaa
