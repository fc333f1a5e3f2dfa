/- Plain laws that the texts of chapters use: integers and lists as the abstract runs have them. -/
import Derived.Test.YtnhmhcobpbilhaaGreatDoorLA
import Derived.IntWalk
namespace Go.Proofs.YtnhmhcobpbilhaaGreatDoor
set_option linter.unusedVariables false
set_option linter.unusedSectionVars false
set_option linter.unusedSimpArgs false
theorem wrapI {x:Int} (h1 : -9223372036854775808≤x) (h2:x≤9223372036854775807):IntKind.wrap .i64 x=x:=IntWalk.i64_in _ ⟨h1,h2⟩
theorem getD_lt {α:Type} {l:List α} {i:Nat} (h:i < l.length) (d:α):List.getD l i d=l[i]:=by simp [List.getD,List.getElem?_eq_getElem h]
theorem toNat_nat (n:Nat):Int.toNat (n:Int)=n:=rfl
theorem inbT {i n:Nat} (h:i < n):inb (i:Int) n=true:=by
  simp only [inb,ile,ilt,Bool.and_eq_true,decide_eq_true_eq]; omega
theorem inb0 {n:Nat} (h:0 < n):inb (0:Int) n=true:=inbT (i:=0) h
theorem iltT {a b:Int} (h:a < b):ilt a b=true:=decide_eq_true h
theorem iltF {a b:Int} (h:¬ a < b):ilt a b=false:=decide_eq_false h
theorem ileT {a b:Int} (h:a≤b):ile a b=true:=decide_eq_true h
theorem ileF {a b:Int} (h:¬ a≤b):ile a b=false:=decide_eq_false h
theorem nleT {a b:Nat} (h:a≤b):nle a b=true:=decide_eq_true h
theorem nltT {a b:Nat} (h:a < b):nlt a b=true:=decide_eq_true h
theorem ileI {a b:Int} (h:ile a b=true):a≤b:=of_decide_eq_true h
theorem iltI {a b:Int} (h:ilt a b=true):a < b:=of_decide_eq_true h
theorem iltN {a b:Int} (h:ilt a b=false):¬ a < b:=of_decide_eq_false h
theorem nleI {a b:Nat} (h:nle a b=true):a≤b:=of_decide_eq_true h
theorem drop_lt {α:Type} {l:List α} {i:Nat} (h:i < l.length):l.drop i=l[i] :: l.drop (i+1):=List.drop_eq_getElem_cons h
theorem wrapS (i:Nat) (h:i≤1000000):IntKind.wrap .i64 ((i:Int)+1)=((i+1:Nat):Int):=by rw [wrapI (by omega) (by omega)]; omega
theorem cAnd {R:Type} (f:Bool→R) (a b:Bool):condB a (f b) (f false)=f (a&&b):=by cases a<;>rfl
theorem chkT {R:Type} (x:Option R):chk true x=x:=rfl
theorem condT {R:Type} (x y:R):condB true x y=x:=rfl
theorem condF {R:Type} (x y:R):condB false x y=y:=rfl
noncomputable def orZ:List Int→Int
  | []=>0
  | x :: l=>bif x != 0 then x else orZ l
noncomputable def cmpZ (a b:Int):Int:=bif ilt a b then -1 else bif ilt b a then 1 else 0
noncomputable def cmpS (a b:List UInt8):Int:=bif slt a b then -1 else bif !(slt a b||(a == b)) then 1 else 0
theorem slt_irrefl (l:List UInt8):slt l l=false:=by
  unfold slt
  induction l with
  | nil=>rfl
  | cons x l ih=>simp [Op.bytesLess,ih]
end Go.Proofs.YtnhmhcobpbilhaaGreatDoor
