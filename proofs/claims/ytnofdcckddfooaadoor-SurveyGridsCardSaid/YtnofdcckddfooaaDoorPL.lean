/- Plain laws that the texts of chapters use: integers and lists as the abstract runs have them. -/
import Derived.Test.YtnofdcckddfooaaDoorLA
import Derived.IntWalk
namespace Go.Proofs.YtnofdcckddfooaaDoor
set_option linter.unusedVariables false
set_option linter.unusedSectionVars false
set_option linter.unusedSimpArgs false
theorem d8 {x:Int} (h1 : -9223372036854775808≤x) (h2:x≤9223372036854775807):IntKind.wrap .i64 x=x:=IntWalk.i64_in _ ⟨h1,h2⟩
theorem dR {α:Type} {l:List α} {i:Nat} (h:i < l.length) (d:α):List.getD l i d=l[i]:=by simp [List.getD,List.getElem?_eq_getElem h]
theorem cN (n:Nat):Int.toNat (n:Int)=n:=rfl
theorem kU {i n:Nat} (h:i < n):inb (i:Int) n=true:=by
  simp only [inb,ile,ilt,Bool.and_eq_true,decide_eq_true_eq]; omega
theorem bG {a b:Int} (h:a < b):ilt a b=true:=decide_eq_true h
theorem aP {a b:Int} (h:¬ a < b):ilt a b=false:=decide_eq_false h
theorem jY {a b:Int} (h:a≤b):ile a b=true:=decide_eq_true h
theorem o8 {a b:Int} (h:¬ a≤b):ile a b=false:=decide_eq_false h
theorem jZ {a b:Nat} (h:a≤b):nle a b=true:=decide_eq_true h
theorem hY {a b:Int} (h:ile a b=true):a≤b:=of_decide_eq_true h
theorem oT {a b:Int} (h:ilt a b=false):¬ a < b:=of_decide_eq_false h
theorem kV {a b:Nat} (h:nle a b=true):a≤b:=of_decide_eq_true h
theorem c9 {α:Type} {l:List α} {i:Nat} (h:i < l.length):l.drop i=l[i] :: l.drop (i+1):=List.drop_eq_getElem_cons h
theorem n6 {α:Type} {l:List α} {i:Nat} (h:i < l.length):l.take (i+1)=l.take i++[l[i]]:=by rw [List.take_add_one,List.getElem?_eq_getElem h]; rfl
theorem d9 (i:Nat) (h:i≤1000000):IntKind.wrap .i64 ((i:Int)+1)=((i+1:Nat):Int):=by rw [d8 (by omega) (by omega)]; omega
theorem pj {R:Type} (f:Bool→R) (a b:Bool):aw a (f b) (f false)=f (a&&b):=by cases a<;>rfl
theorem cOr {R:Type} (f:Bool→R) (a b:Bool):aw a (f true) (f b)=f (a||b):=by cases a<;>rfl
theorem dV {R:Type} (x:Option R):chk true x=x:=rfl
theorem cO {R:Type} (x y:R):aw true x y=x:=rfl
theorem fF {R:Type} (x y:R):aw false x y=y:=rfl
def nf {σ α R:Type} (body:σ→Nat→α→(σ→R)→R) (fin:σ→R):σ→Nat→List α→R
  | s,_,[]=>fin s
  | s,i,x :: l=>body s i x fun s'=>nf body fin s' (i+1) l
theorem n7 {σ α R:Type} (l:List α) (hl:l.length≤1000000) (fn:Nat→σ→Int→R) (body:σ→Nat→α→(σ→R)→R) (fin:σ→R)
    (hstep:∀ (n:Nat) (s:σ) (i:Nat) (hi:i < l.length),fn (n+1) s (i:Int)=body s i l[i] (fun s'=>fn n s' (IntKind.wrap .i64 ((i:Int)+1)))) (hend:∀ (n:Nat) (s:σ),fn (n+1) s (l.length:Int)=fin s) :
    ∀ (n i:Nat) (s:σ),l.length < n+i→i≤l.length→fn n s (i:Int)=nf body fin s i (l.drop i):=by
  intro n
  induction n with
  | zero=>intro i s h1 h2; omega
  | succ n ih =>
    intro i s h1 h2
    by_cases hi:i < l.length
    · rw [hstep n s i hi, c9 hi, d9 i (by omega)]
      simp only [nf]
      congr 1
      funext s'
      exact ih (i+1) s' (by omega) hi
    · have : i = l.length := by omega
      subst this
      rw [hend,List.drop_length]
      rfl
def eU {α:Type} (p:α→Bool):Nat→List α→Int
  | _,[] => -1
  | i,x :: l=>bif p x then (i:Int) else eU p (i+1) l
theorem mi {α R:Type} (p:α→Bool) (f:Int→R):∀ (l:List α) (i:Nat),nf (σ:=Unit) (fun _ i x k=>aw (p x) (f (i:Int)) (k ())) (fun _=>f (-1)) () i l=f (eU p i l):=by
  intro l
  induction l with
  | nil=>intro i; rfl
  | cons x l ih =>
    intro i
    simp only [nf,eU]
    cases p x
    · exact ih (i+1)
    · rfl
theorem mj {α:Type} (p:α→Bool):∀ (l:List α) (i:Nat),ile 0 (eU p i l)=l.any p:=by
  intro l
  induction l with
  | nil=>intro i; rfl
  | cons x l ih =>
    intro i
    simp only [eU,List.any_cons]
    cases p x
    · exact ih (i+1)
    · exact jY (by simp)
end Go.Proofs.YtnofdcckddfooaaDoor
