/- Plain laws that the texts of chapters use: integers and lists as the abstract runs have them. -/
import Derived.Test.YthdklallcljhlaaLF
import Derived.IntWalk
namespace Go.Proofs.Ythdklallcljhlaa
set_option linter.unusedVariables false
set_option linter.unusedSectionVars false
set_option linter.unusedSimpArgs false
theorem bU {x:Int} (h1 : -9223372036854775808≤x) (h2:x≤9223372036854775807):IntKind.wrap .i64 x=x:=IntWalk.i64_in _ ⟨h1,h2⟩
theorem al {α:Type} {l:List α} {i:Nat} (h:i < l.length) (d:α):List.getD l i d=l[i]:=by simp [List.getD,List.getElem?_eq_getElem h]
theorem ac (n:Nat):Int.toNat (n:Int)=n:=rfl
theorem aZ {i n:Nat} (h:i < n):inb (i:Int) n=true:=by
  simp only [inb,ile,ilt,Bool.and_eq_true,decide_eq_true_eq]; omega
theorem qV {n:Nat} (h:0 < n):inb (0:Int) n=true:=aZ (i:=0) h
theorem bw {a b:Int} (h:a < b):ilt a b=true:=decide_eq_true h
theorem bp {a b:Int} (h:¬ a < b):ilt a b=false:=decide_eq_false h
theorem bD {a b:Int} (h:a≤b):ile a b=true:=decide_eq_true h
theorem gC {a b:Int} (h:¬ a≤b):ile a b=false:=decide_eq_false h
theorem bC {a b:Nat} (h:a≤b):nle a b=true:=decide_eq_true h
theorem eb {a b:Nat} (h:a < b):nlt a b=true:=decide_eq_true h
theorem b7 {a b:Int} (h:ile a b=true):a≤b:=of_decide_eq_true h
theorem dJ {a b:Int} (h:ilt a b=true):a < b:=of_decide_eq_true h
theorem qW {a b:Int} (h:ile a b=false):¬ a≤b:=of_decide_eq_false h
theorem iI {a b:Int} (h:ilt a b=false):¬ a < b:=of_decide_eq_false h
theorem cn {a b:Nat} (h:nle a b=true):a≤b:=of_decide_eq_true h
theorem bl {α:Type} {l:List α} {i:Nat} (h:i < l.length):l.drop i=l[i] :: l.drop (i+1):=List.drop_eq_getElem_cons h
theorem bo (i:Nat) (h:i≤1000000):IntKind.wrap .i64 ((i:Int)+1)=((i+1:Nat):Int):=by rw [bU (by omega) (by omega)]; omega
theorem kV {R:Type} (f:Bool→R) (a b:Bool):ah a (f b) (f false)=f (a&&b):=by cases a<;>rfl
theorem cOr {R:Type} (f:Bool→R) (a b:Bool):ah a (f true) (f b)=f (a||b):=by cases a<;>rfl
theorem cS {R:Type} (x:Option R):chk true x=x:=rfl
theorem cH {R:Type} (x y:R):ah true x y=x:=rfl
theorem bV {R:Type} (x y:R):ah false x y=y:=rfl
noncomputable def sx (a b:Int):Int:=bif ilt a b then -1 else bif ilt b a then 1 else 0
def pX {σ α R:Type} (body:σ→Nat→α→(σ→R)→R) (fin:σ→R):σ→Nat→List α→R
  | s,_,[]=>fin s
  | s,i,x :: l=>body s i x fun s'=>pX body fin s' (i+1) l
theorem nR {σ α R:Type} (l:List α) (hl:l.length≤1000000) (fn:Nat→σ→Int→R) (body:σ→Nat→α→(σ→R)→R) (fin:σ→R)
    (hstep:∀ (n:Nat) (s:σ) (i:Nat) (hi:i < l.length),fn (n+1) s (i:Int)=body s i l[i] (fun s'=>fn n s' (IntKind.wrap .i64 ((i:Int)+1)))) (hend:∀ (n:Nat) (s:σ),fn (n+1) s (l.length:Int)=fin s) :
    ∀ (n i:Nat) (s:σ),l.length < n+i→i≤l.length→fn n s (i:Int)=pX body fin s i (l.drop i):=by
  intro n
  induction n with
  | zero=>intro i s h1 h2; omega
  | succ n ih =>
    intro i s h1 h2
    by_cases hi:i < l.length
    · rw [hstep n s i hi, bl hi, bo i (by omega)]
      simp only [pX]
      congr 1
      funext s'
      exact ih (i+1) s' (by omega) hi
    · have : i = l.length := by omega
      subst this
      rw [hend,List.drop_length]
      rfl
def bW {α:Type} (p:α→Bool):Nat→List α→Int
  | _,[] => -1
  | i,x :: l=>bif p x then (i:Int) else bW p (i+1) l
theorem kp {α R:Type} (p:α→Bool) (f:Int→R):∀ (l:List α) (i:Nat),pX (σ:=Unit) (fun _ i x k=>ah (p x) (f (i:Int)) (k ())) (fun _=>f (-1)) () i l=f (bW p i l):=by
  intro l
  induction l with
  | nil=>intro i; rfl
  | cons x l ih =>
    intro i
    simp only [pX,bW]
    cases p x
    · exact ih (i+1)
    · rfl
theorem fB {α:Type} (p:α→Bool):∀ (l:List α) (i:Nat),ile 0 (bW p i l)=l.any p:=by
  intro l
  induction l with
  | nil=>intro i; rfl
  | cons x l ih =>
    intro i
    simp only [bW,List.any_cons]
    cases p x
    · exact ih (i+1)
    · exact bD (by simp)
end Go.Proofs.Ythdklallcljhlaa
