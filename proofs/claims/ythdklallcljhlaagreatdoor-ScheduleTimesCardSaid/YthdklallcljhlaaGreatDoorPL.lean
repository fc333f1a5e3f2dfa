/- Plain laws that the texts of chapters use: integers and lists as the abstract runs have them. -/
import Derived.Test.YthdklallcljhlaaGreatDoorLF
import Derived.IntWalk
namespace Go.Proofs.YthdklallcljhlaaGreatDoor
set_option linter.unusedVariables false
set_option linter.unusedSectionVars false
set_option linter.unusedSimpArgs false
theorem dD {x:Int} (h1 : -9223372036854775808≤x) (h2:x≤9223372036854775807):IntKind.wrap .i64 x=x:=IntWalk.i64_in _ ⟨h1,h2⟩
theorem az {α:Type} {l:List α} {i:Nat} (h:i < l.length) (d:α):List.getD l i d=l[i]:=by simp [List.getD,List.getElem?_eq_getElem h]
theorem ar (n:Nat):Int.toNat (n:Int)=n:=rfl
theorem hI (n:Nat):Int.toNat (Int.ofNat n)=n:=rfl
theorem bD {i n:Nat} (h:i < n):inb (i:Int) n=true:=by
  simp only [inb,ile,ilt,Bool.and_eq_true,decide_eq_true_eq]; omega
theorem sP {n:Nat} (h:0 < n):inb (0:Int) n=true:=bD (i:=0) h
theorem ci {a b:Int} (h:a < b):ilt a b=true:=decide_eq_true h
theorem bZ {a b:Int} (h:¬ a < b):ilt a b=false:=decide_eq_false h
theorem ez {a b:Int} (h:a≤b):ile a b=true:=decide_eq_true h
theorem kV {a b:Int} (h:¬ a≤b):ile a b=false:=decide_eq_false h
theorem b7 {a b:Nat} (h:a≤b):nle a b=true:=decide_eq_true h
theorem ra {a b:Nat} (h:a < b):nlt a b=true:=decide_eq_true h
theorem gQ {a b:Int} (h:ile a b=true):a≤b:=of_decide_eq_true h
theorem np {a b:Int} (h:ilt a b=true):a < b:=of_decide_eq_true h
theorem sQ {a b:Int} (h:ile a b=false):¬ a≤b:=of_decide_eq_false h
theorem jX {a b:Int} (h:ilt a b=false):¬ a < b:=of_decide_eq_false h
theorem du {a b:Nat} (h:nle a b=true):a≤b:=of_decide_eq_true h
theorem bR {α:Type} {l:List α} {i:Nat} (h:i < l.length):l.drop i=l[i] :: l.drop (i+1):=List.drop_eq_getElem_cons h
theorem cl (i:Nat) (h:i≤1000000):IntKind.wrap .i64 ((i:Int)+1)=((i+1:Nat):Int):=by rw [dD (by omega) (by omega)]; omega
theorem su (m:Nat) (h0:1≤m) (h:m≤1000000):IntKind.wrap .i64 ((m:Int) - 1)=((m - 1:Nat):Int):=by rw [dD (by omega) (by omega)]; omega
theorem pX {R:Type} (f:Bool→R) (a b:Bool):aj a (f b) (f false)=f (a&&b):=by cases a<;>rfl
theorem cOr {R:Type} (f:Bool→R) (a b:Bool):aj a (f true) (f b)=f (a||b):=by cases a<;>rfl
theorem b8 {R:Type} (x:Option R):chk true x=x:=rfl
theorem cK {R:Type} (x y:R):aj true x y=x:=rfl
theorem dq {R:Type} (x y:R):aj false x y=y:=rfl
noncomputable def cj (a b:Int):Int:=bif ilt a b then -1 else bif ilt b a then 1 else 0
def pY {σ α R:Type} (body:σ→Nat→α→(σ→R)→R) (fin:σ→R):σ→Nat→List α→R
  | s,_,[]=>fin s
  | s,i,x :: l=>body s i x fun s'=>pY body fin s' (i+1) l
theorem gg {σ α R:Type} (l:List α) (hl:l.length≤1000000) (fn:Nat→σ→Int→R) (body:σ→Nat→α→(σ→R)→R) (fin:σ→R)
    (hstep:∀ (n:Nat) (s:σ) (i:Nat) (hi:i < l.length),fn (n+1) s (i:Int)=body s i l[i] (fun s'=>fn n s' (IntKind.wrap .i64 ((i:Int)+1)))) (hend:∀ (n:Nat) (s:σ),fn (n+1) s (l.length:Int)=fin s) :
    ∀ (n i:Nat) (s:σ),l.length < n+i→i≤l.length→fn n s (i:Int)=pY body fin s i (l.drop i):=by
  intro n
  induction n with
  | zero=>intro i s h1 h2; omega
  | succ n ih =>
    intro i s h1 h2
    by_cases hi:i < l.length
    · rw [hstep n s i hi, bR hi, cl i (by omega)]
      simp only [pY]
      congr 1
      funext s'
      exact ih (i+1) s' (by omega) hi
    · have : i = l.length := by omega
      subst this
      rw [hend,List.drop_length]
      rfl
def aZ {α:Type} (p:α→Bool):Nat→List α→Int
  | _,[] => -1
  | i,x :: l=>bif p x then (i:Int) else aZ p (i+1) l
theorem dU {α R:Type} (p:α→Bool) (f:Int→R):∀ (l:List α) (i:Nat),pY (σ:=Unit) (fun _ i x k=>aj (p x) (f (i:Int)) (k ())) (fun _=>f (-1)) () i l=f (aZ p i l):=by
  intro l
  induction l with
  | nil=>intro i; rfl
  | cons x l ih =>
    intro i
    simp only [pY,aZ]
    cases p x
    · exact ih (i+1)
    · rfl
theorem dV {α:Type} (p:α→Bool):∀ (l:List α) (i:Nat),ile 0 (aZ p i l)=l.any p:=by
  intro l
  induction l with
  | nil=>intro i; rfl
  | cons x l ih =>
    intro i
    simp only [aZ,List.any_cons]
    cases p x
    · exact ih (i+1)
    · exact ez (by simp)
end Go.Proofs.YthdklallcljhlaaGreatDoor
