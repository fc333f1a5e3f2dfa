import Derived.Test.YtlkfbblapimhoaaGreatDoorLA
import Derived.IntWalk
namespace Go.Proofs.YtlkfbblapimhoaaGreatDoor
set_option linter.all false
theorem wrapI {x:Int} (h1:-9223372036854775808≤x) (h2:x≤9223372036854775807):IntKind.wrap .i64 x=x:=IntWalk.i64_in _ ⟨h1,h2⟩
theorem getD_lt {α:Type} {l:List α} {i:Nat} (h:i < l.length) (d:α):List.getD l i d=l[i]:=by simp [List.getD,List.getElem?_eq_getElem h]
theorem toNat_nat (n:Nat):Int.toNat (n:Int)=n:=rfl
theorem inbT {i n:Nat} (h:i < n):inb (i:Int) n=true:=by
 simp only [inb,ile,ilt,Bool.and_eq_true,decide_eq_true_eq]; omega
theorem inb0 {n:Nat} (h:0 < n):inb (0:Int) n=true:=inbT (i:=0) h
theorem iltT {a b:Int} (h:a < b):ilt a b=true:=decide_eq_true h
theorem iltF {a b:Int} (h:¬ a < b):ilt a b=false:=decide_eq_false h
theorem ileT {a b:Int} (h:a≤b):ile a b=true:=decide_eq_true h
theorem ileF {a b:Int} (h:¬ a≤b):ile a b=false:=decide_eq_false h
theorem nleT {a b:Nat} (h:a≤b):nle a b=true:=decide_eq_true h
theorem nltT {a b:Nat} (h:a < b):nlt a b=true:=decide_eq_true h
theorem ileI {a b:Int} (h:ile a b=true):a≤b:=of_decide_eq_true h
theorem iltI {a b:Int} (h:ilt a b=true):a < b:=of_decide_eq_true h
theorem iltN {a b:Int} (h:ilt a b=false):¬ a < b:=of_decide_eq_false h
theorem nleI {a b:Nat} (h:nle a b=true):a≤b:=of_decide_eq_true h
theorem drop_lt {α:Type} {l:List α} {i:Nat} (h:i < l.length):l.drop i=l[i] :: l.drop (i+1):=List.drop_eq_getElem_cons h
theorem take_lt {α:Type} {l:List α} {i:Nat} (h:i < l.length):l.take (i+1)=l.take i++[l[i]]:=by rw [List.take_add_one,List.getElem?_eq_getElem h]; rfl
theorem wrapS (i:Nat) (h:i≤1000000):IntKind.wrap .i64 ((i:Int)+1)=((i+1:Nat):Int):=by rw [wrapI (by omega) (by omega)]; omega
theorem cAnd {R:Type} (f:Bool→R) (a b:Bool):condB a (f b) (f false)=f (a&&b):=by cases a<;>rfl
theorem chkT {R:Type} (x:Option R):chk true x=x:=rfl
theorem condT {R:Type} (x y:R):condB true x y=x:=rfl
theorem condF {R:Type} (x y:R):condB false x y=y:=rfl
def grun {σ α R:Type} (body:σ→Nat→α→(σ→R)→R) (fin:σ→R):σ→Nat→List α→R
 | s,_,[]=>fin s
 | s,i,x :: l=>body s i x fun s'=>grun body fin s' (i+1) l
theorem grun_eq {σ α R:Type} (l:List α) (hl:l.length≤1000000) (fn:Nat→σ→Int→R) (body:σ→Nat→α→(σ→R)→R) (fin:σ→R)
    (hstep:∀ (n:Nat) (s:σ) (i:Nat) (hi:i < l.length),fn (n+1) s (i:Int)=body s i l[i] (fun s'=>fn n s' (IntKind.wrap .i64 ((i:Int)+1)))) (hend:∀ (n:Nat) (s:σ),fn (n+1) s (l.length:Int)=fin s) :
    ∀ (n i:Nat) (s:σ),l.length < n+i→i≤l.length→fn n s (i:Int)=grun body fin s i (l.drop i):=by
  intro n
  induction n with
  | zero=>intro i s h1 h2; omega
  | succ n ih =>
    intro i s h1 h2
    by_cases hi:i < l.length
    · rw [hstep n s i hi, drop_lt hi, wrapS i (by omega)]
      simp only [grun]
      congr 1
      funext s'
      exact ih (i+1) s' (by omega) hi
    · have : i = l.length := by omega
      subst this
      rw [hend,List.drop_length]
      rfl
def findZ {α:Type} (p:α→Bool):Nat→List α→Int
 | _,[]=>-1
 | i,x :: l=>bif p x then (i:Int) else findZ p (i+1) l
theorem grun_find {α R:Type} (p:α→Bool) (f:Int→R):∀ (l:List α) (i:Nat),grun (σ:=Unit) (fun _ i x k=>condB (p x) (f (i:Int)) (k ())) (fun _=>f (-1)) () i l=f (findZ p i l):=by
  intro l
  induction l with
  | nil=>intro i; rfl
  | cons x l ih =>
    intro i
    simp only [grun,findZ]
    cases p x
    · exact ih (i+1)
    · rfl
theorem findZ_any {α:Type} (p:α→Bool):∀ (l:List α) (i:Nat),ile 0 (findZ p i l)=l.any p:=by
  intro l
  induction l with
  | nil=>intro i; rfl
  | cons x l ih =>
    intro i
    simp only [findZ,List.any_cons]
    cases p x
    · exact ih (i+1)
    · exact ileT (by simp)
end Go.Proofs.YtlkfbblapimhoaaGreatDoor
