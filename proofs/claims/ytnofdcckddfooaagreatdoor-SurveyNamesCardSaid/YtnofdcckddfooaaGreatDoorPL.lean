/- Plain laws that the texts of chapters use: integers and lists as the abstract runs have them. -/
import Derived.Test.YtnofdcckddfooaaGreatDoorLF
import Derived.IntWalk
namespace Go.Proofs.YtnofdcckddfooaaGreatDoor
set_option linter.unusedVariables false
set_option linter.unusedSectionVars false
set_option linter.unusedSimpArgs false
theorem gN {x:Int} (h1 : -9223372036854775808≤x) (h2:x≤9223372036854775807):IntKind.wrap .i64 x=x:=IntWalk.i64_in _ ⟨h1,h2⟩
theorem aE {α:Type} {l:List α} {i:Nat} (h:i < l.length) (d:α):List.getD l i d=l[i]:=by simp [List.getD,List.getElem?_eq_getElem h]
theorem aw (n:Nat):Int.toNat (n:Int)=n:=rfl
theorem dM (n:Nat):Int.toNat (Int.ofNat n)=n:=rfl
theorem bF {i n:Nat} (h:i < n):inb (i:Int) n=true:=by
  simp only [inb,ile,ilt,Bool.and_eq_true,decide_eq_true_eq]; omega
theorem bW {a b:Int} (h:a < b):ilt a b=true:=decide_eq_true h
theorem bQ {a b:Int} (h:¬ a < b):ilt a b=false:=decide_eq_false h
theorem cI {a b:Int} (h:a≤b):ile a b=true:=decide_eq_true h
theorem pL {a b:Int} (h:¬ a≤b):ile a b=false:=decide_eq_false h
theorem cq {a b:Nat} (h:a≤b):nle a b=true:=decide_eq_true h
theorem en {a b:Nat} (h:a < b):nlt a b=true:=decide_eq_true h
theorem g9 {a b:Int} (h:ile a b=true):a≤b:=of_decide_eq_true h
theorem wn {a b:Int} (h:ilt a b=true):a < b:=of_decide_eq_true h
theorem uj {a b:Int} (h:ile a b=false):¬ a≤b:=of_decide_eq_false h
theorem ol {a b:Int} (h:ilt a b=false):¬ a < b:=of_decide_eq_false h
theorem hC {a b:Nat} (h:nle a b=true):a≤b:=of_decide_eq_true h
theorem bI {α:Type} {l:List α} {i:Nat} (h:i < l.length):l.drop i=l[i] :: l.drop (i+1):=List.drop_eq_getElem_cons h
theorem mZ {α:Type} {l:List α} {i:Nat} (h:i < l.length):l.take (i+1)=l.take i++[l[i]]:=by rw [List.take_add_one,List.getElem?_eq_getElem h]; rfl
theorem bw (i:Nat) (h:i≤1000000):IntKind.wrap .i64 ((i:Int)+1)=((i+1:Nat):Int):=by rw [gN (by omega) (by omega)]; omega
theorem sO {R:Type} (f:Bool→R) (a b:Bool):aa a (f b) (f false)=f (a&&b):=by cases a<;>rfl
theorem aL {R:Type} (x:Option R):chk true x=x:=rfl
theorem bx {R:Type} (x y:R):aa true x y=x:=rfl
theorem bq {R:Type} (x y:R):aa false x y=y:=rfl
noncomputable def orZ:List Int→Int
  | []=>0
  | x :: l=>bif x != 0 then x else orZ l
noncomputable def cC (a b:Int):Int:=bif ilt a b then -1 else bif ilt b a then 1 else 0
def sP {σ α R:Type} (body:σ→α→(σ→R)→R) (fin:σ→R):σ→List α→R
  | s,[]=>fin s
  | s,x :: l=>body s x fun s'=>sP body fin s' l
theorem uk {σ α R:Type} (l:List α) (hl:l.length≤1000000) (fn:Nat→σ→Int→R) (body:σ→α→(σ→R)→R) (fin:σ→R)
    (hstep:∀ (n:Nat) (s:σ) (i:Nat) (hi:i < l.length),fn (n+1) s (i:Int)=body s l[i] (fun s'=>fn n s' (IntKind.wrap .i64 ((i:Int)+1)))) (hend:∀ (n:Nat) (s:σ),fn (n+1) s (l.length:Int)=fin s) :
    ∀ (n i:Nat) (s:σ),l.length < n+i→i≤l.length→fn n s (i:Int)=sP body fin s (l.drop i):=by
  intro n
  induction n with
  | zero=>intro i s h1 h2; omega
  | succ n ih =>
    intro i s h1 h2
    by_cases hi:i < l.length
    · rw [hstep n s i hi, bI hi, bw i (by omega)]
      simp only [sP]
      congr 1
      funext s'
      exact ih (i+1) s' (by omega) hi
    · have : i = l.length := by omega
      subst this
      rw [hend,List.drop_length]
      rfl
def sQ {σ α R:Type} (body:σ→Nat→α→(σ→R)→R) (fin:σ→R):σ→Nat→List α→R
  | s,_,[]=>fin s
  | s,i,x :: l=>body s i x fun s'=>sQ body fin s' (i+1) l
theorem qK {σ α R:Type} (l:List α) (hl:l.length≤1000000) (fn:Nat→σ→Int→R) (body:σ→Nat→α→(σ→R)→R) (fin:σ→R)
    (hstep:∀ (n:Nat) (s:σ) (i:Nat) (hi:i < l.length),fn (n+1) s (i:Int)=body s i l[i] (fun s'=>fn n s' (IntKind.wrap .i64 ((i:Int)+1)))) (hend:∀ (n:Nat) (s:σ),fn (n+1) s (l.length:Int)=fin s) :
    ∀ (n i:Nat) (s:σ),l.length < n+i→i≤l.length→fn n s (i:Int)=sQ body fin s i (l.drop i):=by
  intro n
  induction n with
  | zero=>intro i s h1 h2; omega
  | succ n ih =>
    intro i s h1 h2
    by_cases hi:i < l.length
    · rw [hstep n s i hi, bI hi, bw i (by omega)]
      simp only [sQ]
      congr 1
      funext s'
      exact ih (i+1) s' (by omega) hi
    · have : i = l.length := by omega
      subst this
      rw [hend,List.drop_length]
      rfl
def e6 {α:Type} (p:α→Bool):Nat→List α→Int
  | _,[] => -1
  | i,x :: l=>bif p x then (i:Int) else e6 p (i+1) l
theorem md {α R:Type} (p:α→Bool) (f:Int→R):∀ (l:List α) (i:Nat),sQ (σ:=Unit) (fun _ i x k=>aa (p x) (f (i:Int)) (k ())) (fun _=>f (-1)) () i l=f (e6 p i l):=by
  intro l
  induction l with
  | nil=>intro i; rfl
  | cons x l ih =>
    intro i
    simp only [sQ,e6]
    cases p x
    · exact ih (i+1)
    · rfl
theorem me {α:Type} (p:α→Bool):∀ (l:List α) (i:Nat),ile 0 (e6 p i l)=l.any p:=by
  intro l
  induction l with
  | nil=>intro i; rfl
  | cons x l ih =>
    intro i
    simp only [e6,List.any_cons]
    cases p x
    · exact ih (i+1)
    · exact cI (by simp)
end Go.Proofs.YtnofdcckddfooaaGreatDoor
