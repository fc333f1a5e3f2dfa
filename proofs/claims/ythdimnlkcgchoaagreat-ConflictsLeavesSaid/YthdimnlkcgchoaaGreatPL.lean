/- Plain laws that the texts of chapters use: integers and lists as the abstract runs have them. -/
import Derived.Test.YthdimnlkcgchoaaGreatLF
import Derived.IntWalk
namespace Go.Proofs.YthdimnlkcgchoaaGreat
set_option linter.unusedVariables false
set_option linter.unusedSectionVars false
set_option linter.unusedSimpArgs false
theorem eF {x:Int} (h1 : -9223372036854775808≤x) (h2:x≤9223372036854775807):IntKind.wrap .i64 x=x:=IntWalk.i64_in _ ⟨h1,h2⟩
theorem ar {α:Type} {l:List α} {i:Nat} (h:i < l.length) (d:α):List.getD l i d=l[i]:=by simp [List.getD,List.getElem?_eq_getElem h]
theorem ak (n:Nat):Int.toNat (n:Int)=n:=rfl
theorem cR (n:Nat):Int.toNat (Int.ofNat n)=n:=rfl
theorem aW {i n:Nat} (h:i < n):inb (i:Int) n=true:=by
  simp only [inb,ile,ilt,Bool.and_eq_true,decide_eq_true_eq]; omega
theorem qS {n:Nat} (h:0 < n):inb (0:Int) n=true:=aW (i:=0) h
theorem aX {a b:Int} (h:a < b):ilt a b=true:=decide_eq_true h
theorem aR {a b:Int} (h:¬ a < b):ilt a b=false:=decide_eq_false h
theorem b7 {a b:Int} (h:a≤b):ile a b=true:=decide_eq_true h
theorem qT {a b:Int} (h:¬ a≤b):ile a b=false:=decide_eq_false h
theorem bE {a b:Nat} (h:a≤b):nle a b=true:=decide_eq_true h
theorem df {a b:Nat} (h:a < b):nlt a b=true:=decide_eq_true h
theorem oi {a b:Nat} (h:¬ a < b):nlt a b=false:=decide_eq_false h
theorem gJ {a b:Int} (h:ile a b=true):a≤b:=of_decide_eq_true h
theorem sO {a b:Int} (h:ilt a b=true):a < b:=of_decide_eq_true h
theorem sP {a b:Int} (h:ile a b=false):¬ a≤b:=of_decide_eq_false h
theorem iw {a b:Int} (h:ilt a b=false):¬ a < b:=of_decide_eq_false h
theorem bQ {a b:Nat} (h:nle a b=true):a≤b:=of_decide_eq_true h
theorem bc {α:Type} {l:List α} {i:Nat} (h:i < l.length):l.drop i=l[i] :: l.drop (i+1):=List.drop_eq_getElem_cons h
theorem dN {α:Type} {l:List α} {i:Nat} (h:i < l.length):l.take (i+1)=l.take i++[l[i]]:=by rw [List.take_add_one,List.getElem?_eq_getElem h]; rfl
theorem bD (i:Nat) (h:i≤1000000):IntKind.wrap .i64 ((i:Int)+1)=((i+1:Nat):Int):=by rw [eF (by omega) (by omega)]; omega
theorem o9 (m:Nat) (h0:1≤m) (h:m≤1000000):IntKind.wrap .i64 ((m:Int) - 1)=((m - 1:Nat):Int):=by rw [eF (by omega) (by omega)]; omega
theorem cQ {R:Type} (f:Bool→R) (a b:Bool):aa a (f b) (f false)=f (a&&b):=by cases a<;>rfl
theorem cOr {R:Type} (f:Bool→R) (a b:Bool):aa a (f true) (f b)=f (a||b):=by cases a<;>rfl
theorem bL {R:Type} (x:Option R):chk true x=x:=rfl
theorem bG {R:Type} (x y:R):aa true x y=x:=rfl
theorem cO {R:Type} (x y:R):aa false x y=y:=rfl
def l7 {σ α R:Type} (body:σ→Nat→α→(σ→R)→R) (fin:σ→R):σ→Nat→List α→R
  | s,_,[]=>fin s
  | s,i,x :: l=>body s i x fun s'=>l7 body fin s' (i+1) l
theorem bu {σ α R:Type} (l:List α) (hl:l.length≤1000000) (fn:Nat→σ→Int→R) (body:σ→Nat→α→(σ→R)→R) (fin:σ→R)
    (hstep:∀ (n:Nat) (s:σ) (i:Nat) (hi:i < l.length),fn (n+1) s (i:Int)=body s i l[i] (fun s'=>fn n s' (IntKind.wrap .i64 ((i:Int)+1)))) (hend:∀ (n:Nat) (s:σ),fn (n+1) s (l.length:Int)=fin s) :
    ∀ (n i:Nat) (s:σ),l.length < n+i→i≤l.length→fn n s (i:Int)=l7 body fin s i (l.drop i):=by
  intro n
  induction n with
  | zero=>intro i s h1 h2; omega
  | succ n ih =>
    intro i s h1 h2
    by_cases hi:i < l.length
    · rw [hstep n s i hi, bc hi, bD i (by omega)]
      simp only [l7]
      congr 1
      funext s'
      exact ih (i+1) s' (by omega) hi
    · have : i = l.length := by omega
      subst this
      rw [hend,List.drop_length]
      rfl
def aN {α:Type} (p:α→Bool):Nat→List α→Int
  | _,[] => -1
  | i,x :: l=>bif p x then (i:Int) else aN p (i+1) l
theorem bM {α R:Type} (p:α→Bool) (f:Int→R):∀ (l:List α) (i:Nat),l7 (σ:=Unit) (fun _ i x k=>aa (p x) (f (i:Int)) (k ())) (fun _=>f (-1)) () i l=f (aN p i l):=by
  intro l
  induction l with
  | nil=>intro i; rfl
  | cons x l ih =>
    intro i
    simp only [l7,aN]
    cases p x
    · exact ih (i+1)
    · rfl
theorem b8 {α:Type} (p:α→Bool):∀ (l:List α) (i:Nat),ile 0 (aN p i l)=l.any p:=by
  intro l
  induction l with
  | nil=>intro i; rfl
  | cons x l ih =>
    intro i
    simp only [aN,List.any_cons]
    cases p x
    · exact ih (i+1)
    · exact b7 (by simp)
theorem fP {α:Type} (p:α→Bool):∀ (l:List α) (i:Nat),aN p i l = -1∨(i:Int)≤aN p i l∧aN p i l < (i+l.length:Nat):=by
  intro l
  induction l with
  | nil=>intro i; exact .inl rfl
  | cons x l ih =>
    intro i
    simp only [aN,List.length_cons]
    cases p x
    · rcases ih (i + 1) with h | h
      · exact .inl h
      · exact .inr (by simp only [cond_false]; omega)
    · exact .inr (by simp only [cond_true]; omega)
end Go.Proofs.YthdimnlkcgchoaaGreat
