import Derived.Test.YthdimnlkcgchoaaGreatV
import Derived.Test.YthdimnlkcgchoaaGreatPL
namespace Go.Proofs.YthdimnlkcgchoaaGreat
set_option linter.all false
set_option maxRecDepth 100000
def digR:List Nat→Nat→List Nat
 | [],_=>[]
 | a :: l,k=>k%a :: digR l (k / a)
def incR:List Nat→List Nat→List Nat
 | a :: l,d :: ds=>bif nlt (d+1) a then ((d+1) :: ds) else (0 :: incR l ds)
 | _,_=>[]
def prodN:List Nat→Nat
 | []=>1
 | a :: l=>a * prodN l
theorem digR_length:∀ (l:List Nat) (k:Nat),(digR l k).length=l.length:=by
 intro l
 induction l with
 | nil=>intro k; rfl
 | cons a l ih=>intro k; simp [digR,ih]
theorem digR_zero:∀ (l:List Nat),digR l 0=List.replicate l.length 0:=by
 intro l
 induction l with
 | nil=>rfl
 | cons a l ih=>simp [digR,ih,List.replicate_succ]
theorem incR_digR : ∀ (l : List Nat) (k : Nat), (∀ a ∈ l, 0 < a) → incR l (digR l k) = digR l (k + 1) := by
  intro l
  induction l with
  | nil=>intro k _; rfl
  | cons a l ih =>
    intro k h
    have ha:0 < a:=h a (by simp)
    have hm:k%a < a:=Nat.mod_lt _ ha
    have hk:=Nat.div_add_mod k a
    simp only [digR,incR]
    by_cases hlt:k%a+1 < a
    · rw [nltT hlt]
      have e1:(k+1) / a=k / a:=by
        conv=>lhs; rw [← hk,Nat.add_assoc,Nat.mul_add_div ha,Nat.div_eq_of_lt hlt,Nat.add_zero]
      have e2:(k+1)%a=k%a+1:=by
        conv=>lhs; rw [← hk,Nat.add_assoc,Nat.mul_add_mod,Nat.mod_eq_of_lt hlt]
      rw [e1,e2]; rfl
    · rw [nltF hlt]
      have e:k%a+1=a:=by omega
      have e3:k+1=a * (k / a+1):=by rw [Nat.mul_add,Nat.mul_one]; omega
      have e1:(k+1) / a=k / a+1:=by rw [e3,Nat.mul_div_cancel_left _ ha]
      have e2:(k+1)%a=0:=by rw [e3,Nat.mul_mod_right]
      rw [e1,e2,← ih (k / a) (fun x hx=>h x (by simp [hx]))]; rfl
theorem digR_lt:∀ (l:List Nat) (k:Nat),(∀ a∈l,0 < a)→∀ (i:Nat) (d a:Nat),(digR l k)[i]? = some d→l[i]? = some a→d < a:=by
  intro l
  induction l with
  | nil=>intro k _ i d a h; simp [digR] at h
  | cons b l ih =>
    intro k h i d a h1 h2
    cases i with
    | zero =>
      simp [digR] at h1 h2
      subst h1; subst h2
      exact Nat.mod_lt _ (h b (by simp))
    | succ i =>
      simp [digR] at h1 h2
      exact ih (k / b) (fun x hx=>h x (by simp [hx])) i d a h1 h2
def cornR:List (List Int)→Nat→List Int
 | [],_=>[]
 | m :: ms,k=>List.getD m (k%m.length) 0 :: cornR ms (k / m.length)
def corner (ms:List (List Int)) (k:Nat):List Int:=(cornR ms.reverse k).reverse
theorem cornR_length:∀ (ms:List (List Int)) (k:Nat),(cornR ms k).length=ms.length:=by
 intro ms
 induction ms with
 | nil=>intro k; rfl
 | cons m ms ih=>intro k; simp [cornR,ih]
theorem corner_length (ms:List (List Int)) (k:Nat):(corner ms k).length=ms.length:=by simp [corner,cornR_length]
def firstN (p:Nat→Bool):Nat→Nat→Option Nat
 | 0,_=>none
 | n+1,k=>bif p k then some k else firstN p n (k+1)
end Go.Proofs.YthdimnlkcgchoaaGreat
