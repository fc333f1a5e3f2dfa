/- Plain laws of marks and corners: digits of a number to mixed bases, one step on, and that the corners stand for all levels. -/
import Derived.Test.YthdimnlkcgchoaaGreatV
import Derived.Test.YthdimnlkcgchoaaGreatPL
namespace Go.Proofs.YthdimnlkcgchoaaGreat
set_option linter.unusedSectionVars false
set_option linter.unusedSimpArgs false
set_option linter.unusedVariables false
set_option maxRecDepth 100000
def eV:List Nat→Nat→List Nat
  | [],_=>[]
  | a :: l,k=>k%a :: eV l (k / a)
def pK:List Nat→List Nat→List Nat
  | a :: l,d :: ds=>bif nlt (d+1) a then ((d+1) :: ds) else (0 :: pK l ds)
  | _,_=>[]
def cd:List Nat→Nat
  | []=>1
  | a :: l=>a * cd l
theorem eR:∀ (l:List Nat) (k:Nat),(eV l k).length=l.length:=by
  intro l
  induction l with
  | nil=>intro k; rfl
  | cons a l ih=>intro k; simp [eV,ih]
theorem pL:∀ (l:List Nat),eV l 0=List.replicate l.length 0:=by
  intro l
  induction l with
  | nil=>rfl
  | cons a l ih=>simp [eV,ih,List.replicate_succ]
theorem pM : ∀ (l : List Nat) (k : Nat), (∀ a ∈ l, 0 < a) → pK l (eV l k) = eV l (k + 1) := by
  intro l
  induction l with
  | nil=>intro k _; rfl
  | cons a l ih =>
    intro k h
    have ha:0 < a:=h a (by simp)
    have hm:k%a < a:=Nat.mod_lt _ ha
    have hk:=Nat.div_add_mod k a
    simp only [eV,pK]
    by_cases hlt:k%a+1 < a
    · rw [df hlt]
      have e1:(k+1) / a=k / a:=by
        conv=>lhs; rw [← hk,Nat.add_assoc,Nat.mul_add_div ha,Nat.div_eq_of_lt hlt,Nat.add_zero]
      have e2:(k+1)%a=k%a+1:=by
        conv=>lhs; rw [← hk,Nat.add_assoc,Nat.mul_add_mod,Nat.mod_eq_of_lt hlt]
      rw [e1,e2]; rfl
    · rw [oi hlt]
      have e:k%a+1=a:=by omega
      have e3:k+1=a * (k / a+1):=by rw [Nat.mul_add,Nat.mul_one]; omega
      have e1:(k+1) / a=k / a+1:=by rw [e3,Nat.mul_div_cancel_left _ ha]
      have e2:(k+1)%a=0:=by rw [e3,Nat.mul_mod_right]
      rw [e1,e2,← ih (k / a) (fun x hx=>h x (by simp [hx]))]; rfl
theorem rV:∀ (l:List Nat) (k:Nat),(∀ a∈l,0 < a)→∀ (i:Nat) (d a:Nat),(eV l k)[i]? = some d→l[i]? = some a→d < a:=by
  intro l
  induction l with
  | nil=>intro k _ i d a h; simp [eV] at h
  | cons b l ih =>
    intro k h i d a h1 h2
    cases i with
    | zero =>
      simp [eV] at h1 h2
      subst h1; subst h2
      exact Nat.mod_lt _ (h b (by simp))
    | succ i =>
      simp [eV] at h1 h2
      exact ih (k / b) (fun x hx=>h x (by simp [hx])) i d a h1 h2
def hY:List (List Int)→Nat→List Int
  | [],_=>[]
  | m :: ms,k=>List.getD m (k%m.length) 0 :: hY ms (k / m.length)
def a7 (ms:List (List Int)) (k:Nat):List Int:=(hY ms.reverse k).reverse
theorem mb:∀ (ms:List (List Int)) (k:Nat),(hY ms k).length=ms.length:=by
  intro ms
  induction ms with
  | nil=>intro k; rfl
  | cons m ms ih=>intro k; simp [hY,ih]
theorem dP (ms:List (List Int)) (k:Nat):(a7 ms k).length=ms.length:=by simp [a7,mb]
theorem mc (a b:List Nat):cd (a++b)=cd a * cd b:=by
  induction a with
  | nil=>simp [cd]
  | cons x a ih=>simp [cd,ih,Nat.mul_assoc]
theorem kK (a:List Nat):cd a.reverse=cd a:=by
  induction a with
  | nil=>rfl
  | cons x a ih=>simp [mc,cd,ih,Nat.mul_comm]
theorem pN : ∀ (ms : List (List Int)) (v : List Int), v.length = ms.length → (∀ (i : Nat) x m, v[i]? = some x → ms[i]? = some m → x ∈ m) → ∃ k, k < cd (ms.map (·.length)) ∧ hY ms k = v := by
  intro ms
  induction ms with
  | nil=>intro v h _; exact ⟨0,by simp [cd],by simp [hY]; exact List.eq_nil_of_length_eq_zero h⟩
  | cons m ms ih =>
    intro v h hm
    cases v with
    | nil=>simp at h
    | cons x v =>
      obtain ⟨k,h1,h2⟩:=ih v (by simpa using h) (fun i x m hi hj=>hm (i+1) x m (by simpa using hi) (by simpa using hj))
      obtain ⟨j,hj,ej⟩:=List.getElem_of_mem (hm 0 x m rfl rfl)
      refine ⟨j+m.length * k,?_,?_⟩
      · simp only [List.map_cons, cd]
        calc j+m.length * k < m.length+m.length * k:=by omega
          _=m.length * (k+1):=by rw [Nat.mul_add,Nat.mul_one,Nat.add_comm]
          _≤m.length * cd (ms.map (·.length)):=Nat.mul_le_mul_left _ h1
      · have hp : 0 < m.length := by omega
        simp only [hY]
        rw [Nat.add_mul_mod_self_left,Nat.mod_eq_of_lt hj,Nat.add_mul_div_left _ _ hp,Nat.div_eq_of_lt hj,Nat.zero_add,h2,ar hj,ej]
theorem ox (ms:List (List Int)) (v:List Int) (hl:v.length=ms.length) (h:∀ (i:Nat) x m,v[i]? = some x→ms[i]? = some m→x∈m):∃ k,k < cd (ms.map (·.length))∧a7 ms k=v:=by
  obtain ⟨k,h1,h2⟩:=pN ms.reverse v.reverse (by simp [hl]) (fun i x m hi hj=>by
    have hil:i < v.length:=by have:=(List.getElem?_eq_some_iff.1 hi).1; simpa using this
    rw [List.getElem?_reverse hil] at hi
    rw [List.getElem?_reverse (by omega),← hl] at hj
    exact h _ x m hi hj)
  refine ⟨k,?_,by rw [a7,h2,List.reverse_reverse]⟩
  rw [List.map_reverse,kK] at h1
  exact h1
def dJ (p:Nat→Bool):Nat→Nat→Option Nat
  | 0,_=>none
  | n+1,k=>bif p k then some k else dJ p n (k+1)
theorem m0 {p:Nat→Bool}:∀ {n k:Nat},dJ p n k=none→∀ i,k≤i→i < k+n→p i=false:=by
  intro n
  induction n with
  | zero=>intro k _ i h1 h2; omega
  | succ n ih =>
    intro k h i h1 h2
    simp only [dJ] at h
    cases hp:p k with
    | true=>rw [hp] at h; cases h
    | false =>
      rw [hp] at h
      by_cases e:i=k
      · subst e; exact hp
      · exact ih (k:=k+1) h i (by omega) (by omega)
end Go.Proofs.YthdimnlkcgchoaaGreat
