/- slices.SortStableFunc, as functions of arrays: ranges exchanged, blocks turned round, merged in place. -/
import Derived.Test.YtkeplmpcijigaaaSO
import Derived.Test.YtkeplmpcijigaaaLST
namespace Go.Proofs.Ytkeplmpcijigaaa
set_option linter.unusedSectionVars false
set_option linter.unusedSimpArgs false
set_option linter.unusedVariables false
open Go.Sort
section
variable {α:Type} [Inhabited α]
def swpR:Nat→Nat→Nat→Array α→Array α
  | 0,_,_,d=>d
  | n+1,a,b,d=>swpR n (a+1) (b+1) (swp d a b)
theorem swpR_size:∀ (n a b:Nat) (d:Array α),(swpR n a b d).size=d.size:=by
  intro n
  induction n with
  | zero=>intro a b d; rfl
  | succ n ih=>intro a b d; show (swpR n (a+1) (b+1) (swp d a b)).size=_; rw [ih,size_swp]
def rotG (m:Nat):Nat→Nat→Nat→Array α→Array α
  | 0,_,_,d=>d
  | f+1,i,j,d=>if i=j then swpR i (m - i) m d else if j < i then rotG m f (i - j) j (swpR j (m - i) m d) else rotG m f i (j - i) (swpR i (m - i) (m+j - i) d)
def rotA (d:Array α) (a m b:Nat):Array α:=rotG m (b - a) (m - a) (b - m) d
theorem rotG_size (m:Nat):∀ (f i j:Nat) (d:Array α),(rotG m f i j d).size=d.size:=by
  intro f
  induction f with
  | zero=>intro i j d; rfl
  | succ f ih =>
    intro i j d
    unfold rotG
    split
    · exact swpR_size _ _ _ _
    · split
      · rw [ih,swpR_size]
      · rw [ih,swpR_size]
def bsR (p:Nat→Bool):Nat→Nat→Nat→Nat
  | 0,i,_=>i
  | f+1,i,j=>if i < j then (if p ((i+j) / 2)=true then bsR p f ((i+j) / 2+1) j else bsR p f i ((i+j) / 2)) else i
def upR:Nat→Nat→Array α→Array α
  | 0,_,d=>d
  | n+1,k,d=>upR n (k+1) (swp d k (k+1))
def dnR:Nat→Nat→Array α→Array α
  | 0,_,d=>d
  | n+1,k,d=>dnR n (k - 1) (swp d k (k - 1))
def symS0 (m b mid:Nat) (a:Nat):Nat:=if mid < m then mid+m - b else a
def symR0 (m mid:Nat):Nat:=if mid < m then mid else m
def symSt (lt:α→α→Bool) (a m b:Nat) (d:Array α):Nat:=bsR (fun c => !(lt d[(a+b) / 2+m - 1 - c]! d[c]!)) (b - a) (symS0 m b ((a+b) / 2) a) (symR0 m ((a+b) / 2))
def symG (lt : α → α → Bool) : Nat → Nat → Nat → Nat → Array α → Array α
  | 0,_,_,_,d=>d
  | f + 1, a, m, b, d =>
    if m=a+1 then upR (bsR (fun h=>lt d[h]! d[a]!) (b - a) m b - 1 - a) a d
    else if b=m+1 then dnR (m - bsR (fun h => !(lt d[m]! d[h]!)) (b - a) a m) m d
    else
      let mid:=(a+b) / 2
      let st:=symSt lt a m b d
      let en:=mid+m - st
      let d1:=if st < m∧m < en then rotA d st m en else d
      let d2:=if a < st∧st < mid then symG lt f a st mid d1 else d1
      if mid < en∧en < b then symG lt f mid en b d2 else d2
theorem upR_size:∀ (n k:Nat) (d:Array α),(upR n k d).size=d.size:=by
  intro n
  induction n with
  | zero=>intro k d; rfl
  | succ n ih=>intro k d; show (upR n (k+1) (swp d k (k+1))).size=_; rw [ih,size_swp]
theorem dnR_size:∀ (n k:Nat) (d:Array α),(dnR n k d).size=d.size:=by
  intro n
  induction n with
  | zero=>intro k d; rfl
  | succ n ih=>intro k d; show (dnR n (k - 1) (swp d k (k - 1))).size=_; rw [ih,size_swp]
theorem symG_size (lt : α → α → Bool) : ∀ (f a m b : Nat) (d : Array α), (symG lt f a m b d).size = d.size := by
  intro f
  induction f with
  | zero=>intro a m b d; rfl
  | succ f ih =>
    intro a m b d
    unfold symG
    split
    · exact upR_size _ _ _
    · split
      · exact dnR_size _ _ _
      · dsimp only
        have h1:(if symSt lt a m b d < m∧m < (a+b) / 2+m - symSt lt a m b d then rotA d (symSt lt a m b d) m ((a+b) / 2+m - symSt lt a m b d) else d).size=d.size:=by
          split
          · exact rotG_size _ _ _ _ _
          · rfl
        generalize (if symSt lt a m b d < m∧m < (a+b) / 2+m - symSt lt a m b d then rotA d (symSt lt a m b d) m ((a+b) / 2+m - symSt lt a m b d) else d)=d1 at h1 ⊢
        split
        · rw [ih]
          split
          · rw [ih,h1]
          · exact h1
        · split
          · rw [ih,h1]
          · exact h1
def stabA (lt:α→α→Bool) (d:Array α):Array α :=
  if d.size < 20 then Sort.insertionSort lt d 0 d.size
  else if 20 < d.size then symG lt d.size 0 20 d.size (Sort.insertionSort lt (Sort.insertionSort lt d 0 20) 20 d.size)
  else Sort.insertionSort lt (Sort.insertionSort lt d 0 20) 20 d.size
theorem insInner_size (lt:α→α→Bool) (a:Nat):∀ (j:Nat) (d:Array α),(insInner lt a j d).size=d.size:=by
  intro j
  induction j with
  | zero=>intro d; rfl
  | succ j ih =>
    intro d
    unfold insInner
    split
    · rw [ih,size_swp]
    · rfl
theorem insOuter_size (lt:α→α→Bool) (a b:Nat):∀ (n i:Nat) (d:Array α),b≤n+i→(insOuter lt a b i d).size=d.size:=by
  intro n
  induction n with
  | zero=>intro i d h; rw [insOuter_stop _ _ _ _ _ (by omega)]
  | succ n ih =>
    intro i d h
    by_cases hi:i < b
    · rw [insOuter_go _ _ _ _ _ hi,ih _ _ (by omega),insInner_size]
    · rw [insOuter_stop _ _ _ _ _ hi]
theorem insS_size (lt:α→α→Bool) (d:Array α) (a b:Nat):(Sort.insertionSort lt d a b).size=d.size:=insOuter_size lt a b b (a+1) d (by omega)
theorem stabA_size (lt:α→α→Bool) (d:Array α):(stabA lt d).size=d.size:=by
  unfold stabA
  split
  · exact insS_size _ _ _ _
  · split
    · rw [symG_size,insS_size,insS_size]
    · rw [insS_size,insS_size]
end
end Go.Proofs.Ytkeplmpcijigaaa
