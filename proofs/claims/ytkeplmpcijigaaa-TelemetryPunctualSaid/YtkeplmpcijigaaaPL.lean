/- Plain laws that the texts of chapters use: integers and lists as the abstract runs have them. -/
import Derived.Test.YtkeplmpcijigaaaLA
import Derived.IntWalk
namespace Go.Proofs.Ytkeplmpcijigaaa
set_option linter.unusedVariables false
set_option linter.unusedSectionVars false
set_option linter.unusedSimpArgs false
theorem wrapI {x:Int} (h1 : -9223372036854775808≤x) (h2:x≤9223372036854775807):IntKind.wrap .i64 x=x:=IntWalk.i64_in _ ⟨h1,h2⟩
theorem getD_lt {α:Type} {l:List α} {i:Nat} (h:i < l.length) (d:α):List.getD l i d=l[i]:=by simp [List.getD,List.getElem?_eq_getElem h]
theorem toNat_nat (n:Nat):Int.toNat (n:Int)=n:=rfl
theorem inbT {i n:Nat} (h:i < n):inb (i:Int) n=true:=by
  simp only [inb,ile,ilt,Bool.and_eq_true,decide_eq_true_eq]; omega
theorem inb0 {n:Nat} (h:0 < n):inb (0:Int) n=true:=inbT (i:=0) h
theorem iltT {a b:Int} (h:a < b):ilt a b=true:=decide_eq_true h
theorem iltF {a b:Int} (h:¬ a < b):ilt a b=false:=decide_eq_false h
theorem ileT {a b:Int} (h:a≤b):ile a b=true:=decide_eq_true h
theorem ileF {a b:Int} (h:¬ a≤b):ile a b=false:=decide_eq_false h
theorem nleT {a b:Nat} (h:a≤b):nle a b=true:=decide_eq_true h
theorem nltT {a b:Nat} (h:a < b):nlt a b=true:=decide_eq_true h
theorem ileI {a b:Int} (h:ile a b=true):a≤b:=of_decide_eq_true h
theorem iltN {a b:Int} (h:ilt a b=false):¬ a < b:=of_decide_eq_false h
theorem nleI {a b:Nat} (h:nle a b=true):a≤b:=of_decide_eq_true h
theorem drop_lt {α:Type} {l:List α} {i:Nat} (h:i < l.length):l.drop i=l[i] :: l.drop (i+1):=List.drop_eq_getElem_cons h
theorem take_lt {α:Type} {l:List α} {i:Nat} (h:i < l.length):l.take (i+1)=l.take i++[l[i]]:=by rw [List.take_add_one,List.getElem?_eq_getElem h]; rfl
theorem wrapS (i:Nat) (h:i≤1000000):IntKind.wrap .i64 ((i:Int)+1)=((i+1:Nat):Int):=by rw [wrapI (by omega) (by omega)]; omega
theorem cAnd {R:Type} (f:Bool→R) (a b:Bool):condB a (f b) (f false)=f (a&&b):=by cases a<;>rfl
theorem chkT {R:Type} (x:Option R):chk true x=x:=rfl
theorem condT {R:Type} (x y:R):condB true x y=x:=rfl
theorem condF {R:Type} (x y:R):condB false x y=y:=rfl
noncomputable def orZ:List Int→Int
  | []=>0
  | x :: l=>bif x != 0 then x else orZ l
noncomputable def cmpZ (a b:Int):Int:=bif ilt a b then -1 else bif ilt b a then 1 else 0
noncomputable def cmpS (a b:List UInt8):Int:=bif slt a b then -1 else bif !(slt a b||(a == b)) then 1 else 0
theorem slt_irrefl (l:List UInt8):slt l l=false:=by
  unfold slt
  induction l with
  | nil=>rfl
  | cons x l ih=>simp [Op.bytesLess,ih]
theorem slt_trans : ∀ {a b c : List UInt8}, slt a b = true → slt b c = true → slt a c = true := by
  intro a
  induction a with
  | nil =>
    intro b c h1 h2
    cases c with
    | nil=>cases b<;>simp [slt,Op.bytesLess] at h2
    | cons z c=>rfl
  | cons x a ih =>
    intro b c h1 h2
    cases b with
    | nil=>simp [slt,Op.bytesLess] at h1
    | cons y b =>
      cases c with
      | nil=>simp [slt,Op.bytesLess] at h2
      | cons z c =>
        simp only [slt,Op.bytesLess,Bool.or_eq_true,Bool.and_eq_true,decide_eq_true_eq,beq_iff_eq] at h1 h2 ⊢
        rcases h1 with h1 | ⟨rfl,h1⟩<;>rcases h2 with h2 | ⟨rfl,h2⟩
        · exact .inl (UInt8.lt_trans h1 h2)
        · exact .inl h1
        · exact .inl h2
        · exact .inr ⟨rfl,ih h1 h2⟩
theorem slt_total:∀ {a b:List UInt8},slt a b=false→slt b a=false→a=b:=by
  intro a
  induction a with
  | nil =>
    intro b h1 h2
    cases b with
    | nil=>rfl
    | cons y b=>simp [slt,Op.bytesLess] at h1
  | cons x a ih =>
    intro b h1 h2
    cases b with
    | nil=>simp [slt,Op.bytesLess] at h2
    | cons y b =>
      simp only [slt,Op.bytesLess,Bool.or_eq_false_iff,Bool.and_eq_false_iff,decide_eq_false_iff_not,beq_eq_false_iff_ne] at h1 h2
      have hxy:x=y:=UInt8.le_antisymm (UInt8.not_lt.1 h2.1) (UInt8.not_lt.1 h1.1)
      subst hxy
      have e1:slt a b=false:=h1.2.resolve_left (fun h=>h rfl)
      have e2:slt b a=false:=h2.2.resolve_left (fun h=>h rfl)
      rw [ih e1 e2]
def frun {σ α R:Type} (body:σ→α→(σ→R)→R) (fin:σ→R):σ→List α→R
  | s,[]=>fin s
  | s,x :: l=>body s x fun s'=>frun body fin s' l
theorem frun_eq {σ α R:Type} (l:List α) (hl:l.length≤1000000) (fn:Nat→σ→Int→R) (body:σ→α→(σ→R)→R) (fin:σ→R)
    (hstep:∀ (n:Nat) (s:σ) (i:Nat) (hi:i < l.length),fn (n+1) s (i:Int)=body s l[i] (fun s'=>fn n s' (IntKind.wrap .i64 ((i:Int)+1)))) (hend:∀ (n:Nat) (s:σ),fn (n+1) s (l.length:Int)=fin s) :
    ∀ (n i:Nat) (s:σ),l.length < n+i→i≤l.length→fn n s (i:Int)=frun body fin s (l.drop i):=by
  intro n
  induction n with
  | zero=>intro i s h1 h2; omega
  | succ n ih =>
    intro i s h1 h2
    by_cases hi:i < l.length
    · rw [hstep n s i hi, drop_lt hi, wrapS i (by omega)]
      simp only [frun]
      congr 1
      funext s'
      exact ih (i+1) s' (by omega) hi
    · have : i = l.length := by omega
      subst this
      rw [hend,List.drop_length]
      rfl
theorem frun_any {α R:Type} (p:α→Bool) (f:Bool→R):∀ (l:List α),frun (σ:=Unit) (fun _ x k=>condB (p x) (f true) (k ())) (fun _=>f false) () l=f (l.any p):=by
  intro l
  induction l with
  | nil=>rfl
  | cons x l ih =>
    simp only [frun,List.any_cons]
    cases p x
    · exact ih
    · rfl
end Go.Proofs.Ytkeplmpcijigaaa
