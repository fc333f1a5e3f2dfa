/- A complete link has a rule that holds at all possible levels; the law ConflictsCompletes by its own run. -/
import Derived.Test.YthdimnlkcgchoaaGreatVU
namespace Go.Proofs.YthdimnlkcgchoaaGreat
set_option linter.unusedSectionVars false
set_option linter.unusedSimpArgs false
set_option linter.unusedVariables false
set_option maxRecDepth 100000
theorem findZ_at {α : Type} (p : α → Bool) : ∀ (l : List α) (i : Nat), findZ p i l = -1 ∨ ∃ j, ∃ h : j < l.length, findZ p i l = ((i + j : Nat) : Int) ∧ p l[j] = true := by
  intro l
  induction l with
  | nil=>intro i; exact .inl rfl
  | cons x l ih =>
    intro i
    simp only [findZ]
    cases e:p x with
    | true=>exact .inr ⟨0,by simp,by simp,by simpa using e⟩
    | false =>
      rcases ih (i+1) with h | ⟨j,hj,h1,h2⟩
      · exact .inl h
      · refine .inr ⟨j + 1, by simp; omega, ?_, by simpa using h2⟩
        rw [cond_false,h1]; omega
theorem findZ_le {α : Type} (p : α → Bool) : ∀ (l : List α) (i k : Nat) (h : k < l.length), p l[k] = true → findZ p i l ≤ ((i + k : Nat) : Int) := by
  intro l
  induction l with
  | nil=>intro i k h; simp at h
  | cons x l ih =>
    intro i k h hp
    simp only [findZ]
    cases e:p x with
    | true=>rw [cond_true]; omega
    | false =>
      cases k with
      | zero=>simp at hp; rw [hp] at e; cases e
      | succ k =>
        have:=ih (i+1) k (by simpa using h) (by simpa using hp)
        rw [cond_false]; omega
theorem anyC {α:Type} {p q:α→Bool}:∀ {l:List α},(∀ x∈l,p x=q x)→List.any l p=List.any l q:=by
  intro l
  induction l with
  | nil=>intro _; rfl
  | cons x l ih=>intro h; rw [List.any_cons,List.any_cons,h x (by simp),ih fun y hy=>h y (by simp [hy])]
theorem failsM_N {ns:List (List UInt8)} {v:List Int} (hl:ns.length=v.length) {c:Cnd} (hc:List.elem c.cn ns=true):failsM (List.zip ns v) c=failsN ns v c:=by
  unfold failsM failsN
  rw [(mgetD_zip c.cn ns v 0 hl hc).1,← not_ile]
  simp only [Int.ofNat_zero,Int.sub_zero,show ((0:Nat):Int)=0 from rfl]
  cases ile c.cl (List.getD v (Int.toNat (findZ (fun x=>x == c.cn) 0 ns)) 0)<;>cases c.cb<;>rfl
theorem hasN_elem {n:Net} {s:List UInt8} (h:hasN n s=true):List.elem s (namesL n)=true:=by
  obtain ⟨x,hx,hs⟩:=List.any_eq_true.1 h
  have:x.nn=s:=by simpa [isNode] using hs
  rw [List.elem_iff]
  exact List.mem_map.2 ⟨x,hx,this⟩
theorem known_elem {l:List Rule} {n:Net} (hk:knownB l n=true):∀ r∈l,∀ c∈r.rw,hasN n c.cn=true:=fun r hr c hc=>by
  have:=List.all_eq_true.1 hk r hr
  simp only [knownR,Bool.and_eq_true] at this
  exact List.all_eq_true.1 this.2 c hc
theorem dist_names {n:Net} (h:netB n=true):distB (namesL n)=true:=by
  simp only [netB,Bool.and_eq_true] at h
  refine allI_iff.2 fun j s hs => ?_
  rw [Nat.zero_add,Bool.not_eq_true']
  cases he:List.elem s ((namesL n).take j) with
  | false=>rfl
  | true =>
    rw [List.elem_iff] at he
    obtain ⟨k,hk,ek⟩:=List.getElem_of_mem he
    simp only [List.length_take] at hk
    simp only [namesL,List.getElem?_map,Option.map_eq_some_iff] at hs
    obtain ⟨x,hx,rfl⟩:=hs
    have h1:=allI_iff.1 h.2.2.1 j x hx
    simp only [nodeBad,Bool.not_eq_true',Bool.or_eq_false_iff,Nat.zero_add] at h1
    have h2:nodeZ n x.nn=(j:Int):=by simpa using h1.2
    have hkl : k < n.nds.length := by have : (namesL n).length = n.nds.length := by simp [namesL]
                                      omega
    have h3:isNode x.nn n.nds[k]=true:=by
      simp only [List.getElem_take,namesL,List.getElem_map] at ek
      simp [isNode,ek]
    have h4:=findZ_le (isNode x.nn) n.nds 0 k hkl h3
    unfold nodeZ at h2
    omega
theorem gv_ok {l:List Rule} {n:Net} (hn:netB n=true) (hk:knownB l n=true) {v:List Int} (hv:v.length=n.nds.length):(gvE l (namesL n) v == 0)=true:=by
  unfold gvE
  have h1:Nat.beq (namesL n).length v.length=true:=by rw [hv,namesL,List.length_map,Nat.beq_refl]
  have h3:List.all l (fun r=>List.all r.rw (fun c=>List.elem c.cn (namesL n)))=true:=List.all_eq_true.2 fun r hr=>List.all_eq_true.2 fun c hc=>hasN_elem (known_elem hk r hr c hc)
  rw [h1,dist_names hn,h3]
  rfl
def Poss (nds:List Node) (v:List Int):Prop:=v.length=nds.length∧∀ (i:Nat) (h:i < nds.length) (h':i < v.length),(possS nds[i]).slo≤v[i]∧v[i]≤(possS nds[i]).shi
theorem net_levOk {n:Net} (h:netB n=true):levOkN n=true:=List.all_eq_true.2 fun x hx=>by
  have hb:=net_node h x hx
  simp only [nodeB,Bool.and_eq_true] at hb
  obtain ⟨_,_,_,h4,h5,h6⟩:=hb
  simp only [levOkX,Bool.and_eq_true]
  refine ⟨h4,h5,?_⟩
  cases h3:x.nk == 3 with
  | true=>rw [h3,cond_true] at h6; exact (Bool.and_eq_true_iff.1 h6).1
  | false =>
    rw [h3,cond_false] at h6
    cases h7:(x.nk == 1||x.nk == 2) with
    | false=>rw [h7] at h6; cases h6
    | true =>
      rw [h7,cond_true] at h6
      have:=(Bool.and_eq_true_iff.1 h6).1
      rw [Bool.not_eq_true'] at this
      have:=ileN this
      exact ileT (by omega)
theorem levAt_poss (at_:List UInt32) (i:Nat) {x:Node} (h:levOkX x=true):(possS x).slo≤levAt at_ i x∧levAt at_ i x≤(possS x).shi:=by
  simp only [levOkX,inR,Bool.and_eq_true] at h
  have o5:=ileI h.2.2
  unfold possS levAt
  cases h3:x.nk == 3 with
  | true =>
    have:(x.nk != 3)=false:=by simpa [bne] using h3
    rw [this]
    exact ⟨Int.le_refl _,Int.le_refl _⟩
  | false =>
    have:(x.nk != 3)=true:=by simpa [bne] using h3
    rw [this]
    cases ilt 0 (Int.ofNat at_.length) with
    | false=>exact ⟨Int.le_refl _,o5⟩
    | true =>
      have e6:=Int.tmod_nonneg (a:=Int.ofNat (UInt32.toNat (List.getD at_ (i%at_.length) d_u32))) (x.ng - x.ni+1) (by simp)
      have e7:=Int.tmod_lt_of_pos (Int.ofNat (UInt32.toNat (List.getD at_ (i%at_.length) d_u32))) (show 0 < x.ng - x.ni+1 by omega)
      simp only [Bool.and_true,cond_true,cond_false]
      omega
theorem levsI_len (at_:List UInt32):∀ (l:List Node) (i:Nat),(levsI at_ i l).length=l.length:=by
  intro l
  induction l with
  | nil=>intro i; rfl
  | cons x l ih=>intro i; simp [levsI,ih]
theorem levsI_get (at_:List UInt32):∀ (l:List Node) (i j:Nat) (h:j < l.length) (h':j < (levsI at_ i l).length),(levsI at_ i l)[j]=levAt at_ (i+j) l[j]:=by
  intro l
  induction l with
  | nil=>intro i j h; simp at h
  | cons x l ih =>
    intro i j h h'
    cases j with
    | zero=>rfl
    | succ j =>
      have:=ih (i+1) j (by simpa using h) (by simpa [levsI] using h')
      simp only [levsI,List.getElem_cons_succ]
      rw [this,show i+1+j=i+(j+1) by omega]
theorem levs_poss {n:Net} (h:levOkN n=true) (at_:List UInt32):Poss n.nds (levsL n.nds at_) :=
  ⟨levsI_len at_ n.nds 0,fun i hi hi'=>by
    have:=levsI_get at_ n.nds 0 i hi hi'
    unfold levsL
    rw [this]
    exact levAt_poss at_ _ (List.all_eq_true.1 h _ (List.getElem_mem hi))⟩
theorem ready_of {l:List Rule} {n:Net} (h:readyB l n=true):largeB l n=false∧okN n=true∧givenZ l n=0:=by
  simp only [readyB,Bool.and_eq_true,Bool.not_eq_true'] at h
  exact ⟨h.1,large_ok h.1,by simpa using h.2⟩
end Go.Proofs.YthdimnlkcgchoaaGreat
