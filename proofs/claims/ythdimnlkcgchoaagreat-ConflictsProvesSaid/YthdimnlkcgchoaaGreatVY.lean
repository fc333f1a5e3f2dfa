/- What holds together contradicts where the settings differ; the law ConflictsNone by its own run. -/
import Derived.Test.YthdimnlkcgchoaaGreatVX
namespace Go.Proofs.YthdimnlkcgchoaaGreat
set_option linter.unusedSectionVars false
set_option linter.unusedSimpArgs false
set_option linter.unusedVariables false
set_option maxRecDepth 100000
def Sat (c:Cnd) (y:Int):Prop:=if c.cb=true then y < c.cl else c.cl≤y
theorem net_nodeZ {n:Net} (h:netB n=true) (i:Nat) (hi:i < n.nds.length):nodeZ n n.nds[i].nn=(i:Int):=by
  simp only [netB,Bool.and_eq_true] at h
  have:=allI_iff.1 h.2.2.1 i _ (List.getElem?_eq_getElem hi)
  simp only [nodeBad,Bool.not_eq_true',Bool.or_eq_false_iff,Nat.zero_add] at this
  simpa using this.2
theorem holds_sat {n:Net} (hb:netB n=true) {v:List Int} {w:List Cnd} (h:holdN (namesL n) v w=true) (c:Cnd) (hc:c∈w) (j:Nat) (hj:j < n.nds.length) (hj':j < v.length) (hn:n.nds[j].nn=c.cn):Sat c v[j]:=by
  unfold holdN at h
  rw [Bool.not_eq_true',List.any_eq_false] at h
  have h1:=h c hc
  rw [Bool.not_eq_true] at h1
  unfold failsN at h1
  have e:findZ (fun x=>x == c.cn) 0 (namesL n)=(j:Int):=by
    unfold namesL
    rw [findZ_names,← hn]
    exact net_nodeZ hb j hj
  rw [e,toNat_nat,getD_lt hj',Bool.not_eq_false'] at h1
  unfold Sat
  cases hcb:c.cb with
  | true =>
    rw [hcb] at h1
    rw [if_pos rfl]
    have:ilt v[j] c.cl=true:=by simpa using h1
    exact iltI this
  | false =>
    rw [hcb] at h1
    rw [if_neg (by simp)]
    have:ilt v[j] c.cl=false:=by simpa using h1
    have:=iltN this
    omega
theorem nar_in (m : List UInt8) (y : Int) : ∀ (w : List Cnd) (s : Span), s.slo ≤ y → y ≤ s.shi → (∀ c ∈ w, c.cn = m → Sat c y) → (nar m s w).slo ≤ y ∧ y ≤ (nar m s w).shi := by
  intro w
  induction w with
  | nil=>intro s h1 h2 _; exact ⟨h1,h2⟩
  | cons c w ih =>
    intro s h1 h2 h
    have hw:∀ c∈w,c.cn=m→Sat c y:=fun c' hc'=>h c' (by simp [hc'])
    show (nar m (narC m s c) w).slo≤y∧y≤(nar m (narC m s c) w).shi
    cases e:c.cn == m with
    | false =>
      have:narC m s c=s:=by unfold narC; rw [e]; rfl
      rw [this]
      exact ih s h1 h2 hw
    | true =>
      have hs:=h c (by simp) (by simpa using e)
      unfold Sat at hs
      cases hb:c.cb with
      | true =>
        rw [hb,if_pos rfl] at hs
        have:narC m s c=⟨s.slo,bif ilt (c.cl - 1) s.shi then c.cl - 1 else s.shi⟩:=by unfold narC; rw [e,hb]; rfl
        rw [this]
        refine ih _ h1 ?_ hw
        show y≤bif ilt (c.cl - 1) s.shi then c.cl - 1 else s.shi
        cases ilt (c.cl - 1) s.shi
        · exact h2
        · show y≤c.cl - 1; omega
      | false =>
        rw [hb,if_neg (by simp)] at hs
        have:narC m s c=⟨bif ilt s.slo c.cl then c.cl else s.slo,s.shi⟩:=by unfold narC; rw [e,hb]; rfl
        rw [this]
        refine ih _ ?_ h2 hw
        show (bif ilt s.slo c.cl then c.cl else s.slo)≤y
        cases ilt s.slo c.cl
        · exact h1
        · exact hs
theorem least_ex:∀ (nds:List Node) (v:List Int) (w:List Cnd),Poss nds v→(∀ c∈w,∀ (j:Nat) (hj:j < nds.length) (hj':j < v.length),nds[j].nn=c.cn→Sat c v[j])→leastB nds w=true:=by
  intro nds
  induction nds with
  | nil=>intro v w _ _; rfl
  | cons x nds ih =>
    intro v w hp h
    cases v with
    | nil=>have:=hp.1; simp at this
    | cons y v =>
      have h0:=hp.2 0 (by simp) (by simp)
      simp only [List.getElem_cons_zero] at h0
      have hx:=nar_in x.nn y w (possS x) h0.1 h0.2 (fun c hc e=>h c hc 0 (by simp) (by simp) e.symm)
      have:=ih v w ⟨by simpa using hp.1,fun i hi hi'=>hp.2 (i+1) (by simp; omega) (by simp; omega)⟩ (fun c hc j hj hj' e=>h c hc (j+1) (by simp; omega) (by simp; omega) e)
      unfold leastB at this ⊢
      unfold leastO
      rw [iltF (by omega),cond_false,Option.isSome_map]
      exact this
theorem fired_facts (m : List ((List UInt8) × Int)) : ∀ (l : List Rule) (i : Nat), (firedI m i l).Pairwise (· < ·) ∧ ∀ x ∈ firedI m i l, ∃ j, ∃ h : j < l.length, x = ((i + j : Nat) : Int) ∧ List.any l[j].rw (failsM m) = false := by
  intro l
  induction l with
  | nil=>intro i; exact ⟨List.Pairwise.nil,fun x hx=>by cases hx⟩
  | cons r l ih =>
    intro i
    obtain ⟨h1,h2⟩:=ih (i+1)
    have h2':∀ x∈firedI m (i+1) l,∃ j,∃ h:j < (r :: l).length,x=((i+j:Nat):Int)∧List.any (r :: l)[j].rw (failsM m)=false:=fun x hx=>by
      obtain ⟨j,hj,e1,e2⟩:=h2 x hx
      exact ⟨j+1,by simp; omega,by rw [e1]; omega,by simpa using e2⟩
    simp only [firedI]
    cases e:List.any r.rw (failsM m) with
    | true=>exact ⟨h1,h2'⟩
    | false =>
      refine ⟨List.pairwise_cons.2 ⟨fun x hx => ?_,h1⟩,fun x hx => ?_⟩
      · obtain ⟨j, hj, e1, _⟩ := h2 x hx
        omega
      · rcases List.mem_cons.1 hx with rfl | hx
        · exact ⟨0,by simp,by simp,by simpa using e⟩
        · exact h2' x hx
theorem kq_int_iff (a b:Int):kq_int a b=true↔a=b:=by unfold kq_int; simp
theorem findI_len' (n:Net):∀ (l:List Rule) (i:Nat),(findI n i l).length≤l.length * l.length:=by
  intro l
  induction l with
  | nil=>intro i; simp [findI]
  | cons r l ih =>
    intro i
    have h1:=ih (i+1)
    have h2:=findFrom_len n (i:Int) r l (i+1)
    simp only [findI,List.length_append,List.length_cons,Nat.add_mul,Nat.mul_add]
    omega
end Go.Proofs.YthdimnlkcgchoaaGreat
