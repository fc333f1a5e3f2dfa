/- A region that draws its order, on: every order leads to the abstract run's outcome. -/
import Derived.Test.YtkeplmpcijigaaaLL
namespace Go.Proofs.Ytkeplmpcijigaaa
set_option linter.unusedVariables false
set_option linter.unusedSectionVars false
set_option linter.unusedSimpArgs false
open Go.RowKit
section
variable {U:Type} {El:U→Type} {P:Program} {X:Ctx U El} {S S0:Nat→Prop} {ρ:Rho} {w w0:World} [DecidableEq U] [Drw]
variable {o:Oper} {a:Act} {st:St U El} {B:Bd} {d:Nat} {r:Fin U El}
theorem ancF_congr {A A':List Nat}:∀ (es:List Edge) (m:Nat),(∀ e∈es,Region.binds .any e=true→A.getD e.on 0=A'.getD e.on 0)→ancF A es m=ancF A' es m:=by
  intro es
  induction es with
  | nil=>intro m _; rfl
  | cons e es ih =>
    intro m h
    simp only [ancF]
    cases hb:Region.binds .any e with
    | false=>exact ih _ (fun e' he'=>h e' (by simp [he']))
    | true =>
      rw [h e (by simp) hb]
      exact ih _ (fun e' he'=>h e' (by simp [he']))
theorem ancF_bit {A : List Nat} : ∀ (es : List Edge) (m k : Nat), Nat.testBit (ancF A es m) k = true → Nat.testBit m k = true ∨ ∃ e ∈ es, Region.binds .any e = true ∧ (k = e.on ∨ Nat.testBit (A.getD e.on 0) k = true) := by
  intro es
  induction es with
  | nil=>intro m k h; exact .inl h
  | cons e es ih =>
    intro m k h
    simp only [ancF] at h
    rcases ih _ k h with h' | ⟨e',he',h'⟩
    · cases hb : Region.binds .any e with
      | false=>rw [hb] at h'; exact .inl h'
      | true =>
        rw [hb] at h'
        simp only [cond] at h'
        have h2:(Nat.testBit m k||(Nat.testBit (2 ^ e.on) k||Nat.testBit (A.getD e.on 0) k))=true:=by
          rw [← Nat.testBit_or,← Nat.testBit_or]
          exact h'
        simp only [Bool.or_eq_true] at h2
        rcases h2 with h2 | h2 | h2
        · exact .inl h2
        · right
          refine ⟨e,by simp,hb,.inl ?_⟩
          rw [Nat.testBit_two_pow] at h2
          simpa using (of_decide_eq_true h2).symm
        · exact .inr ⟨e,by simp,hb,.inr h2⟩
    · exact .inr ⟨e',by simp [he'],h'⟩
abbrev AncP (ops:Array Oper) (k i:Nat):Prop:=Nat.testBit ((ancs ops.toList []).getD i 0) k=true
structure DrawFacts (ops:Array Oper) (ws:List (Nat×Nat)) (nt:Nat):Prop where
  dst:∀ i e,dstOf ops i=some e→e < nt∧(0 < e∨idsOf ops i=[])∧e < 1000
  dstN:∀ i,dstOf ops i=none→idsOf ops i=[]
  uniq:∀ i j x,dstOf ops i=some x→dstOf ops j=some x→i=j
  back:∀ i o,ops[i]? = some o→∀ e∈o.after,Region.binds .any e=true→e.on < i
  looks:∀ i k x,i < ops.size→k < ops.size→k≠i→dstOf ops k=some x→x∈looksOf ops i→(k < i→AncP ops k i)∧(i < k→AncP ops i k)
  ancOk:∀ i o,ops[i]? = some o→(ancs ops.toList []).getD i 0=ancOf (ancs ops.toList []) o
  ev:∀ i j id,i < j→(i,id)∈evsOf ops.toList ws→(j,id)∈evsOf ops.toList ws→AncP ops i j
theorem evs_mem {ops:Array Oper} {ws:List (Nat×Nat)} {i id:Nat} (h:id∈idsOf ops i∨id∈wsOf ws i):(i,id)∈evsOf ops.toList ws:=by
  unfold evsOf
  rcases h with h | h
  · refine List.mem_append_left _ (List.mem_flatMap.2 ?_)
    unfold idsOf at h
    split at h
    · rename_i o ho
      refine ⟨(o,i),?_,List.mem_map.2 ⟨id,h,rfl⟩⟩
      rw [List.mem_zipIdx_iff_getElem?]
      simpa using ho
    · cases h
  · refine List.mem_append_right _ ?_
    unfold wsOf at h
    obtain ⟨p,hp,rfl⟩:=List.mem_map.1 h
    obtain ⟨h1,h2⟩:=List.mem_filter.1 hp
    obtain rfl:=Nat.eq_of_beq_eq_true h2
    exact h1
theorem safe_of {ops:Array Oper} {ws:List (Nat×Nat)} {i id:Nat} (h:sfOf ops ws i id=true) {j:Nat} (hji:j≠i) (hj:(j,id)∈evsOf ops.toList ws):(j < i→AncP ops j i)∧(i < j→AncP ops i j):=by
  have:=List.all_eq_true.1 h _ hj
  dsimp only at this
  rw [Nat.beq_refl,nbeq_ne hji] at this
  simp only [Bool.not_true,Bool.false_or] at this
  refine ⟨fun hlt => ?_,fun hlt => ?_⟩
  · have hb : Nat.blt j i = true := Nat.ble_eq_true_of_le hlt
    rw [hb] at this
    exact this
  · have hb : Nat.blt j i = false := by
      cases e:Nat.blt j i with
      | false=>rfl
      | true=>have:=Nat.le_of_ble_eq_true e; omega
    rw [hb] at this
    exact this
theorem ancs_acc:∀ (os:List Oper) (acc:List Nat),∃ tl,ancs os acc=acc++tl∧tl.length=os.length:=by
  intro os
  induction os with
  | nil=>intro acc; exact ⟨[],by simp [ancs],rfl⟩
  | cons o os ih =>
    intro acc
    obtain ⟨tl,h1,h2⟩:=ih (acc++[ancOf acc o])
    exact ⟨ancOf acc o :: tl,by simp [ancs,h1],by simp [h2]⟩
theorem ancs_get:∀ (os:List Oper) (acc:List Nat) (i:Nat) (o:Oper),os[i]? = some o→∃ pre,(ancs os acc)[acc.length+i]? = some (ancOf pre o)∧pre.length=acc.length+i∧∀ k,k < pre.length→(ancs os acc)[k]? = pre[k]? := by
  intro os
  induction os with
  | nil=>intro acc i o h; simp at h
  | cons p os ih =>
    intro acc i o h
    obtain ⟨tl,h1,h2⟩:=ancs_acc os (acc++[ancOf acc p])
    have hun:ancs (p :: os) acc=ancs os (acc++[ancOf acc p]):=rfl
    cases i with
    | zero =>
      simp at h
      subst h
      refine ⟨acc,?_,by simp,fun k hk => ?_⟩
      · rw [hun,h1]; simp
      · rw [hun,h1,List.append_assoc,List.getElem?_append_left hk]
    | succ i =>
      obtain ⟨pre,g1,g2,g3⟩:=ih (acc++[ancOf acc p]) i o (by simpa using h)
      refine ⟨pre,?_,by simp at g2; omega,fun k hk=>by rw [hun]; exact g3 k hk⟩
      rw [hun]
      rw [show acc.length+(i+1)=(acc++[ancOf acc p]).length+i by simp; omega]
      exact g1
theorem drawFacts {ops : Array Oper} {ws : List (Nat × Nat)} {nt : Nat} (h : drawOk nt ops.toList ws = true) : DrawFacts ops ws nt := by
  unfold drawOk at h
  simp only [Bool.and_eq_true] at h
  obtain ⟨⟨⟨⟨⟨h1,h2⟩,h3⟩,h4⟩,h5⟩,h6⟩:=h
  have mem:∀ i o,ops[i]? = some o→(o,i)∈ops.toList.zipIdx:=fun i o ho=>by
    rw [List.mem_zipIdx_iff_getElem?]
    simpa using ho
  have hb:∀ i o,ops[i]? = some o→∀ e∈o.after,Region.binds .any e=true→e.on < i:=fun i o ho e he hbind=>by
    have:=List.all_eq_true.1 h1 _ (mem i o ho)
    have:=List.all_eq_true.1 this e (by simpa using he)
    rw [hbind] at this
    exact Nat.le_of_ble_eq_true (by simpa [Nat.blt] using this)
  have hop:∀ i e,dstOf ops i=some e→∃ o,ops[i]? = some o∧o.dst=some e:=fun i e he=>by
    unfold dstOf at he
    cases ho:ops[i]? with
    | none=>rw [ho] at he; cases he
    | some o=>rw [ho] at he; exact ⟨o,rfl,he⟩
  have pair:∀ i k o p,ops[i]? = some o→ops[k]? = some p→i≠k→∀ x,p.dst=some x→o.dst≠some x∧(x∈Oper.looks (ops.toList.map (·.dst)) o→(bif Nat.blt k i then Nat.testBit ((ancs ops.toList []).getD i 0) k else Nat.testBit ((ancs ops.toList []).getD k 0) i)=true):=fun i k o p ho hp hne x hx=>by
    have:=List.all_eq_true.1 (List.all_eq_true.1 h3 _ (mem i o ho)) _ (mem k p hp)
    dsimp only at this
    rw [nbeq_ne hne,hx] at this
    simp only [Bool.false_or,Bool.and_eq_true,Bool.not_eq_true',Bool.or_eq_true] at this
    refine ⟨fun e' => ?_,fun hm => ?_⟩
    · rw [e'] at this
      simp [Nat.beq_refl] at this
    · rcases this.2 with h | h
      · exfalso
        rw [List.contains_eq_mem] at h
        simp at h
        exact h hm
      · exact h
  refine ⟨fun i e he => ?_,fun i he => ?_,fun i j x hi hj => ?_,hb,fun i k x hi hk hne hx hl => ?_,fun i o ho => ?_,fun i j id hlt hi hj => ?_⟩
  · obtain ⟨o, ho, hod⟩ := hop i e he
    have:=List.all_eq_true.1 h2 _ (mem i _ ho)
    dsimp only at this
    rw [hod] at this
    simp only [Bool.and_eq_true] at this
    refine ⟨Nat.le_of_ble_eq_true this.1.1,?_,Nat.le_of_ble_eq_true this.2⟩
    have h12:=this.1.2
    rw [Bool.or_eq_true] at h12
    rcases h12 with h | h
    · exact .inl (Nat.le_of_ble_eq_true h)
    · right
      simp only [idsOf,ho,hod,Option.getD_some]
      simpa using h
  · unfold idsOf
    cases ho:ops[i]? with
    | none=>rfl
    | some o =>
      have hod:o.dst=none:=by simpa [dstOf,ho] using he
      have:=List.all_eq_true.1 h2 _ (mem i _ ho)
      dsimp only at this
      rw [hod] at this
      simp only at this
      split at this
      · rename_i hop; simp [newIds,hop]
      · rename_i hop; simp [newIds,hop]
      · cases this
  · by_cases h : i = j
    · exact h
    · exfalso
      obtain ⟨o,ho,hod⟩:=hop i x hi
      obtain ⟨p,hp,hpd⟩:=hop j x hj
      exact (pair i j o p ho hp h x hpd).1 hod
  · obtain ⟨p, hp, hpd⟩ := hop k x hx
    have ho:ops[i]? = some ops[i]:=Array.getElem?_eq_getElem hi
    have:=(pair i k _ p ho hp (Ne.symm hne) x hpd).2 (by simpa [looksOf,ho] using hl)
    refine ⟨fun hlt => ?_,fun hlt => ?_⟩
    · have hb : Nat.blt k i = true := Nat.ble_eq_true_of_le hlt
      rw [hb] at this
      exact this
    · have hb : Nat.blt k i = false := by
        cases e:Nat.blt k i with
        | false=>rfl
        | true=>have:=Nat.le_of_ble_eq_true e; omega
      rw [hb] at this
      exact this
  · obtain ⟨pre, g1, g2, g3⟩ := ancs_get ops.toList [] i o (by simpa using ho)
    simp only [List.length_nil,Nat.zero_add] at g1 g2
    rw [List.getD_eq_getElem?_getD,g1]
    simp only [Option.getD_some]
    unfold ancOf
    refine ancF_congr _ _ (fun e he hbd => ?_)
    have hlt:=hb i o ho e (by simpa using he) hbd
    rw [List.getD_eq_getElem?_getD,List.getD_eq_getElem?_getD,g3 e.on (by omega)]
  · have := List.all_eq_true.1 (List.all_eq_true.1 h5 _ hi) _ hj
    dsimp only at this
    have hb:Nat.blt i j=true:=Nat.ble_eq_true_of_le hlt
    rw [Nat.beq_refl,hb] at this
    simpa only [Bool.not_true,Bool.false_or] using this
theorem newIds_dst {o:Oper} {d id:Nat} (h:id∈newIds o d):id=d∨∃ i,i < 4∧id=d * 1000+i:=by
  unfold newIds at h
  split at h<;>first
    | (simp at h; exact .inl h)
    | (simp at h; rcases h with h | h; exact .inl h; exact .inr ⟨0,Nat.succ_pos 3,h.trans (Nat.add_zero _).symm⟩)
    | exact .inr (callIds_mem.1 h)
    | (simp at h; done)
theorem ids_apart {ops : Array Oper} {ws : List (Nat × Nat)} {nt : Nat} (hf : DrawFacts ops ws nt) {i j id : Nat} (h1 : id ∈ idsOf ops i) (h2 : id ∈ idsOf ops j) : i = j := by
  cases he:dstOf ops i with
  | none=>rw [hf.dstN i he] at h1; cases h1
  | some e =>
    cases hx:dstOf ops j with
    | none=>rw [hf.dstN j hx] at h2; cases h2
    | some x =>
      obtain ⟨_,he0',he1⟩:=hf.dst i e he
      obtain ⟨_,hx0',hx1⟩:=hf.dst j x hx
      have he0:0 < e:=he0'.resolve_right (fun h=>by rw [h] at h1; cases h1)
      have hx0:0 < x:=hx0'.resolve_right (fun h=>by rw [h] at h2; cases h2)
      have key:∀ {k y:Nat},dstOf ops k=some y→id∈idsOf ops k→id=y∨∃ p,p < 4∧id=y * 1000+p:=by
        intro k y hk hid
        unfold idsOf at hid
        unfold dstOf at hk
        cases ho:ops[k]? with
        | none=>rw [ho] at hk; cases hk
        | some o =>
          rw [ho] at hk hid
          have hod:o.dst=some y:=hk
          simp only [hod,Option.getD_some] at hid
          exact newIds_dst hid
      have hxe:x=e:=by
        rcases key he h1 with a1 | ⟨p,hp1,a1⟩<;>rcases key hx h2 with a2 | ⟨q,hq1,a2⟩<;>omega
      subst hxe
      exact hf.uniq i j x he hx
section main
variable {ops:Array Oper} {Q:Exit→Act→World→Prop} {ws:List (Nat×Nat)} {t0:Tmps U El} {h0:Heap U El} {k:St U El→Option (Fin U El)} {v:Nat→AV U El} {nw:Nat→Heap U El} {T:Nat→Nat→AV U El} {Hs:Nat→Heap U El} {st':St U El}
theorem trace_T (htr : Trace P X ops Q ws 0 t0 h0 k r v nw T Hs st') (hf : DrawFacts ops ws X.nt) : ∀ i, i ≤ ops.size → (∀ j x, j < i → dstOf ops j = some x → T i x = v j) ∧ ∀ x, (∀ j, j < i → dstOf ops j ≠ some x) → T i x = tget t0 x := by
  intro i
  induction i with
  | zero=>intro _; exact ⟨fun j x h=>by omega,fun x _=>htr.T0 x⟩
  | succ i ih =>
    intro hi
    obtain ⟨h1,h2⟩:=ih (by omega)
    refine ⟨fun j x hj hx => ?_,fun x hx => ?_⟩
    · rw [htr.stepT i (Nat.zero_le _) (by omega) x]
      by_cases e:j=i
      · subst e; rw [if_pos hx]
      · rw [if_neg (fun h => e (hf.uniq j i x hx h))]
        exact h1 j x (by omega) hx
    · rw [htr.stepT i (Nat.zero_le _) (by omega) x, if_neg (hx i (by omega))]
      exact h2 x (fun j hj=>hx j (by omega))
def Tch (ws:List (Nat×Nat)) (nw:Nat→Heap U El) (n id:Nat):Prop:=id∈wsOf ws n∨hget (nw n) id≠none
open Classical in
noncomputable def Vf (ws:List (Nat×Nat)) (nw:Nat→Heap U El) (h0:Heap U El) (L:Nat→Prop):Nat→Nat→Option (Blk U El)
  | 0,id=>hget h0 id
  | n+1,id=>if L n∧Tch ws nw n id then hget (nw n) id else Vf ws nw h0 L n id
theorem Vf_on {L:Nat→Prop} {n id:Nat} (h:L n∧Tch ws nw n id):Vf ws nw h0 L (n+1) id=hget (nw n) id:=by simp only [Vf]; rw [if_pos h]
theorem Vf_off {L:Nat→Prop} {n id:Nat} (h:¬ (L n∧Tch ws nw n id)):Vf ws nw h0 L (n+1) id=Vf ws nw h0 L n id:=by simp only [Vf]; rw [if_neg h]
theorem Vf_all (htr:Trace P X ops Q ws 0 t0 h0 k r v nw T Hs st'):∀ n,n≤ops.size→∀ id,hget (Hs n) id=Vf ws nw h0 (fun _=>True) n id:=by
  intro n
  induction n with
  | zero=>intro _ id; rw [htr.H0]; rfl
  | succ n ih =>
    intro hn id
    by_cases h:Tch ws nw n id
    · rw [htr.stepH1 n (Nat.zero_le _) (by omega) id h,Vf_on ⟨trivial,h⟩]
    · rw [htr.stepH2 n (Nat.zero_le _) (by omega) id h, Vf_off (fun hh => h hh.2)]
      exact ih (by omega) id
theorem Vf_congr {L L':Nat→Prop}:∀ n,(∀ j,j < n→(L j↔L' j))→∀ id,Vf ws nw h0 L n id=Vf ws nw h0 L' n id:=by
  intro n
  induction n with
  | zero=>intro _ id; rfl
  | succ n ih =>
    intro h id
    by_cases c:L n∧Tch ws nw n id
    · rw [Vf_on c,Vf_on ⟨(h n (by omega)).1 c.1,c.2⟩]
    · rw [Vf_off c, Vf_off (fun c' => c ⟨(h n (by omega)).2 c'.1, c'.2⟩)]
      exact ih (fun j hj=>h j (by omega)) id
theorem Vf_none {L:Nat→Prop}:∀ n,(∀ j,j < n→¬ L j)→∀ id,Vf ws nw h0 L n id=hget h0 id:=by
  intro n
  induction n with
  | zero=>intro _ id; rfl
  | succ n ih =>
    intro h id
    rw [Vf_off (fun c=>h n (by omega) c.1)]
    exact ih (fun j hj=>h j (by omega)) id
theorem Tch_ev (htr:Trace P X ops Q ws 0 t0 h0 k r v nw T Hs st') {n id:Nat} (hn:n < ops.size) (h:Tch ws nw n id):(n,id)∈evsOf ops.toList ws:=by
  refine evs_mem ?_
  rcases h with h | h
  · exact .inr h
  · exact htr.keys n (Nat.zero_le _) hn id h
theorem Vf_step (htr : Trace P X ops Q ws 0 t0 h0 k r v nw T Hs st') (hf : DrawFacts ops ws X.nt) {L : Nat → Prop} {i : Nat} (hi : i < ops.size) (hni : ¬ L i) (hdown : ∀ j, j < ops.size → L j → AncP ops i j → False) :
    ∀ n,n≤ops.size→∀ id,(i < n∧Tch ws nw i id→Vf ws nw h0 (fun j=>L j∨j=i) n id=hget (nw i) id)∧(¬ (i < n∧Tch ws nw i id)→Vf ws nw h0 (fun j=>L j∨j=i) n id=Vf ws nw h0 L n id):=by
  intro n
  induction n with
  | zero=>intro _ id; exact ⟨fun h=>by omega,fun _=>rfl⟩
  | succ n ih =>
    intro hn id
    obtain ⟨ih1,ih2⟩:=ih (by omega) id
    by_cases hni':n=i
    · subst hni'
      refine ⟨fun h=>Vf_on ⟨.inr rfl,h.2⟩,fun h => ?_⟩
      have ht:¬ Tch ws nw n id:=fun ht=>h ⟨by omega,ht⟩
      rw [Vf_off (fun c=>ht c.2),Vf_off (fun c=>ht c.2)]
      exact ih2 (fun c=>by omega)
    · by_cases c : L n ∧ Tch ws nw n id
      · refine ⟨fun h => ?_, fun h => ?_⟩
        · exfalso
          exact hdown n (by omega) c.1 (hf.ev i n id (by omega) (Tch_ev htr hi h.2) (Tch_ev htr (by omega) c.2))
        · rw [Vf_on ⟨.inl c.1,c.2⟩,Vf_on c]
      · have c' : ¬ ((fun j => L j ∨ j = i) n ∧ Tch ws nw n id) := fun h => by
          rcases h.1 with h1 | h1
          · exact c ⟨h1,h.2⟩
          · exact hni' h1
        rw [Vf_off c',Vf_off c]
        exact ⟨fun h=>ih1 ⟨by omega,h.2⟩,fun h=>ih2 (fun hh=>h ⟨by omega,hh.2⟩)⟩
theorem Vf_see (htr : Trace P X ops Q ws 0 t0 h0 k r v nw T Hs st') {L : Nat → Prop} {i : Nat} (hi : i < ops.size) (hni : ¬ L i) (hup : ∀ j, AncP ops j i → L j) (hdown : ∀ j, j < ops.size → L j → AncP ops i j → False) {id : Nat} (hs : sfOf ops ws i id = true) :
    hget (Hs i) id=Vf ws nw h0 L ops.size id:=by
  rw [Vf_all htr i (by omega) id]
  have p1:∀ n,n≤i→Vf ws nw h0 (fun _=>True) n id=Vf ws nw h0 L n id:=by
    intro n
    induction n with
    | zero=>intro _; rfl
    | succ n ih =>
      intro hn
      by_cases h:Tch ws nw n id
      · have := (safe_of hs (by omega) (Tch_ev htr (by omega) h)).1 (by omega)
        rw [Vf_on ⟨trivial,h⟩,Vf_on ⟨hup n this,h⟩]
      · rw [Vf_off (fun c => h c.2), Vf_off (fun c => h c.2)]
        exact ih (by omega)
  have p2 : ∀ n, i ≤ n → n ≤ ops.size → Vf ws nw h0 L n id = Vf ws nw h0 L i id := by
    intro n
    induction n with
    | zero => intro h1 _; have : i = 0 := by omega
              subst this; rfl
    | succ n ih =>
      intro h1 h2
      by_cases e:i=n+1
      · rw [e]
      · rw [Vf_off (fun c => ?_)]
        · exact ih (by omega) (by omega)
        · by_cases e2 : n = i
          · subst e2; exact hni c.1
          · exact hdown n (by omega) c.1 ((safe_of hs e2 (Tch_ev htr (by omega) c.2)).2 (by omega))
  rw [p1 i (Nat.le_refl _),p2 ops.size (by omega) (Nat.le_refl _)]
structure Mid (X:Ctx U El) (B:Bd) (S0:Nat→Prop) (w0:World) (ops:Array Oper) (ws:List (Nat×Nat)) (t0:Tmps U El) (h0:Heap U El) (v:Nat→AV U El) (nw:Nat→Heap U El) (L:Nat→Prop) (S:Nat→Prop) (ρ:Rho) (H:Heap U El) (a:Act) (w:World):Prop where
  defers:a.defers=B.df
  size:a.tmps.size=X.nt
  below:Fr B w0 w
  hB:∀ k,w.heap.size≤k→B.own k
  s0:∀ b,S0 b→S b
  s1:∀ b,S b→S0 b∨B.own b
  g0:∀ w',Fr B w0 w'→X.E.G w'
  t1:∀ i x,i < ops.size→L i→dstOf ops i=some x→Rel X.E S ρ w (v i) (a.tmps.getD x undef)
  t2:∀ x,(∀ i,i < ops.size→L i→dstOf ops i≠some x)→Rel X.E S ρ w (tget t0 x) (a.tmps.getD x undef)
  heap:HRel X.E S ρ w B H
  hEq:∀ id,hget H id=Vf ws nw h0 L ops.size id
  fresh:∀ i,i < ops.size→¬ L i→∀ id∈idsOf ops i,ρ id=none
  closed:∀ i o,L i→ops[i]? = some o→∀ e∈o.after,Region.binds .any e=true→L e.on
theorem anc_in (hf : DrawFacts ops ws X.nt) {L : Nat → Prop} (hc : ∀ i o, L i → ops[i]? = some o → ∀ e ∈ o.after, Region.binds .any e = true → L e.on) : ∀ i o, ops[i]? = some o → (∀ e ∈ o.after, Region.binds .any e = true → L e.on) → ∀ k, AncP ops k i → L k := by
  intro i
  induction i using Nat.strongRecOn with
  | _ i ih =>
    intro o ho hp k hk
    unfold AncP at hk
    rw [hf.ancOk i o ho] at hk
    unfold ancOf at hk
    rcases ancF_bit _ _ _ hk with h | ⟨e,he,hb,hk⟩
    · simp at h
    · have hem : e ∈ o.after := by simpa using he
      have hL:=hp e hem hb
      rcases hk with rfl | hk
      · exact hL
      · have hlt := hf.back i o ho e hem hb
        have hi:i < ops.size:=(Array.getElem?_eq_some_iff.1 ho).1
        have ho':ops[e.on]? = some ops[e.on]:=Array.getElem?_eq_getElem (by omega)
        exact ih e.on hlt _ ho' (hc e.on _ hL ho') k hk
theorem Mid.done (htr:Trace P X ops Q ws 0 t0 h0 k r v nw T Hs st') (hf:DrawFacts ops ws X.nt) {L:Nat→Prop} {H:Heap U El} (hm:Mid X B S0 w0 ops ws t0 h0 v nw L S ρ H a w) (hall:∀ i,i < ops.size→L i):StRel X B S0 w0 st' a w:=by
  obtain ⟨hT1,hT2⟩:=trace_T htr hf ops.size (Nat.le_refl _)
  refine ⟨S,ρ,hm.defers,hm.size,hm.below,hm.hB,hm.s0,hm.s1,hm.g0,fun x => ?_,hm.heap.congr fun id => ?_⟩
  · rw [htr.endT]
    by_cases h:∃ i,i < ops.size∧dstOf ops i=some x
    · obtain ⟨i, hi, hx⟩ := h
      rw [hT1 i x hi hx]
      exact hm.t1 i x hi (hall i hi) hx
    · rw [hT2 x (fun j hj hx => h ⟨j, hj, hx⟩)]
      exact hm.t2 x (fun i hi _ hx=>h ⟨i,hi,hx⟩)
  · rw [htr.endH, Vf_all htr ops.size (Nat.le_refl _) id, hm.hEq]
    exact Vf_congr ops.size (fun j hj=>⟨fun _=>hall j hj,fun _=>trivial⟩) id
theorem Mid.step (hX : CtxOk P X) (htr : Trace P X ops Q ws 0 t0 h0 k r v nw T Hs st') (hf : DrawFacts ops ws X.nt) {L : Nat → Prop} {H : Heap U El} (hm : Mid X B S0 w0 ops ws t0 h0 v nw L S ρ H a w) {i : Nat} {o : Oper} (ho : ops[i]? = some o) (hni : ¬ L i) (hp : ∀ e ∈ o.after, Region.binds .any e = true → L e.on)
    {K:Act→World→Prop} (hK:∀ a' w' S' ρ' H',Mid X B S0 w0 ops ws t0 h0 v nw (fun j=>L j∨j=i) S' ρ' H' a' w'→K a' w'):wpOp P ops Q i K a w:=by
  have hi:i < ops.size:=(Array.getElem?_eq_some_iff.1 ho).1
  obtain ⟨hT1,hT2⟩:=trace_T htr hf i (by omega)
  have hanc:=anc_in hf hm.closed i o ho hp
  have hdown:∀ j,j < ops.size→L j→AncP ops i j→False:=fun j hj hL hij=>hni (by
    have ho':ops[j]? = some ops[j]:=Array.getElem?_eq_getElem hj
    exact anc_in hf hm.closed j _ ho' (hm.closed j _ hL ho') i hij)
  refine htr.fact i (Nat.zero_le _) hi S ρ w a B H K hm.defers hm.size hm.hB (fun w' hb=>hm.g0 _ (hm.below.trans hb)) (fun x hx => ?_) hm.heap (fun id b hsf hg => ?_) (hm.fresh i hi hni) (fun v' w' S' ρ' hres => ?_)
  · by_cases h : ∃ j, j < ops.size ∧ j ≠ i ∧ dstOf ops j = some x
    · obtain ⟨j, hj, hji, hx'⟩ := h
      obtain ⟨l1,l2⟩:=hf.looks i j x hi hj hji hx' hx
      rcases Nat.lt_or_gt_of_ne hji with hlt | hlt
      · rw [hT1 j x hlt hx']
        exact hm.t1 j x hj (hanc j (l1 hlt)) hx'
      · have hnj : ¬ L j := fun hL => hdown j hj hL (l2 hlt)
        rw [hT2 x (fun j' hj' hx2=>by have:=hf.uniq j' j x hx2 hx'; omega)]
        exact hm.t2 x (fun j' hj' hL hx2=>hnj (by have:=hf.uniq j' j x hx2 hx'; rw [← this]; exact hL))
    · rw [hT2 x (fun j hj hx' => h ⟨j, by omega, by omega, hx'⟩)]
      exact hm.t2 x (fun j hj hL hx'=>h ⟨j,hj,by rintro rfl; exact hni hL,hx'⟩)
  · rw [hm.hEq, ← Vf_see htr hi hni hanc hdown hsf]
    exact hg
  · have hput : ∀ x, (a.put (dstOf ops i) v').tmps.getD x undef = if dstOf ops i = some x then v' else a.tmps.getD x undef := fun x => by
      cases hde:dstOf ops i with
      | none=>simp [Act.put]
      | some e =>
        have hen:=(hf.dst i e hde).1
        simp only [Act.put,Array.getD_eq_getD_getElem?,Option.some.injEq]
        by_cases h:e=x
        · subst h
          rw [if_pos rfl,Array.getElem?_setIfInBounds_self_of_lt (by rw [hm.size]; exact hen)]
          rfl
        · rw [if_neg h,Array.getElem?_setIfInBounds_ne h]
    refine hK _ _ S' ρ' (nw i++hdels H (wsOf ws i)) ⟨by cases dstOf ops i<;>exact hm.defers,by cases dstOf ops i<;>simp [Act.put,hm.size],hm.below.trans hres.below,fun k hk=>hm.hB k (Nat.le_trans hres.below.size hk),fun b hb=>hres.s1 b (hm.s0 b hb),fun b hb => ?_,hm.g0,fun j x hj hL hx => ?_,fun x hx => ?_,hres.heap,fun id => ?_,fun j hj hL id hid => ?_,fun j o' hL ho' e' he' hb' => ?_⟩
    · rcases hres.s2 b hb with h | h
      · exact hm.s1 b h
      · exact .inr h
    · rw [hput]
      by_cases h:j=i
      · subst h
        rw [if_pos hx]
        exact hres.val
      · rw [if_neg (fun hx' => h (hf.uniq j i x hx hx'))]
        exact hres.rel _ _ (hm.t1 j x hj (hL.resolve_right h) hx)
    · rw [hput, if_neg (hx i hi (.inr rfl))]
      exact hres.rel _ _ (hm.t2 x (fun j hj hL=>hx j hj (.inl hL)))
    · obtain ⟨c1, c2⟩ := Vf_step htr hf (h0 := h0) hi hni hdown ops.size (Nat.le_refl _) id
      rw [hget_append,hget_hdels]
      by_cases hT:Tch ws nw i id
      · rw [c1 ⟨hi, hT⟩]
        cases hn:hget (nw i) id with
        | some b=>rfl
        | none =>
          rcases hT with h | h
          · rw [if_pos h]
          · exact absurd hn h
      · rw [c2 (fun h => hT h.2), ← hm.hEq]
        cases hn:hget (nw i) id with
        | some b=>exact absurd (.inr (by rw [hn]; simp)) hT
        | none =>
          simp only
          rw [if_neg (fun h=>hT (.inl h))]
    · have hji : j ≠ i := fun h => hL (.inr h)
      rw [hres.rho id (fun h=>hji (ids_apart hf hid h))]
      exact hm.fresh j hj (fun h=>hL (.inl h)) id hid
    · rcases hL with hL | rfl
      · exact .inl (hm.closed j o' hL ho' e' he' hb')
      · rw [ho] at ho'; cases ho'
        exact .inl (hp e' he' hb')
theorem draw_any (hX : CtxOk P X) (htr : Trace P X ops Q ws 0 t0 h0 k r v nw T Hs st') (hf : DrawFacts ops ws X.nt) (hN : ∀ a' w', StRel X B S0 w0 st' a' w' → Q .normal a' w') :
    ∀ (fuel:Nat) (listed:Array Bool) (a:Act) (w:World) (l:List Nat),listed.size=ops.size→l.length≤fuel→(∀ i,i < ops.size→listed.getD i false=false→i∈l) →
    (∃ S ρ H,Mid X B S0 w0 ops ws t0 h0 v nw (fun i=>listed.getD i false=true) S ρ H a w)→wpAny P .any ops Q fuel listed a w:=by
  have last:∀ (listed:Array Bool) (a:Act) (w:World),listed.size=ops.size→(∃ S ρ H,Mid X B S0 w0 ops ws t0 h0 v nw (fun i=>listed.getD i false=true) S ρ H a w)→Region.ready .any ops listed=[]→Q .normal a w:=by
    intro listed a w hsz ⟨S,ρ,H,hm⟩ hr
    refine hN a w (hm.done htr hf fun i hi => ?_)
    induction i using Nat.strongRecOn with
    | _ i ih =>
      cases hl:listed.getD i false with
      | true=>rfl
      | false =>
        exfalso
        have ho:ops[i]? = some ops[i]:=Array.getElem?_eq_getElem hi
        have:i∈Region.ready .any ops listed:=mem_ready.2 ⟨by
          rw [Array.getD_eq_getD_getElem?,Array.getElem?_eq_getElem (by omega)] at hl ⊢
          exact hl,_,ho,fun e he hb=>ih e.on (hf.back i _ ho e he hb) (by have:=hf.back i _ ho e he hb; omega)⟩
        rw [hr] at this
        cases this
  intro fuel
  induction fuel with
  | zero =>
    intro listed a w l hsz hl hcov hm
    have hnil:Region.ready .any ops listed=[]:=by
      cases hr:Region.ready .any ops listed with
      | nil=>rfl
      | cons i rest =>
        exfalso
        have hmem:i∈Region.ready .any ops listed:=by rw [hr]; simp
        obtain ⟨h0',o,ho,_⟩:=mem_ready.1 hmem
        have hi:i < ops.size:=(Array.getElem?_eq_some_iff.1 ho).1
        have:=hcov i hi (by
          rw [Array.getD_eq_getD_getElem?,Array.getElem?_eq_getElem (by omega)] at h0' ⊢
          exact h0')
        have:l=[]:=List.eq_nil_of_length_eq_zero (by omega)
        subst this
        simp_all
    exact ⟨hnil,last listed a w hsz hm hnil⟩
  | succ fuel ih =>
    intro listed a w l hsz hl hcov hm
    refine ⟨last listed a w hsz hm,fun i hi => ?_⟩
    obtain ⟨h0',o,ho,hp⟩:=mem_ready.1 hi
    have hil:i < ops.size:=(Array.getElem?_eq_some_iff.1 ho).1
    have hun:listed.getD i false=false:=by
      rw [Array.getD_eq_getD_getElem?,Array.getElem?_eq_getElem (by omega)] at h0' ⊢
      exact h0'
    obtain ⟨S,ρ,H,hmid⟩:=hm
    refine hmid.step hX htr hf ho (by rw [hun]; simp) hp fun a' w' S' ρ' H' hmid' => ?_
    have hget:∀ j,(listed.setIfInBounds i true).getD j false=if j=i then true else listed.getD j false:=fun j=>by
      simp only [Array.getD_eq_getD_getElem?]
      by_cases e:j=i
      · subst e; rw [if_pos rfl,Array.getElem?_setIfInBounds_self_of_lt (by omega)]; rfl
      · rw [if_neg e,Array.getElem?_setIfInBounds_ne (Ne.symm e)]
    have hmem:=hcov i hil hun
    refine ih _ a' w' (l.erase i) (by simpa using hsz) (by rw [List.length_erase_of_mem hmem]; omega) (fun j hj hjl => ?_) ⟨S',ρ',H',?_⟩
    · rw [hget] at hjl
      by_cases e:j=i
      · subst e; simp at hjl
      · rw [if_neg e] at hjl
        exact (List.mem_erase_of_ne e).2 (hcov j hj hjl)
    · have : (fun j => (listed.setIfInBounds i true).getD j false = true) = fun j => listed.getD j false = true ∨ j = i := by
        funext j
        rw [hget]
        by_cases e:j=i<;>simp [e]
      rw [this]
      exact hmid'
theorem draw_wpAny (hX:CtxOk P X) (hs:StRel X B S0 w0 st a w) (hok:drawOk X.nt ops.toList ws=true) (hN:∀ st' a' w',StRel X B S0 w0 st' a' w'→k st'=some r→Q .normal a' w')
    (hv:drawOps X (ops.toList.map (·.dst)) (safeB (ancs ops.toList []) (evsOf ops.toList ws)) ws ops.toList 0 (st.forgets (drawIds ops.toList)).t (st.forgets (drawIds ops.toList)).h k=some r):wpAny P .any ops Q ops.size (Array.replicate ops.size false) a { w with drawn:=w.drawn+1 }:=by
  have hf:=drawFacts hok
  obtain ⟨v,nw,T,Hs,st',htr⟩:=drawOps_trace (P:=P) (Q:=Q) (ws:=ws) hX ops.toList 0 _ _ rfl (by simp) hv
  obtain ⟨S,ρ,hi⟩:=hs
  have hi0:=hi.forgets hX (drawIds ops.toList)
  have hnoL:∀ i,¬ ((Array.replicate ops.size false).getD i false=true):=fun i=>by
    rw [Array.getD_eq_getD_getElem?]
    by_cases h:i < ops.size<;>simp [h]
  have hdr:Fr B w0 { w with drawn:=w.drawn+1 }:=hi0.below.drew
  refine draw_any hX htr hf (fun a' w' h=>hN st' a' w' h htr.endK) ops.size _ a _ (List.range ops.size) (by simp) (by simp) (fun i hi _=>by simpa using hi) ⟨S,ρ.dels (drawIds ops.toList),(st.forgets (drawIds ops.toList)).h,
    hi0.defers,hi0.size,hdr,hi0.hB,hi0.s0,hi0.s1,hi0.g0,fun i x _ hL=>absurd hL (hnoL i),fun x _=>(hi0.tmps x).mono (fun _ h=>h) (fun _ _=>rfl) (fun _ _ h=>h),?_,fun id=>(Vf_none ops.size (fun j _=>hnoL j) id).symm,fun i hi _ id hid => ?_,fun i _ hL=>absurd hL (hnoL i)⟩
  · exact ⟨fun j b hg=>by obtain ⟨l,h1,h2⟩:=hi0.heap.get j b hg; exact ⟨l,h1,h2.mono (fun _ h=>h) (fun _ _=>rfl) (fun _ _ h=>h) (fun hn=>⟨rfl,(h2.lt hn).2.2⟩)⟩,hi0.heap.inj,hi0.heap.lt⟩
  · refine dels_none _ _ id (.inr ?_)
    have ho:ops[i]? = some ops[i]:=Array.getElem?_eq_getElem hi
    simp only [idsOf,ho] at hid
    exact List.mem_flatMap.2 ⟨ops[i],by simp,hid⟩
theorem draw_sound {id:Nat} (hX:CtxOk P X) (hs:StRel X B S0 w0 st a w) (hok:drawOk X.nt ops.toList ws=true) (hN:∀ st' a' w',StRel X B S0 w0 st' a' w'→k st'=some r→Q .normal a' w')
    (hv:drawOps X (ops.toList.map (·.dst)) (safeB (ancs ops.toList []) (evsOf ops.toList ws)) ws ops.toList 0 (st.forgets (drawIds ops.toList)).t (st.forgets (drawIds ops.toList)).h k=some r):(Code.region id ops true).wp P Q a w :=
  wp_region_any hX.mixed (draw_wpAny hX hs hok hN hv)
end main
end
section last
variable {U:Type} {El:U→Type} {P:Program} {init:Array Oper} {o:Oper} {ws:List (Nat×Nat)} {Q:Exit→Act→World→Prop} {nt:Nat} [Drw]
theorem getD_push (l:Array Bool) (b d:Bool) (i:Nat):(l.push b).getD i d=if i < l.size then l.getD i d else if i=l.size then b else d:=by
  simp only [Array.getD_eq_getD_getElem?,Array.getElem?_push]
  by_cases h:i=l.size
  · subst h; simp
  · rw [if_neg h, if_neg h]
    by_cases h2:i < l.size
    · rw [if_pos h2]
    · rw [if_neg h2,Array.getElem?_eq_none (by omega)]; rfl
def QL (P:Program) (ops:Array Oper) (m:Nat) (Q:Exit→Act→World→Prop):Exit→Act→World→Prop
  | .normal,a,w=>wpOp P ops Q m (Q .normal) a w
  | e,a,w=>Q e a w
theorem wpOp_init {i : Nat} (hi : i < init.size) (hg : ∀ (oi : Oper) (g : Nat) (b : Bool), init[i]? = some oi → oi.guard = some (g, b) → g < i) {K : Act → World → Prop} {a : Act} {w : World} (h : wpOp P init (QL P (init.push o) init.size Q) i K a w) : wpOp P (init.push o) Q i K a w := by
  unfold wpOp at *
  have e:(init.push o)[i]? = init[i]? := by rw [Array.getElem?_push,if_neg (by omega)]
  rw [e]
  rw [Array.getElem?_eq_getElem hi] at h ⊢
  simp only at h ⊢
  have hw:Region.wanted init[i] (yielded (init.push o) a.tmps)=Region.wanted init[i] (yielded init a.tmps):=by
    unfold Region.wanted
    cases hgd:init[i].guard with
    | none=>rfl
    | some p =>
      obtain ⟨g,b⟩:=p
      have:=hg _ g b (Array.getElem?_eq_getElem hi) hgd
      have e2:(init.push o)[g]? = init[g]? := by rw [Array.getElem?_push,if_neg (by omega)]
      simp only [yielded,e2]
  rw [hw]
  split at h
  · rename_i h1
    rw [if_pos h1]
    rcases h with h | ⟨h2,h3⟩
    · left
      unfold Oper.wp at *
      generalize (execOp a.eval init[i]).run P w=r at *
      cases r with
      | ok n w' =>
        cases n<;>simp only [Oper.upon] at h ⊢ <;>
          first
            | exact h
            | exact Calls.mono h (fun e w'' he=>by cases e<;>exact he)
      | halt x w'=>cases x<;>simp only [Oper.upon] at h ⊢ <;> exact h
    · exact .inr ⟨h2,h3⟩
  · rename_i h1
    rw [if_neg h1]
    exact h
theorem last_all [DecidableEq U] {X:Ctx U El} (hf:DrawFacts init ws X.nt) {L:Nat→Prop} (hL:∀ i,L i→i < init.size) (hc:∀ i oi,L i→init[i]? = some oi→∀ e∈oi.after,Region.binds .any e=true→L e.on) (hp:∀ e∈o.after,Region.binds .any e=true→L e.on) (k:Nat) (hk:Nat.testBit (ancOf (ancs init.toList []) o) k=true):L k:=by
  unfold ancOf at hk
  rcases ancF_bit _ _ _ hk with h | ⟨e,he,hb,hk⟩
  · simp at h
  · have hem : e ∈ o.after := by simpa using he
    have h1:=hp e hem hb
    rcases hk with rfl | hk
    · exact h1
    · have ho' : init[e.on]? = some (init[e.on]'(hL _ h1)) := Array.getElem?_eq_getElem _
      exact anc_in hf hc e.on _ ho' (hc e.on _ h1 ho') k hk
theorem wpAny_last [DecidableEq U] {X : Ctx U El} (hf : DrawFacts init ws X.nt) (hlast : ∀ i, i < init.size → Nat.testBit (ancOf (ancs init.toList []) o) i = true) (hog : ∀ e ∈ o.after, Region.binds .any e = true → e.on < init.size) (hg : ∀ (i : Nat) (oi : Oper) (g : Nat) (b : Bool), init[i]? = some oi → oi.guard = some (g, b) → g < i) :
    ∀ (fuel : Nat) (listed : Array Bool) (a : Act) (w : World), listed.size = init.size → (∀ i oi, listed.getD i false = true → init[i]? = some oi → ∀ e ∈ oi.after, Region.binds .any e = true → listed.getD e.on false = true) →
      wpAny P .any init (QL P (init.push o) init.size Q) fuel listed a w→wpAny P .any (init.push o) Q (fuel+1) (listed.push false) a w:=by
  have lt_of:∀ (listed:Array Bool) (i:Nat),listed.getD i false=true→i < listed.size:=fun listed i h=>by
    rcases Nat.lt_or_ge i listed.size with h' | h'
    · exact h'
    · rw [Array.getD_eq_getD_getElem?,Array.getElem?_eq_none h'] at h; cases h
  have tf:∀ (listed:Array Bool) (i:Nat),i < listed.size→listed.getD i true=listed.getD i false:=fun listed i h=>by
    simp [Array.getD_eq_getD_getElem?,Array.getElem?_eq_getElem h]
  have R1:∀ listed:Array Bool,listed.size=init.size→Region.ready .any init listed=[]→∀ i,i < init.size→listed.getD i false=true:=by
    intro listed hsz hr i
    induction i using Nat.strongRecOn with
    | _ i ih =>
      intro hi
      cases hl:listed.getD i false with
      | true=>rfl
      | false =>
        exfalso
        have ho:init[i]? = some init[i]:=Array.getElem?_eq_getElem hi
        have:i∈Region.ready .any init listed:=mem_ready.2 ⟨by rw [tf listed i (by omega)]; exact hl,_,ho,fun e he hb=>ih e.on (hf.back i _ ho e he hb) (by have:=hf.back i _ ho e he hb; omega)⟩
        rw [hr] at this
        cases this
  have gp:∀ (listed:Array Bool) (b:Bool),listed.size=init.size→∀ i,i < init.size→(listed.push b).getD i false=listed.getD i false:=fun listed b hsz i hi=>by
    rw [getD_push,if_pos (by omega)]
  have og:∀ i,i < init.size→(init.push o)[i]? = init[i]? := fun i hi=>by rw [Array.getElem?_push,if_neg (by omega)]
  have R2:∀ listed:Array Bool,listed.size=init.size→∀ i,i < init.size→(i∈Region.ready .any (init.push o) (listed.push false)↔i∈Region.ready .any init listed):=fun listed hsz i hi=>by
    rw [mem_ready,mem_ready,og i hi,getD_push,if_pos (by omega)]
    constructor
    · rintro ⟨h0, oi, ho, hall⟩
      refine ⟨h0,oi,ho,fun e he hb => ?_⟩
      have:=hf.back i oi ho e he hb
      rw [← gp listed false hsz e.on (by omega)]
      exact hall e he hb
    · rintro ⟨h0, oi, ho, hall⟩
      refine ⟨h0,oi,ho,fun e he hb => ?_⟩
      have:=hf.back i oi ho e he hb
      rw [gp listed false hsz e.on (by omega)]
      exact hall e he hb
  have R4:∀ listed:Array Bool,listed.size=init.size→(∀ i,i < init.size→listed.getD i false=true)→init.size∈Region.ready .any (init.push o) (listed.push false):=fun listed hsz hall=>by
    refine mem_ready.2 ⟨by rw [getD_push,if_neg (by omega),if_pos hsz.symm],o,by simp,fun e he hb => ?_⟩
    have:=hog e he hb
    rw [gp listed false hsz e.on this]
    exact hall _ this
  have R5:∀ listed:Array Bool,listed.size=init.size→(∀ i,i < init.size→listed.getD i false=true)→Region.ready .any (init.push o) ((listed.push false).setIfInBounds init.size true)=[]:=fun listed hsz hall=>by
    rw [List.eq_nil_iff_forall_not_mem]
    intro i hi
    obtain ⟨h0,oi,ho,_⟩:=mem_ready.1 hi
    have hlt:i < init.size+1:=by simpa using (Array.getElem?_eq_some_iff.1 ho).1
    by_cases e:i=init.size
    · subst e
      rw [Array.getD_eq_getD_getElem?,Array.getElem?_setIfInBounds_self_of_lt (by simp; omega)] at h0
      cases h0
    · rw [getD_set_ne true (Ne.symm e), getD_push, if_pos (by omega), tf listed i (by omega), hall i (by omega)] at h0
      cases h0
  have lastStep:∀ (fuel:Nat) (listed:Array Bool) (a:Act) (w:World),listed.size=init.size→(∀ i,i < init.size→listed.getD i false=true)→wpOp P (init.push o) Q init.size (Q .normal) a w →
      wpAny P .any (init.push o) Q (fuel+1) (listed.push false) a w:=fun fuel listed a w hsz hall hq=>by
    refine ⟨fun h => ?_,fun i hi => ?_⟩
    · have := R4 listed hsz hall
      rw [h] at this
      cases this
    · obtain ⟨h0, oi, ho, _⟩ := mem_ready.1 hi
      have hlt:i < init.size+1:=by simpa using (Array.getElem?_eq_some_iff.1 ho).1
      by_cases e:i=init.size
      · subst e
        refine wpOp_mono (fun a' w' h => ?_) hq
        have hr:=R5 listed hsz hall
        cases fuel with
        | zero=>exact ⟨hr,h⟩
        | succ f=>exact ⟨fun _=>h,fun j hj=>by rw [hr] at hj; cases hj⟩
      · exfalso
        rw [getD_push,if_pos (by omega),tf listed i (by omega),hall i (by omega)] at h0
        cases h0
  intro fuel
  induction fuel with
  | zero =>
    intro listed a w hsz hc ⟨hr,hq⟩
    exact lastStep 0 listed a w hsz (R1 listed hsz hr) hq
  | succ fuel ih =>
    intro listed a w hsz hc ⟨h1,h2⟩
    cases hr:Region.ready .any init listed with
    | nil=>exact lastStep _ listed a w hsz (R1 listed hsz hr) (h1 hr)
    | cons i0 rest =>
      have hi0:i0∈Region.ready .any init listed:=by rw [hr]; simp
      have hi0':i0 < init.size:=by
        obtain ⟨_,oi,ho,_⟩:=mem_ready.1 hi0
        exact (Array.getElem?_eq_some_iff.1 ho).1
      refine ⟨fun h => ?_,fun i hi => ?_⟩
      · have := (R2 listed hsz i0 hi0').2 hi0
        rw [h] at this
        cases this
      · obtain ⟨h0, oi, ho, hall⟩ := mem_ready.1 hi
        have hlt:i < init.size+1:=by simpa using (Array.getElem?_eq_some_iff.1 ho).1
        by_cases e:i=init.size
        · exfalso
          subst e
          have hoo:oi=o:=by simpa using ho.symm
          subst hoo
          have hall':∀ k,k < init.size→listed.getD k false=true:=fun k hk =>
            last_all hf (L:=fun k=>listed.getD k false=true) (fun j hj=>by rw [← hsz]; exact lt_of listed j hj) hc (fun e he hb=>by
              have h3:=hog e he hb
              have:=hall e he hb
              rw [gp listed false hsz e.on h3] at this
              exact this) k (hlast k hk)
          obtain ⟨h5,_⟩:=mem_ready.1 hi0
          rw [tf listed i0 (by omega),hall' i0 hi0'] at h5
          cases h5
        · have hi' : i < init.size := by omega
          have hri:=(R2 listed hsz i hi').1 hi
          obtain ⟨h5,oi',ho',hall'⟩:=mem_ready.1 hri
          have hset:(listed.push false).setIfInBounds i true=(listed.setIfInBounds i true).push false:=by
            apply Array.ext_getElem?
            intro k
            by_cases hk:k=i
            · subst hk
              rw [Array.getElem?_setIfInBounds_self_of_lt (by simp; omega),Array.getElem?_push,if_neg (by simp; omega),Array.getElem?_setIfInBounds_self_of_lt (by omega)]
            · rw [Array.getElem?_setIfInBounds_ne (Ne.symm hk), Array.getElem?_push, Array.getElem?_push, Array.getElem?_setIfInBounds_ne (Ne.symm hk)]
              simp
          rw [hset]
          refine wpOp_mono (fun a' w' h => ?_) (wpOp_init hi' (fun oi g b=>hg i oi g b) (h2 i hri))
          refine ih _ a' w' (by simpa using hsz) (fun j oj hj hoj ed hed hbd => ?_) h
          by_cases hji:j=i
          · subst hji
            rw [ho'] at hoj; cases hoj
            exact getD_set_true (hall' ed hed hbd)
          · rw [getD_set_ne false (Ne.symm hji)] at hj
            exact getD_set_true (hc j oj hj hoj ed hed hbd)
end last
end Go.Proofs.Ytkeplmpcijigaaa
