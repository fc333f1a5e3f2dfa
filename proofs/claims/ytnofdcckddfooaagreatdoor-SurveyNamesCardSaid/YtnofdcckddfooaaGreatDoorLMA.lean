/- A region that draws its order, on: every order leads to the abstract run's outcome. -/
import Derived.Test.YtnofdcckddfooaaGreatDoorLL
namespace Go.Proofs.YtnofdcckddfooaaGreatDoor
set_option linter.unusedVariables false
set_option linter.unusedSectionVars false
set_option linter.unusedSimpArgs false
open Go.RowKit
section
variable {U:Type} {El:U→Type} {P:Program} {X:Ctx U El} {S S0:Nat→Prop} {ρ:Rho} {w w0:World} [DecidableEq U]
variable {o:Oper} {a:Act} {st:St U El} {B:Bd} {d:Nat} {r:Fin U El}
theorem pk {A A':List Nat}:∀ (es:List Edge) (m:Nat),(∀ e∈es,Region.binds .any e=true→A.getD e.on 0=A'.getD e.on 0)→oU A es m=oU A' es m:=by
  intro es
  induction es with
  | nil=>intro m _; rfl
  | cons e es ih =>
    intro m h
    simp only [oU]
    cases hb:Region.binds .any e with
    | false=>exact ih _ (fun e' he'=>h e' (by simp [he']))
    | true =>
      rw [h e (by simp) hb]
      exact ih _ (fun e' he'=>h e' (by simp [he']))
theorem nV {A : List Nat} : ∀ (es : List Edge) (m k : Nat), Nat.testBit (oU A es m) k = true → Nat.testBit m k = true ∨ ∃ e ∈ es, Region.binds .any e = true ∧ (k = e.on ∨ Nat.testBit (A.getD e.on 0) k = true) := by
  intro es
  induction es with
  | nil=>intro m k h; exact .inl h
  | cons e es ih =>
    intro m k h
    simp only [oU] at h
    rcases ih _ k h with h' | ⟨e',he',h'⟩
    · cases hb : Region.binds .any e with
      | false=>rw [hb] at h'; exact .inl h'
      | true =>
        rw [hb] at h'
        simp only [cond] at h'
        have h2:(Nat.testBit m k||(Nat.testBit (2 ^ e.on) k||Nat.testBit (A.getD e.on 0) k))=true:=by
          rw [← Nat.testBit_or,← Nat.testBit_or]
          exact h'
        simp only [Bool.or_eq_true] at h2
        rcases h2 with h2 | h2 | h2
        · exact .inl h2
        · right
          refine ⟨e,by simp,hb,.inl ?_⟩
          rw [Nat.testBit_two_pow] at h2
          simpa using (of_decide_eq_true h2).symm
        · exact .inr ⟨e,by simp,hb,.inr h2⟩
    · exact .inr ⟨e',by simp [he'],h'⟩
abbrev kI (ops:Array Oper) (k i:Nat):Prop:=Nat.testBit ((dV ops.toList []).getD i 0) k=true
structure DrawFacts (ops:Array Oper) (ws:List (Nat×Nat)) (nt:Nat):Prop where
  dst:∀ i e,bm ops i=some e→e < nt∧(0 < e∨ch ops i=[])∧e < 1000
  dstN:∀ i,bm ops i=none→ch ops i=[]
  uniq:∀ i j x,bm ops i=some x→bm ops j=some x→i=j
  back:∀ i o,ops[i]? = some o→∀ e∈o.after,Region.binds .any e=true→e.on < i
  looks:∀ i k x,i < ops.size→k < ops.size→k≠i→bm ops k=some x→x∈aR ops i→(k < i→kI ops k i)∧(i < k→kI ops i k)
  ancOk:∀ i o,ops[i]? = some o→(dV ops.toList []).getD i 0=d8 (dV ops.toList []) o
  ev:∀ i j id,i < j→(i,id)∈eF ops.toList ws→(j,id)∈eF ops.toList ws→kI ops i j
theorem uc {ops:Array Oper} {ws:List (Nat×Nat)} {i id:Nat} (h:id∈ch ops i∨id∈bO ws i):(i,id)∈eF ops.toList ws:=by
  unfold eF
  rcases h with h | h
  · refine List.mem_append_left _ (List.mem_flatMap.2 ?_)
    unfold ch at h
    split at h
    · rename_i o ho
      refine ⟨(o,i),?_,List.mem_map.2 ⟨id,h,rfl⟩⟩
      rw [List.mem_zipIdx_iff_getElem?]
      simpa using ho
    · cases h
  · refine List.mem_append_right _ ?_
    unfold bO at h
    obtain ⟨p,hp,rfl⟩:=List.mem_map.1 h
    obtain ⟨h1,h2⟩:=List.mem_filter.1 hp
    obtain rfl:=Nat.eq_of_beq_eq_true h2
    exact h1
theorem qE {ops:Array Oper} {ws:List (Nat×Nat)} {i id:Nat} (h:bV ops ws i id=true) {j:Nat} (hji:j≠i) (hj:(j,id)∈eF ops.toList ws):(j < i→kI ops j i)∧(i < j→kI ops i j):=by
  have:=List.all_eq_true.1 h _ hj
  dsimp only at this
  rw [Nat.beq_refl,ah hji] at this
  simp only [Bool.not_true,Bool.false_or] at this
  refine ⟨fun hlt => ?_,fun hlt => ?_⟩
  · have hb : Nat.blt j i = true := Nat.ble_eq_true_of_le hlt
    rw [hb] at this
    exact this
  · have hb : Nat.blt j i = false := by
      cases e:Nat.blt j i with
      | false=>rfl
      | true=>have:=Nat.le_of_ble_eq_true e; omega
    rw [hb] at this
    exact this
theorem su:∀ (os:List Oper) (acc:List Nat),∃ tl,dV os acc=acc++tl∧tl.length=os.length:=by
  intro os
  induction os with
  | nil=>intro acc; exact ⟨[],by simp [dV],rfl⟩
  | cons o os ih =>
    intro acc
    obtain ⟨tl,h1,h2⟩:=ih (acc++[d8 acc o])
    exact ⟨d8 acc o :: tl,by simp [dV,h1],by simp [h2]⟩
theorem sw:∀ (os:List Oper) (acc:List Nat) (i:Nat) (o:Oper),os[i]? = some o→∃ pre,(dV os acc)[acc.length+i]? = some (d8 pre o)∧pre.length=acc.length+i∧∀ k,k < pre.length→(dV os acc)[k]? = pre[k]? := by
  intro os
  induction os with
  | nil=>intro acc i o h; simp at h
  | cons p os ih =>
    intro acc i o h
    obtain ⟨tl,h1,h2⟩:=su os (acc++[d8 acc p])
    have hun:dV (p :: os) acc=dV os (acc++[d8 acc p]):=rfl
    cases i with
    | zero =>
      simp at h
      subst h
      refine ⟨acc,?_,by simp,fun k hk => ?_⟩
      · rw [hun,h1]; simp
      · rw [hun,h1,List.append_assoc,List.getElem?_append_left hk]
    | succ i =>
      obtain ⟨pre,g1,g2,g3⟩:=ih (acc++[d8 acc p]) i o (by simpa using h)
      refine ⟨pre,?_,by simp at g2; omega,fun k hk=>by rw [hun]; exact g3 k hk⟩
      rw [hun]
      rw [show acc.length+(i+1)=(acc++[d8 acc p]).length+i by simp; omega]
      exact g1
theorem lZ {ops : Array Oper} {ws : List (Nat × Nat)} {nt : Nat} (h : eM nt ops.toList ws = true) : DrawFacts ops ws nt := by
  unfold eM at h
  simp only [Bool.and_eq_true] at h
  obtain ⟨⟨⟨⟨⟨h1,h2⟩,h3⟩,h4⟩,h5⟩,h6⟩:=h
  have mem:∀ i o,ops[i]? = some o→(o,i)∈ops.toList.zipIdx:=fun i o ho=>by
    rw [List.mem_zipIdx_iff_getElem?]
    simpa using ho
  have hb:∀ i o,ops[i]? = some o→∀ e∈o.after,Region.binds .any e=true→e.on < i:=fun i o ho e he hbind=>by
    have:=List.all_eq_true.1 h1 _ (mem i o ho)
    have:=List.all_eq_true.1 this e (by simpa using he)
    rw [hbind] at this
    exact Nat.le_of_ble_eq_true (by simpa [Nat.blt] using this)
  have hop:∀ i e,bm ops i=some e→∃ o,ops[i]? = some o∧o.dst=some e:=fun i e he=>by
    unfold bm at he
    cases ho:ops[i]? with
    | none=>rw [ho] at he; cases he
    | some o=>rw [ho] at he; exact ⟨o,rfl,he⟩
  have pair:∀ i k o p,ops[i]? = some o→ops[k]? = some p→i≠k→∀ x,p.dst=some x→o.dst≠some x∧(x∈Oper.looks (ops.toList.map (·.dst)) o→(bif Nat.blt k i then Nat.testBit ((dV ops.toList []).getD i 0) k else Nat.testBit ((dV ops.toList []).getD k 0) i)=true):=fun i k o p ho hp hne x hx=>by
    have:=List.all_eq_true.1 (List.all_eq_true.1 h3 _ (mem i o ho)) _ (mem k p hp)
    dsimp only at this
    rw [ah hne,hx] at this
    simp only [Bool.false_or,Bool.and_eq_true,Bool.not_eq_true',Bool.or_eq_true] at this
    refine ⟨fun e' => ?_,fun hm => ?_⟩
    · rw [e'] at this
      simp [Nat.beq_refl] at this
    · rcases this.2 with h | h
      · exfalso
        rw [List.contains_eq_mem] at h
        simp at h
        exact h hm
      · exact h
  refine ⟨fun i e he => ?_,fun i he => ?_,fun i j x hi hj => ?_,hb,fun i k x hi hk hne hx hl => ?_,fun i o ho => ?_,fun i j id hlt hi hj => ?_⟩
  · obtain ⟨o, ho, hod⟩ := hop i e he
    have:=List.all_eq_true.1 h2 _ (mem i _ ho)
    dsimp only at this
    rw [hod] at this
    simp only [Bool.and_eq_true] at this
    refine ⟨Nat.le_of_ble_eq_true this.1.1,?_,Nat.le_of_ble_eq_true this.2⟩
    have h12:=this.1.2
    rw [Bool.or_eq_true] at h12
    rcases h12 with h | h
    · exact .inl (Nat.le_of_ble_eq_true h)
    · right
      simp only [ch,ho,hod,Option.getD_some]
      simpa using h
  · unfold ch
    cases ho:ops[i]? with
    | none=>rfl
    | some o =>
      have hod:o.dst=none:=by simpa [bm,ho] using he
      have:=List.all_eq_true.1 h2 _ (mem i _ ho)
      dsimp only at this
      rw [hod] at this
      simp only at this
      split at this
      · rename_i hop; simp [aU,hop]
      · rename_i hop; simp [aU,hop]
      · cases this
  · by_cases h : i = j
    · exact h
    · exfalso
      obtain ⟨o,ho,hod⟩:=hop i x hi
      obtain ⟨p,hp,hpd⟩:=hop j x hj
      exact (pair i j o p ho hp h x hpd).1 hod
  · obtain ⟨p, hp, hpd⟩ := hop k x hx
    have ho:ops[i]? = some ops[i]:=Array.getElem?_eq_getElem hi
    have:=(pair i k _ p ho hp (Ne.symm hne) x hpd).2 (by simpa [aR,ho] using hl)
    refine ⟨fun hlt => ?_,fun hlt => ?_⟩
    · have hb : Nat.blt k i = true := Nat.ble_eq_true_of_le hlt
      rw [hb] at this
      exact this
    · have hb : Nat.blt k i = false := by
        cases e:Nat.blt k i with
        | false=>rfl
        | true=>have:=Nat.le_of_ble_eq_true e; omega
      rw [hb] at this
      exact this
  · obtain ⟨pre, g1, g2, g3⟩ := sw ops.toList [] i o (by simpa using ho)
    simp only [List.length_nil,Nat.zero_add] at g1 g2
    rw [List.getD_eq_getElem?_getD,g1]
    simp only [Option.getD_some]
    unfold d8
    refine pk _ _ (fun e he hbd => ?_)
    have hlt:=hb i o ho e (by simpa using he) hbd
    rw [List.getD_eq_getElem?_getD,List.getD_eq_getElem?_getD,g3 e.on (by omega)]
  · have := List.all_eq_true.1 (List.all_eq_true.1 h5 _ hi) _ hj
    dsimp only at this
    have hb:Nat.blt i j=true:=Nat.ble_eq_true_of_le hlt
    rw [Nat.beq_refl,hb] at this
    simpa only [Bool.not_true,Bool.false_or] using this
theorem pm {o:Oper} {d id:Nat} (h:id∈aU o d):id=d∨∃ i,i < 4∧id=d * 1000+i:=by
  unfold aU at h
  split at h<;>first
    | (simp at h; exact .inl h)
    | (simp at h; rcases h with h | h; exact .inl h; exact .inr ⟨0,Nat.succ_pos 3,h.trans (Nat.add_zero _).symm⟩)
    | exact .inr (callIds_mem.1 h)
    | (simp at h; done)
theorem rh {ops : Array Oper} {ws : List (Nat × Nat)} {nt : Nat} (hf : DrawFacts ops ws nt) {i j id : Nat} (h1 : id ∈ ch ops i) (h2 : id ∈ ch ops j) : i = j := by
  cases he:bm ops i with
  | none=>rw [hf.dstN i he] at h1; cases h1
  | some e =>
    cases hx:bm ops j with
    | none=>rw [hf.dstN j hx] at h2; cases h2
    | some x =>
      obtain ⟨_,he0',he1⟩:=hf.dst i e he
      obtain ⟨_,hx0',hx1⟩:=hf.dst j x hx
      have he0:0 < e:=he0'.resolve_right (fun h=>by rw [h] at h1; cases h1)
      have hx0:0 < x:=hx0'.resolve_right (fun h=>by rw [h] at h2; cases h2)
      have key:∀ {k y:Nat},bm ops k=some y→id∈ch ops k→id=y∨∃ p,p < 4∧id=y * 1000+p:=by
        intro k y hk hid
        unfold ch at hid
        unfold bm at hk
        cases ho:ops[k]? with
        | none=>rw [ho] at hk; cases hk
        | some o =>
          rw [ho] at hk hid
          have hod:o.dst=some y:=hk
          simp only [hod,Option.getD_some] at hid
          exact pm hid
      have hxe:x=e:=by
        rcases key he h1 with a1 | ⟨p,hp1,a1⟩<;>rcases key hx h2 with a2 | ⟨q,hq1,a2⟩<;>omega
      subst hxe
      exact hf.uniq i j x he hx
section main
variable {ops:Array Oper} {Q:Exit→Act→World→Prop} {ws:List (Nat×Nat)} {t0:ba U El} {h0:az U El} {k:St U El→Option (Fin U El)} {v:Nat→AV U El} {nw:Nat→az U El} {T:Nat→Nat→AV U El} {Hs:Nat→az U El} {st':St U El}
theorem qF (htr : Trace P X ops Q ws 0 t0 h0 k r v nw T Hs st') (hf : DrawFacts ops ws X.nt) : ∀ i, i ≤ ops.size → (∀ j x, j < i → bm ops j = some x → T i x = v j) ∧ ∀ x, (∀ j, j < i → bm ops j ≠ some x) → T i x = aK t0 x := by
  intro i
  induction i with
  | zero=>intro _; exact ⟨fun j x h=>by omega,fun x _=>htr.T0 x⟩
  | succ i ih =>
    intro hi
    obtain ⟨h1,h2⟩:=ih (by omega)
    refine ⟨fun j x hj hx => ?_,fun x hx => ?_⟩
    · rw [htr.stepT i (Nat.zero_le _) (by omega) x]
      by_cases e:j=i
      · subst e; rw [if_pos hx]
      · rw [if_neg (fun h => e (hf.uniq j i x hx h))]
        exact h1 j x (by omega) hx
    · rw [htr.stepT i (Nat.zero_le _) (by omega) x, if_neg (hx i (by omega))]
      exact h2 x (fun j hj=>hx j (by omega))
def Tch (ws:List (Nat×Nat)) (nw:Nat→az U El) (n id:Nat):Prop:=id∈bO ws n∨ac (nw n) id≠none
open Classical in
noncomputable def Vf (ws:List (Nat×Nat)) (nw:Nat→az U El) (h0:az U El) (L:Nat→Prop):Nat→Nat→Option (Blk U El)
  | 0,id=>ac h0 id
  | n+1,id=>if L n∧Tch ws nw n id then ac (nw n) id else Vf ws nw h0 L n id
theorem jL {L:Nat→Prop} {n id:Nat} (h:L n∧Tch ws nw n id):Vf ws nw h0 L (n+1) id=ac (nw n) id:=by simp only [Vf]; rw [if_pos h]
theorem eh {L:Nat→Prop} {n id:Nat} (h:¬ (L n∧Tch ws nw n id)):Vf ws nw h0 L (n+1) id=Vf ws nw h0 L n id:=by simp only [Vf]; rw [if_neg h]
theorem sx (htr:Trace P X ops Q ws 0 t0 h0 k r v nw T Hs st'):∀ n,n≤ops.size→∀ id,ac (Hs n) id=Vf ws nw h0 (fun _=>True) n id:=by
  intro n
  induction n with
  | zero=>intro _ id; rw [htr.H0]; rfl
  | succ n ih =>
    intro hn id
    by_cases h:Tch ws nw n id
    · rw [htr.stepH1 n (Nat.zero_le _) (by omega) id h,jL ⟨trivial,h⟩]
    · rw [htr.stepH2 n (Nat.zero_le _) (by omega) id h, eh (fun hh => h hh.2)]
      exact ih (by omega) id
theorem sy {L L':Nat→Prop}:∀ n,(∀ j,j < n→(L j↔L' j))→∀ id,Vf ws nw h0 L n id=Vf ws nw h0 L' n id:=by
  intro n
  induction n with
  | zero=>intro _ id; rfl
  | succ n ih =>
    intro h id
    by_cases c:L n∧Tch ws nw n id
    · rw [jL c,jL ⟨(h n (by omega)).1 c.1,c.2⟩]
    · rw [eh c, eh (fun c' => c ⟨(h n (by omega)).2 c'.1, c'.2⟩)]
      exact ih (fun j hj=>h j (by omega)) id
theorem ud {L:Nat→Prop}:∀ n,(∀ j,j < n→¬ L j)→∀ id,Vf ws nw h0 L n id=ac h0 id:=by
  intro n
  induction n with
  | zero=>intro _ id; rfl
  | succ n ih =>
    intro h id
    rw [eh (fun c=>h n (by omega) c.1)]
    exact ih (fun j hj=>h j (by omega)) id
theorem mT (htr:Trace P X ops Q ws 0 t0 h0 k r v nw T Hs st') {n id:Nat} (hn:n < ops.size) (h:Tch ws nw n id):(n,id)∈eF ops.toList ws:=by
  refine uc ?_
  rcases h with h | h
  · exact .inr h
  · exact htr.keys n (Nat.zero_le _) hn id h
theorem ue (htr : Trace P X ops Q ws 0 t0 h0 k r v nw T Hs st') (hf : DrawFacts ops ws X.nt) {L : Nat → Prop} {i : Nat} (hi : i < ops.size) (hni : ¬ L i) (hdown : ∀ j, j < ops.size → L j → kI ops i j → False) :
    ∀ n,n≤ops.size→∀ id,(i < n∧Tch ws nw i id→Vf ws nw h0 (fun j=>L j∨j=i) n id=ac (nw i) id)∧(¬ (i < n∧Tch ws nw i id)→Vf ws nw h0 (fun j=>L j∨j=i) n id=Vf ws nw h0 L n id):=by
  intro n
  induction n with
  | zero=>intro _ id; exact ⟨fun h=>by omega,fun _=>rfl⟩
  | succ n ih =>
    intro hn id
    obtain ⟨ih1,ih2⟩:=ih (by omega) id
    by_cases hni':n=i
    · subst hni'
      refine ⟨fun h=>jL ⟨.inr rfl,h.2⟩,fun h => ?_⟩
      have ht:¬ Tch ws nw n id:=fun ht=>h ⟨by omega,ht⟩
      rw [eh (fun c=>ht c.2),eh (fun c=>ht c.2)]
      exact ih2 (fun c=>by omega)
    · by_cases c : L n ∧ Tch ws nw n id
      · refine ⟨fun h => ?_, fun h => ?_⟩
        · exfalso
          exact hdown n (by omega) c.1 (hf.ev i n id (by omega) (mT htr hi h.2) (mT htr (by omega) c.2))
        · rw [jL ⟨.inl c.1,c.2⟩,jL c]
      · have c' : ¬ ((fun j => L j ∨ j = i) n ∧ Tch ws nw n id) := fun h => by
          rcases h.1 with h1 | h1
          · exact c ⟨h1,h.2⟩
          · exact hni' h1
        rw [eh c',eh c]
        exact ⟨fun h=>ih1 ⟨by omega,h.2⟩,fun h=>ih2 (fun hh=>h ⟨by omega,hh.2⟩)⟩
theorem vd (htr : Trace P X ops Q ws 0 t0 h0 k r v nw T Hs st') {L : Nat → Prop} {i : Nat} (hi : i < ops.size) (hni : ¬ L i) (hup : ∀ j, kI ops j i → L j) (hdown : ∀ j, j < ops.size → L j → kI ops i j → False) {id : Nat} (hs : bV ops ws i id = true) :
    ac (Hs i) id=Vf ws nw h0 L ops.size id:=by
  rw [sx htr i (by omega) id]
  have p1:∀ n,n≤i→Vf ws nw h0 (fun _=>True) n id=Vf ws nw h0 L n id:=by
    intro n
    induction n with
    | zero=>intro _; rfl
    | succ n ih =>
      intro hn
      by_cases h:Tch ws nw n id
      · have := (qE hs (by omega) (mT htr (by omega) h)).1 (by omega)
        rw [jL ⟨trivial,h⟩,jL ⟨hup n this,h⟩]
      · rw [eh (fun c => h c.2), eh (fun c => h c.2)]
        exact ih (by omega)
  have p2 : ∀ n, i ≤ n → n ≤ ops.size → Vf ws nw h0 L n id = Vf ws nw h0 L i id := by
    intro n
    induction n with
    | zero => intro h1 _; have : i = 0 := by omega
              subst this; rfl
    | succ n ih =>
      intro h1 h2
      by_cases e:i=n+1
      · rw [e]
      · rw [eh (fun c => ?_)]
        · exact ih (by omega) (by omega)
        · by_cases e2 : n = i
          · subst e2; exact hni c.1
          · exact hdown n (by omega) c.1 ((qE hs e2 (mT htr (by omega) c.2)).2 (by omega))
  rw [p1 i (Nat.le_refl _),p2 ops.size (by omega) (Nat.le_refl _)]
structure Mid (X:Ctx U El) (B:Bd) (S0:Nat→Prop) (w0:World) (ops:Array Oper) (ws:List (Nat×Nat)) (t0:ba U El) (h0:az U El) (v:Nat→AV U El) (nw:Nat→az U El) (L:Nat→Prop) (S:Nat→Prop) (ρ:Rho) (H:az U El) (a:Act) (w:World):Prop where
  defers:a.defers=B.df
  size:a.tmps.size=X.nt
  below:Fr B w0 w
  hB:∀ k,w.heap.size≤k→B.own k
  s0:∀ b,S0 b→S b
  s1:∀ b,S b→S0 b∨B.own b
  g0:∀ w',Fr B w0 w'→X.E.G w'
  t1:∀ i x,i < ops.size→L i→bm ops i=some x→Rel X.E S ρ w (v i) (a.tmps.getD x undef)
  t2:∀ x,(∀ i,i < ops.size→L i→bm ops i≠some x)→Rel X.E S ρ w (aK t0 x) (a.tmps.getD x undef)
  heap:HRel X.E S ρ w B H
  hEq:∀ id,ac H id=Vf ws nw h0 L ops.size id
  fresh:∀ i,i < ops.size→¬ L i→∀ id∈ch ops i,ρ id=none
  closed:∀ i o,L i→ops[i]? = some o→∀ e∈o.after,Region.binds .any e=true→L e.on
theorem po (hf : DrawFacts ops ws X.nt) {L : Nat → Prop} (hc : ∀ i o, L i → ops[i]? = some o → ∀ e ∈ o.after, Region.binds .any e = true → L e.on) : ∀ i o, ops[i]? = some o → (∀ e ∈ o.after, Region.binds .any e = true → L e.on) → ∀ k, kI ops k i → L k := by
  intro i
  induction i using Nat.strongRecOn with
  | _ i ih =>
    intro o ho hp k hk
    unfold kI at hk
    rw [hf.ancOk i o ho] at hk
    unfold d8 at hk
    rcases nV _ _ _ hk with h | ⟨e,he,hb,hk⟩
    · simp at h
    · have hem : e ∈ o.after := by simpa using he
      have hL:=hp e hem hb
      rcases hk with rfl | hk
      · exact hL
      · have hlt := hf.back i o ho e hem hb
        have hi:i < ops.size:=(Array.getElem?_eq_some_iff.1 ho).1
        have ho':ops[e.on]? = some ops[e.on]:=Array.getElem?_eq_getElem (by omega)
        exact ih e.on hlt _ ho' (hc e.on _ hL ho') k hk
theorem Mid.done (htr:Trace P X ops Q ws 0 t0 h0 k r v nw T Hs st') (hf:DrawFacts ops ws X.nt) {L:Nat→Prop} {H:az U El} (hm:Mid X B S0 w0 ops ws t0 h0 v nw L S ρ H a w) (hall:∀ i,i < ops.size→L i):StRel X B S0 w0 st' a w:=by
  obtain ⟨hT1,hT2⟩:=qF htr hf ops.size (Nat.le_refl _)
  refine ⟨S,ρ,hm.defers,hm.size,hm.below,hm.hB,hm.s0,hm.s1,hm.g0,fun x => ?_,hm.heap.congr fun id => ?_⟩
  · rw [htr.endT]
    by_cases h:∃ i,i < ops.size∧bm ops i=some x
    · obtain ⟨i, hi, hx⟩ := h
      rw [hT1 i x hi hx]
      exact hm.t1 i x hi (hall i hi) hx
    · rw [hT2 x (fun j hj hx => h ⟨j, hj, hx⟩)]
      exact hm.t2 x (fun i hi _ hx=>h ⟨i,hi,hx⟩)
  · rw [htr.endH, sx htr ops.size (Nat.le_refl _) id, hm.hEq]
    exact sy ops.size (fun j hj=>⟨fun _=>hall j hj,fun _=>trivial⟩) id
theorem Mid.step (hX : CtxOk P X) (htr : Trace P X ops Q ws 0 t0 h0 k r v nw T Hs st') (hf : DrawFacts ops ws X.nt) {L : Nat → Prop} {H : az U El} (hm : Mid X B S0 w0 ops ws t0 h0 v nw L S ρ H a w) {i : Nat} {o : Oper} (ho : ops[i]? = some o) (hni : ¬ L i) (hp : ∀ e ∈ o.after, Region.binds .any e = true → L e.on)
    {K:Act→World→Prop} (hK:∀ a' w' S' ρ' H',Mid X B S0 w0 ops ws t0 h0 v nw (fun j=>L j∨j=i) S' ρ' H' a' w'→K a' w'):wpOp P ops Q i K a w:=by
  have hi:i < ops.size:=(Array.getElem?_eq_some_iff.1 ho).1
  obtain ⟨hT1,hT2⟩:=qF htr hf i (by omega)
  have hanc:=po hf hm.closed i o ho hp
  have hdown:∀ j,j < ops.size→L j→kI ops i j→False:=fun j hj hL hij=>hni (by
    have ho':ops[j]? = some ops[j]:=Array.getElem?_eq_getElem hj
    exact po hf hm.closed j _ ho' (hm.closed j _ hL ho') i hij)
  refine htr.fact i (Nat.zero_le _) hi S ρ w a B H K hm.defers hm.size hm.hB (fun w' hb=>hm.g0 _ (hm.below.trans hb)) (fun x hx => ?_) hm.heap (fun id b hsf hg => ?_) (hm.fresh i hi hni) (fun v' w' S' ρ' hres => ?_)
  · by_cases h : ∃ j, j < ops.size ∧ j ≠ i ∧ bm ops j = some x
    · obtain ⟨j, hj, hji, hx'⟩ := h
      obtain ⟨l1,l2⟩:=hf.looks i j x hi hj hji hx' hx
      rcases Nat.lt_or_gt_of_ne hji with hlt | hlt
      · rw [hT1 j x hlt hx']
        exact hm.t1 j x hj (hanc j (l1 hlt)) hx'
      · have hnj : ¬ L j := fun hL => hdown j hj hL (l2 hlt)
        rw [hT2 x (fun j' hj' hx2=>by have:=hf.uniq j' j x hx2 hx'; omega)]
        exact hm.t2 x (fun j' hj' hL hx2=>hnj (by have:=hf.uniq j' j x hx2 hx'; rw [← this]; exact hL))
    · rw [hT2 x (fun j hj hx' => h ⟨j, by omega, by omega, hx'⟩)]
      exact hm.t2 x (fun j hj hL hx'=>h ⟨j,hj,by rintro rfl; exact hni hL,hx'⟩)
  · rw [hm.hEq, ← vd htr hi hni hanc hdown hsf]
    exact hg
  · have hput : ∀ x, (a.put (bm ops i) v').tmps.getD x undef = if bm ops i = some x then v' else a.tmps.getD x undef := fun x => by
      cases hde:bm ops i with
      | none=>simp [Act.put]
      | some e =>
        have hen:=(hf.dst i e hde).1
        simp only [Act.put,Array.getD_eq_getD_getElem?,Option.some.injEq]
        by_cases h:e=x
        · subst h
          rw [if_pos rfl,Array.getElem?_setIfInBounds_self_of_lt (by rw [hm.size]; exact hen)]
          rfl
        · rw [if_neg h,Array.getElem?_setIfInBounds_ne h]
    refine hK _ _ S' ρ' (nw i++bL H (bO ws i)) ⟨by cases bm ops i<;>exact hm.defers,by cases bm ops i<;>simp [Act.put,hm.size],hm.below.trans hres.below,fun k hk=>hm.hB k (Nat.le_trans hres.below.size hk),fun b hb=>hres.s1 b (hm.s0 b hb),fun b hb => ?_,hm.g0,fun j x hj hL hx => ?_,fun x hx => ?_,hres.heap,fun id => ?_,fun j hj hL id hid => ?_,fun j o' hL ho' e' he' hb' => ?_⟩
    · rcases hres.s2 b hb with h | h
      · exact hm.s1 b h
      · exact .inr h
    · rw [hput]
      by_cases h:j=i
      · subst h
        rw [if_pos hx]
        exact hres.val
      · rw [if_neg (fun hx' => h (hf.uniq j i x hx hx'))]
        exact hres.rel _ _ (hm.t1 j x hj (hL.resolve_right h) hx)
    · rw [hput, if_neg (hx i hi (.inr rfl))]
      exact hres.rel _ _ (hm.t2 x (fun j hj hL=>hx j hj (.inl hL)))
    · obtain ⟨c1, c2⟩ := ue htr hf (h0 := h0) hi hni hdown ops.size (Nat.le_refl _) id
      rw [bf,be]
      by_cases hT:Tch ws nw i id
      · rw [c1 ⟨hi, hT⟩]
        cases hn:ac (nw i) id with
        | some b=>rfl
        | none =>
          rcases hT with h | h
          · rw [if_pos h]
          · exact absurd hn h
      · rw [c2 (fun h => hT h.2), ← hm.hEq]
        cases hn:ac (nw i) id with
        | some b=>exact absurd (.inr (by rw [hn]; simp)) hT
        | none =>
          simp only
          rw [if_neg (fun h=>hT (.inl h))]
    · have hji : j ≠ i := fun h => hL (.inr h)
      rw [hres.rho id (fun h=>hji (rh hf hid h))]
      exact hm.fresh j hj (fun h=>hL (.inl h)) id hid
    · rcases hL with hL | rfl
      · exact .inl (hm.closed j o' hL ho' e' he' hb')
      · rw [ho] at ho'; cases ho'
        exact .inl (hp e' he' hb')
theorem sB (hX : CtxOk P X) (htr : Trace P X ops Q ws 0 t0 h0 k r v nw T Hs st') (hf : DrawFacts ops ws X.nt) (hN : ∀ a' w', StRel X B S0 w0 st' a' w' → Q .normal a' w') :
    ∀ (fuel:Nat) (listed:Array Bool) (a:Act) (w:World) (l:List Nat),listed.size=ops.size→l.length≤fuel→(∀ i,i < ops.size→listed.getD i false=false→i∈l) →
    (∃ S ρ H,Mid X B S0 w0 ops ws t0 h0 v nw (fun i=>listed.getD i false=true) S ρ H a w)→wpAny P .any ops Q fuel listed a w:=by
  have last:∀ (listed:Array Bool) (a:Act) (w:World),listed.size=ops.size→(∃ S ρ H,Mid X B S0 w0 ops ws t0 h0 v nw (fun i=>listed.getD i false=true) S ρ H a w)→Region.ready .any ops listed=[]→Q .normal a w:=by
    intro listed a w hsz ⟨S,ρ,H,hm⟩ hr
    refine hN a w (hm.done htr hf fun i hi => ?_)
    induction i using Nat.strongRecOn with
    | _ i ih =>
      cases hl:listed.getD i false with
      | true=>rfl
      | false =>
        exfalso
        have ho:ops[i]? = some ops[i]:=Array.getElem?_eq_getElem hi
        have:i∈Region.ready .any ops listed:=mem_ready.2 ⟨by
          rw [Array.getD_eq_getD_getElem?,Array.getElem?_eq_getElem (by omega)] at hl ⊢
          exact hl,_,ho,fun e he hb=>ih e.on (hf.back i _ ho e he hb) (by have:=hf.back i _ ho e he hb; omega)⟩
        rw [hr] at this
        cases this
  intro fuel
  induction fuel with
  | zero =>
    intro listed a w l hsz hl hcov hm
    have hnil:Region.ready .any ops listed=[]:=by
      cases hr:Region.ready .any ops listed with
      | nil=>rfl
      | cons i rest =>
        exfalso
        have hmem:i∈Region.ready .any ops listed:=by rw [hr]; simp
        obtain ⟨h0',o,ho,_⟩:=mem_ready.1 hmem
        have hi:i < ops.size:=(Array.getElem?_eq_some_iff.1 ho).1
        have:=hcov i hi (by
          rw [Array.getD_eq_getD_getElem?,Array.getElem?_eq_getElem (by omega)] at h0' ⊢
          exact h0')
        have:l=[]:=List.eq_nil_of_length_eq_zero (by omega)
        subst this
        simp_all
    exact ⟨hnil,last listed a w hsz hm hnil⟩
  | succ fuel ih =>
    intro listed a w l hsz hl hcov hm
    refine ⟨last listed a w hsz hm,fun i hi => ?_⟩
    obtain ⟨h0',o,ho,hp⟩:=mem_ready.1 hi
    have hil:i < ops.size:=(Array.getElem?_eq_some_iff.1 ho).1
    have hun:listed.getD i false=false:=by
      rw [Array.getD_eq_getD_getElem?,Array.getElem?_eq_getElem (by omega)] at h0' ⊢
      exact h0'
    obtain ⟨S,ρ,H,hmid⟩:=hm
    refine hmid.step hX htr hf ho (by rw [hun]; simp) hp fun a' w' S' ρ' H' hmid' => ?_
    have ac:∀ j,(listed.setIfInBounds i true).getD j false=if j=i then true else listed.getD j false:=fun j=>by
      simp only [Array.getD_eq_getD_getElem?]
      by_cases e:j=i
      · subst e; rw [if_pos rfl,Array.getElem?_setIfInBounds_self_of_lt (by omega)]; rfl
      · rw [if_neg e,Array.getElem?_setIfInBounds_ne (Ne.symm e)]
    have hmem:=hcov i hil hun
    refine ih _ a' w' (l.erase i) (by simpa using hsz) (by rw [List.length_erase_of_mem hmem]; omega) (fun j hj hjl => ?_) ⟨S',ρ',H',?_⟩
    · rw [ac] at hjl
      by_cases e:j=i
      · subst e; simp at hjl
      · rw [if_neg e] at hjl
        exact (List.mem_erase_of_ne e).2 (hcov j hj hjl)
    · have : (fun j => (listed.setIfInBounds i true).getD j false = true) = fun j => listed.getD j false = true ∨ j = i := by
        funext j
        rw [ac]
        by_cases e:j=i<;>simp [e]
      rw [this]
      exact hmid'
theorem kJ (hX:CtxOk P X) (hs:StRel X B S0 w0 st a w) (hok:eM X.nt ops.toList ws=true) (hN:∀ st' a' w',StRel X B S0 w0 st' a' w'→k st'=some r→Q .normal a' w')
    (hv:bZ X (ops.toList.map (·.dst)) (kq (dV ops.toList []) (eF ops.toList ws)) ws ops.toList 0 (st.forgets (cr ops.toList)).t (st.forgets (cr ops.toList)).h k=some r):wpAny P .any ops Q ops.size (Array.replicate ops.size false) a { w with drawn:=w.drawn+1 }:=by
  have hf:=lZ hok
  obtain ⟨v,nw,T,Hs,st',htr⟩:=lM (P:=P) (Q:=Q) (ws:=ws) hX ops.toList 0 _ _ rfl (by simp) hv
  obtain ⟨S,ρ,hi⟩:=hs
  have hi0:=hi.forgets hX (cr ops.toList)
  have hnoL:∀ i,¬ ((Array.replicate ops.size false).getD i false=true):=fun i=>by
    rw [Array.getD_eq_getD_getElem?]
    by_cases h:i < ops.size<;>simp [h]
  have hdr:Fr B w0 { w with drawn:=w.drawn+1 }:=hi0.below.drew
  refine sB hX htr hf (fun a' w' h=>hN st' a' w' h htr.endK) ops.size _ a _ (List.range ops.size) (by simp) (by simp) (fun i hi _=>by simpa using hi) ⟨S,ρ.dels (cr ops.toList),(st.forgets (cr ops.toList)).h,
    hi0.defers,hi0.size,hdr,hi0.hB,hi0.s0,hi0.s1,hi0.g0,fun i x _ hL=>absurd hL (hnoL i),fun x _=>(hi0.tmps x).mono (fun _ h=>h) (fun _ _=>rfl) (fun _ _ h=>h),?_,fun id=>(ud ops.size (fun j _=>hnoL j) id).symm,fun i hi _ id hid => ?_,fun i _ hL=>absurd hL (hnoL i)⟩
  · exact ⟨fun j b hg=>by obtain ⟨l,h1,h2⟩:=hi0.heap.get j b hg; exact ⟨l,h1,h2.mono (fun _ h=>h) (fun _ _=>rfl) (fun _ _ h=>h) (fun hn=>⟨rfl,(h2.lt hn).2.2⟩)⟩,hi0.heap.inj,hi0.heap.lt⟩
  · refine eW _ _ id (.inr ?_)
    have ho:ops[i]? = some ops[i]:=Array.getElem?_eq_getElem hi
    simp only [ch,ho] at hid
    exact List.mem_flatMap.2 ⟨ops[i],by simp,hid⟩
theorem kK {id:Nat} (hX:CtxOk P X) (hs:StRel X B S0 w0 st a w) (hok:eM X.nt ops.toList ws=true) (hN:∀ st' a' w',StRel X B S0 w0 st' a' w'→k st'=some r→Q .normal a' w')
    (hv:bZ X (ops.toList.map (·.dst)) (kq (dV ops.toList []) (eF ops.toList ws)) ws ops.toList 0 (st.forgets (cr ops.toList)).t (st.forgets (cr ops.toList)).h k=some r):(Code.region id ops true).wp P Q a w :=
  wp_region_any hX.mixed (kJ hX hs hok hN hv)
end main
end
section last
variable {U:Type} {El:U→Type} {P:Program} {init:Array Oper} {o:Oper} {ws:List (Nat×Nat)} {Q:Exit→Act→World→Prop} {nt:Nat}
theorem eY (l:Array Bool) (b d:Bool) (i:Nat):(l.push b).getD i d=if i < l.size then l.getD i d else if i=l.size then b else d:=by
  simp only [Array.getD_eq_getD_getElem?,Array.getElem?_push]
  by_cases h:i=l.size
  · subst h; simp
  · rw [if_neg h, if_neg h]
    by_cases h2:i < l.size
    · rw [if_pos h2]
    · rw [if_neg h2,Array.getElem?_eq_none (by omega)]; rfl
def QL (P:Program) (ops:Array Oper) (m:Nat) (Q:Exit→Act→World→Prop):Exit→Act→World→Prop
  | .normal,a,w=>wpOp P ops Q m (Q .normal) a w
  | e,a,w=>Q e a w
theorem ri {i : Nat} (hi : i < init.size) (hg : ∀ (oi : Oper) (g : Nat) (b : Bool), init[i]? = some oi → oi.guard = some (g, b) → g < i) {K : Act → World → Prop} {a : Act} {w : World} (h : wpOp P init (QL P (init.push o) init.size Q) i K a w) : wpOp P (init.push o) Q i K a w := by
  unfold wpOp at *
  have e:(init.push o)[i]? = init[i]? := by rw [Array.getElem?_push,if_neg (by omega)]
  rw [e]
  rw [Array.getElem?_eq_getElem hi] at h ⊢
  simp only at h ⊢
  have hw:Region.wanted init[i] (yielded (init.push o) a.tmps)=Region.wanted init[i] (yielded init a.tmps):=by
    unfold Region.wanted
    cases hgd:init[i].guard with
    | none=>rfl
    | some p =>
      obtain ⟨g,b⟩:=p
      have:=hg _ g b (Array.getElem?_eq_getElem hi) hgd
      have e2:(init.push o)[g]? = init[g]? := by rw [Array.getElem?_push,if_neg (by omega)]
      simp only [yielded,e2]
  rw [hw]
  split at h
  · rename_i h1
    rw [if_pos h1]
    rcases h with h | ⟨h2,h3⟩
    · left
      unfold Oper.wp at *
      generalize (execOp a.eval init[i]).run P w=r at *
      cases r with
      | ok n w' =>
        cases n<;>simp only [Oper.upon] at h ⊢ <;>
          first
            | exact h
            | exact Calls.mono h (fun e w'' he=>by cases e<;>exact he)
      | halt x w'=>cases x<;>simp only [Oper.upon] at h ⊢ <;> exact h
    · exact .inr ⟨h2,h3⟩
  · rename_i h1
    rw [if_neg h1]
    exact h
theorem sC [DecidableEq U] {X:Ctx U El} (hf:DrawFacts init ws X.nt) {L:Nat→Prop} (hL:∀ i,L i→i < init.size) (hc:∀ i oi,L i→init[i]? = some oi→∀ e∈oi.after,Region.binds .any e=true→L e.on) (hp:∀ e∈o.after,Region.binds .any e=true→L e.on) (k:Nat) (hk:Nat.testBit (d8 (dV init.toList []) o) k=true):L k:=by
  unfold d8 at hk
  rcases nV _ _ _ hk with h | ⟨e,he,hb,hk⟩
  · simp at h
  · have hem : e ∈ o.after := by simpa using he
    have h1:=hp e hem hb
    rcases hk with rfl | hk
    · exact h1
    · have ho' : init[e.on]? = some (init[e.on]'(hL _ h1)) := Array.getElem?_eq_getElem _
      exact po hf hc e.on _ ho' (hc e.on _ h1 ho') k hk
theorem pp [DecidableEq U] {X : Ctx U El} (hf : DrawFacts init ws X.nt) (hlast : ∀ i, i < init.size → Nat.testBit (d8 (dV init.toList []) o) i = true) (hog : ∀ e ∈ o.after, Region.binds .any e = true → e.on < init.size) (hg : ∀ (i : Nat) (oi : Oper) (g : Nat) (b : Bool), init[i]? = some oi → oi.guard = some (g, b) → g < i) :
    ∀ (fuel : Nat) (listed : Array Bool) (a : Act) (w : World), listed.size = init.size → (∀ i oi, listed.getD i false = true → init[i]? = some oi → ∀ e ∈ oi.after, Region.binds .any e = true → listed.getD e.on false = true) →
      wpAny P .any init (QL P (init.push o) init.size Q) fuel listed a w→wpAny P .any (init.push o) Q (fuel+1) (listed.push false) a w:=by
  have lt_of:∀ (listed:Array Bool) (i:Nat),listed.getD i false=true→i < listed.size:=fun listed i h=>by
    rcases Nat.lt_or_ge i listed.size with h' | h'
    · exact h'
    · rw [Array.getD_eq_getD_getElem?,Array.getElem?_eq_none h'] at h; cases h
  have tf:∀ (listed:Array Bool) (i:Nat),i < listed.size→listed.getD i true=listed.getD i false:=fun listed i h=>by
    simp [Array.getD_eq_getD_getElem?,Array.getElem?_eq_getElem h]
  have R1:∀ listed:Array Bool,listed.size=init.size→Region.ready .any init listed=[]→∀ i,i < init.size→listed.getD i false=true:=by
    intro listed hsz hr i
    induction i using Nat.strongRecOn with
    | _ i ih =>
      intro hi
      cases hl:listed.getD i false with
      | true=>rfl
      | false =>
        exfalso
        have ho:init[i]? = some init[i]:=Array.getElem?_eq_getElem hi
        have:i∈Region.ready .any init listed:=mem_ready.2 ⟨by rw [tf listed i (by omega)]; exact hl,_,ho,fun e he hb=>ih e.on (hf.back i _ ho e he hb) (by have:=hf.back i _ ho e he hb; omega)⟩
        rw [hr] at this
        cases this
  have gp:∀ (listed:Array Bool) (b:Bool),listed.size=init.size→∀ i,i < init.size→(listed.push b).getD i false=listed.getD i false:=fun listed b hsz i hi=>by
    rw [eY,if_pos (by omega)]
  have og:∀ i,i < init.size→(init.push o)[i]? = init[i]? := fun i hi=>by rw [Array.getElem?_push,if_neg (by omega)]
  have R2:∀ listed:Array Bool,listed.size=init.size→∀ i,i < init.size→(i∈Region.ready .any (init.push o) (listed.push false)↔i∈Region.ready .any init listed):=fun listed hsz i hi=>by
    rw [mem_ready,mem_ready,og i hi,eY,if_pos (by omega)]
    constructor
    · rintro ⟨h0, oi, ho, hall⟩
      refine ⟨h0,oi,ho,fun e he hb => ?_⟩
      have:=hf.back i oi ho e he hb
      rw [← gp listed false hsz e.on (by omega)]
      exact hall e he hb
    · rintro ⟨h0, oi, ho, hall⟩
      refine ⟨h0,oi,ho,fun e he hb => ?_⟩
      have:=hf.back i oi ho e he hb
      rw [gp listed false hsz e.on (by omega)]
      exact hall e he hb
  have R4:∀ listed:Array Bool,listed.size=init.size→(∀ i,i < init.size→listed.getD i false=true)→init.size∈Region.ready .any (init.push o) (listed.push false):=fun listed hsz hall=>by
    refine mem_ready.2 ⟨by rw [eY,if_neg (by omega),if_pos hsz.symm],o,by simp,fun e he hb => ?_⟩
    have:=hog e he hb
    rw [gp listed false hsz e.on this]
    exact hall _ this
  have R5:∀ listed:Array Bool,listed.size=init.size→(∀ i,i < init.size→listed.getD i false=true)→Region.ready .any (init.push o) ((listed.push false).setIfInBounds init.size true)=[]:=fun listed hsz hall=>by
    rw [List.eq_nil_iff_forall_not_mem]
    intro i hi
    obtain ⟨h0,oi,ho,_⟩:=mem_ready.1 hi
    have hlt:i < init.size+1:=by simpa using (Array.getElem?_eq_some_iff.1 ho).1
    by_cases e:i=init.size
    · subst e
      rw [Array.getD_eq_getD_getElem?,Array.getElem?_setIfInBounds_self_of_lt (by simp; omega)] at h0
      cases h0
    · rw [getD_set_ne true (Ne.symm e), eY, if_pos (by omega), tf listed i (by omega), hall i (by omega)] at h0
      cases h0
  have lastStep:∀ (fuel:Nat) (listed:Array Bool) (a:Act) (w:World),listed.size=init.size→(∀ i,i < init.size→listed.getD i false=true)→wpOp P (init.push o) Q init.size (Q .normal) a w →
      wpAny P .any (init.push o) Q (fuel+1) (listed.push false) a w:=fun fuel listed a w hsz hall hq=>by
    refine ⟨fun h => ?_,fun i hi => ?_⟩
    · have := R4 listed hsz hall
      rw [h] at this
      cases this
    · obtain ⟨h0, oi, ho, _⟩ := mem_ready.1 hi
      have hlt:i < init.size+1:=by simpa using (Array.getElem?_eq_some_iff.1 ho).1
      by_cases e:i=init.size
      · subst e
        refine wpOp_mono (fun a' w' h => ?_) hq
        have hr:=R5 listed hsz hall
        cases fuel with
        | zero=>exact ⟨hr,h⟩
        | succ f=>exact ⟨fun _=>h,fun j hj=>by rw [hr] at hj; cases hj⟩
      · exfalso
        rw [eY,if_pos (by omega),tf listed i (by omega),hall i (by omega)] at h0
        cases h0
  intro fuel
  induction fuel with
  | zero =>
    intro listed a w hsz hc ⟨hr,hq⟩
    exact lastStep 0 listed a w hsz (R1 listed hsz hr) hq
  | succ fuel ih =>
    intro listed a w hsz hc ⟨h1,h2⟩
    cases hr:Region.ready .any init listed with
    | nil=>exact lastStep _ listed a w hsz (R1 listed hsz hr) (h1 hr)
    | cons i0 rest =>
      have hi0:i0∈Region.ready .any init listed:=by rw [hr]; simp
      have hi0':i0 < init.size:=by
        obtain ⟨_,oi,ho,_⟩:=mem_ready.1 hi0
        exact (Array.getElem?_eq_some_iff.1 ho).1
      refine ⟨fun h => ?_,fun i hi => ?_⟩
      · have := (R2 listed hsz i0 hi0').2 hi0
        rw [h] at this
        cases this
      · obtain ⟨h0, oi, ho, hall⟩ := mem_ready.1 hi
        have hlt:i < init.size+1:=by simpa using (Array.getElem?_eq_some_iff.1 ho).1
        by_cases e:i=init.size
        · exfalso
          subst e
          have hoo:oi=o:=by simpa using ho.symm
          subst hoo
          have hall':∀ k,k < init.size→listed.getD k false=true:=fun k hk =>
            sC hf (L:=fun k=>listed.getD k false=true) (fun j hj=>by rw [← hsz]; exact lt_of listed j hj) hc (fun e he hb=>by
              have h3:=hog e he hb
              have:=hall e he hb
              rw [gp listed false hsz e.on h3] at this
              exact this) k (hlast k hk)
          obtain ⟨h5,_⟩:=mem_ready.1 hi0
          rw [tf listed i0 (by omega),hall' i0 hi0'] at h5
          cases h5
        · have hi' : i < init.size := by omega
          have hri:=(R2 listed hsz i hi').1 hi
          obtain ⟨h5,oi',ho',hall'⟩:=mem_ready.1 hri
          have bM:(listed.push false).setIfInBounds i true=(listed.setIfInBounds i true).push false:=by
            apply Array.ext_getElem?
            intro k
            by_cases hk:k=i
            · subst hk
              rw [Array.getElem?_setIfInBounds_self_of_lt (by simp; omega),Array.getElem?_push,if_neg (by simp; omega),Array.getElem?_setIfInBounds_self_of_lt (by omega)]
            · rw [Array.getElem?_setIfInBounds_ne (Ne.symm hk), Array.getElem?_push, Array.getElem?_push, Array.getElem?_setIfInBounds_ne (Ne.symm hk)]
              simp
          rw [bM]
          refine wpOp_mono (fun a' w' h => ?_) (ri hi' (fun oi g b=>hg i oi g b) (h2 i hri))
          refine ih _ a' w' (by simpa using hsz) (fun j oj hj hoj ed hed hbd => ?_) h
          by_cases hji:j=i
          · subst hji
            rw [ho'] at hoj; cases hoj
            exact getD_set_true (hall' ed hed hbd)
          · rw [getD_set_ne false (Ne.symm hji)] at hj
            exact getD_set_true (hc j oj hj hoj ed hed hbd)
end last
end Go.Proofs.YtnofdcckddfooaaGreatDoor

namespace Go.Proofs.YtnofdcckddfooaaGreatDoor
set_option linter.unusedVariables false
set_option linter.unusedSectionVars false
set_option linter.unusedSimpArgs false
open Go.RowKit
section
variable {U:Type} {El:U→Type} {P:Program} {X:Ctx U El} {S S0:Nat→Prop} {ρ ρ':Rho} {w w0:World} [DecidableEq U]
variable {a:Act} {st:St U El} {B:Bd} {r:Fin U El}
theorem Rel.renA {E:Univ U El} {c:AV U El} {v:Value} (hg:UGood P E) {σ:Nat→Nat} (hr:Rel E S ρ w c v) (hσ:∀ j l,ρ j=some l→ρ' (σ j)=some l):Rel E S ρ' w (c.ren σ) v:=by
  have ix:∀ {cs:List (AV U El)} {i:Nat} {c':AV U El},(cs.map (AV.ren σ))[i]? = some c'→∃ c,cs[i]? = some c∧c.ren σ=c':=fun h=>by simpa [List.getElem?_map,Option.map_eq_some_iff] using h
  induction hr with
  | any v=>exact .any v
  | bool b=>exact .bool b
  | int k n=>exact .int k n
  | str s=>exact .str s
  | nilp=>exact .nilp
  | nils=>exact .nils
  | nili=>exact .nili
  | nilf=>exact .nilf
  | nilm=>exact .nilm
  | agg cs vs hl h ih =>
    show Rel E S ρ' w (.agg (AV.ren.renL σ cs)) _
    rw [cM]
    refine .agg _ vs (by simp [hl]) fun i c' v hc hv => ?_
    obtain ⟨c,h1,rfl⟩:=ix hc
    exact ih i c v h1 hv
  | tup cs vs hl h ih =>
    show Rel E S ρ' w (.tup (AV.ren.renL σ cs)) _
    rw [cM]
    refine .tup _ vs (by simp [hl]) fun i c' v hc hv => ?_
    obtain ⟨c,h1,rfl⟩:=ix hc
    exact ih i c v h1 hv
  | lstE u ao cap=>exact .lstE u ao cap
  | lst u xs b off cap val hb hc hcell h ih=>exact .lst u xs b off cap val hb hc hcell fun i x j c hi hj=>(h i x j c hi hj).cellρ hg (hg.cell u x c (List.mem_of_getElem? hj))
  | ful j cap l hl h1 h2=>exact .ful _ cap l (hσ _ _ hl) h1 h2
  | fulN j l hl h1 h2=>exact .fulN _ l (hσ _ _ hl) h1 h2
  | own j lo len cap l hl h1 h2 h3=>exact .own _ lo len cap l (hσ _ _ hl) h1 h2 h3
  | ownE j lo ao cap=>exact .ownE _ lo ao cap
  | ptr j off l hl=>exact .ptr _ off l (hσ _ _ hl)
  | row j i off l hl=>exact .row _ i off l (hσ _ _ hl)
  | mp j l hl=>exact .mp _ l (hσ _ _ hl)
  | fmp u v es b ents clock hb hh hn hf hk hv ihk ihv=>exact .fmp u v es b ents clock hb hh hn hf (fun i e p j c x h1 h2 h3 h4=>(hk i e p j c x h1 h2 h3 h4).cellρ hg (hg.cell u p.1 c (List.mem_of_getElem? h3))) (fun i e p j c x h1 h2 h3 h4=>(hv i e p j c x h1 h2 h3 h4).cellρ hg (hg.cell v p.2 c (List.mem_of_getElem? h3)))
  | pel u xs i off b o cap h hi ih =>
    refine .pel u xs i off b o cap ?_ hi
    exact ih
  | pcs cs off b o val hb hcell h ih =>
    show Rel E S ρ' w (.pcs (AV.ren.renL σ cs) off) _
    rw [cM]
    refine .pcs _ off b o val (fun hn=>hb (by rintro rfl; exact hn rfl)) (fun j c' hj => ?_) fun j c' hj => ?_
    · obtain ⟨c, h1, _⟩ := ix hj
      exact hcell j c h1
    · obtain ⟨c, h1, rfl⟩ := ix hj
      exact ih j c h1
  | fn f fs cs vf vc hlf hlc hf hc ihf ihc =>
    show Rel E S ρ' w (.fn f (AV.ren.renL σ fs) (AV.ren.renL σ cs)) _
    rw [cM,cM]
    refine .fn f _ _ vf vc (by simp [hlf]) (by simp [hlc]) (fun i c' v hc hv => ?_) (fun i c' v hc hv => ?_)
    · obtain ⟨c, h1, rfl⟩ := ix hc
      exact ihf i c v h1 hv
    · obtain ⟨c, h1, rfl⟩ := ix hc
      exact ihc i c v h1 hv
  | err t v=>exact .err t v
theorem BlkRel.renA {E:Univ U El} {l:Loc} {b:Blk U El} {σ:Nat→Nat} (hg:UGood P E) (h:BlkRel E S ρ w B l b) (hσ:∀ j l,ρ j=some l→ρ' (σ j)=some l):BlkRel E S ρ' w B l (b.ren σ b.tag):=by
  cases b with
  | rows u xs =>
    obtain ⟨h1,h2,h3,h4⟩:=h
    refine ⟨h1,h2,h3,fun hn => ?_⟩
    obtain ⟨h5,h6,c,hh,h7,h8⟩:=h4 hn
    exact ⟨h5,h6,c,hh,h7,fun i x j a hi hj=>by obtain ⟨v,hv,hr⟩:=h8 i x j a hi hj; exact ⟨v,hv,hr.cellρ hg (hg.cell u x a (List.mem_of_getElem? hj))⟩⟩
  | map u v es =>
    obtain ⟨h1,h4,h5,c0,c1,hh,h6,h7⟩:=h
    exact ⟨h1,h4,h5,c0,c1,hh,h6,fun i e p hi hj=>⟨(h7 i e p hi hj).1.cellρ hg,(h7 i e p hi hj).2.cellρ hg⟩⟩
  | amap u ks cs =>
    obtain ⟨h1,h4,h5,c0,c1,hh,h6,h7,h8⟩:=h
    refine ⟨h1,h4,h5,c0,c1,hh,h6,by simpa using h7,fun i e y c hi hj hk => ?_⟩
    simp only [List.getElem?_map,Option.map_eq_some_iff] at hk
    obtain ⟨a0,ha0,rfl⟩:=hk
    exact ⟨(h8 i e y a0 hi hj ha0).1.cellρ hg,(h8 i e y a0 hi hj ha0).2.renA hg hσ⟩
  | box t cs =>
    obtain ⟨h0,h1,h2⟩:=h
    refine ⟨h0,by simpa using h1,fun hn => ?_⟩
    obtain ⟨h5,h6,c,e,hh,h7,h8⟩:=h2 hn
    refine ⟨h5,h6,c,e,hh,h7,fun j a hj => ?_⟩
    simp only [List.getElem?_map,Option.map_eq_some_iff] at hj
    obtain ⟨a0,ha0,rfl⟩:=hj
    obtain ⟨v,hv,hr⟩:=h8 j a0 ha0
    exact ⟨v,hv,hr.renA hg hσ⟩
  | bld T j =>
    obtain ⟨h1,h4,h5,c0,c1,hh,h6,h7,h8⟩:=h
    exact ⟨h1,h4,h5,c0,c1,hh,h6,h7,h8.renA hg hσ⟩
theorem nW (id j:Nat) (t:ba U El) (i:Nat):aK (ic id j t) i=(aK t i).ren (jX id j):=by
  induction t with
  | nil=>rfl
  | cons p t ih =>
    obtain ⟨k,v⟩:=p
    simp only [ic,aK]
    cases Nat.beq k i<;>simp [ih]
theorem fW {id j:Nat} (hne:id≠j):∀ {h:az U El},ac h j=none→∀ i b,ac (j8 id j h) i=some b→∃ i0 b0,jX id j i0=i∧ac h i0=some b0∧b=b0.ren (jX id j) b0.tag:=by
  intro h
  induction h with
  | nil=>intro _ i b h; cases h
  | cons p h ih =>
    obtain ⟨k,c⟩:=p
    intro hj i b hg
    have hkj:k≠j:=by
      rintro rfl
      simp only [ac,Nat.beq_refl] at hj
      cases hj
    have hj':ac h j=none:=by simpa [ac,ah hkj] using hj
    simp only [j8,ac] at hg
    by_cases e:jX id j k=i
    · rw [e, Nat.beq_refl] at hg
      cases hg
      exact ⟨k,c,e,by simp [ac,Nat.beq_refl],rfl⟩
    · rw [ah e] at hg
      obtain ⟨i0,b0,h1,h2,h3⟩:=ih hj' i b hg
      refine ⟨i0,b0,h1,?_,h3⟩
      have:k≠i0:=by rintro rfl; exact e h1
      simp only [ac,ah this]
      exact h2
theorem Inv.rename (hX:CtxOk P X) {id j:Nat} (hne:id≠j) (hi:Inv X B S0 w0 S ρ st a w) (hj:ρ j=none):∃ ρ',Inv X B S0 w0 S ρ' (st.rename id j) a w:=by
  obtain ⟨ρ',hρ'⟩:∃ ρ':Rho,ρ'=fun i=>if i=j then ρ id else if i=id then none else ρ i:=⟨_,rfl⟩
  have hσ:∀ k l,ρ k=some l→ρ' (jX id j k)=some l:=fun k l h=>by
    rw [hρ']
    unfold jX
    by_cases e:k=id
    · subst e; rw [Nat.beq_refl]; simp [h]
    · rw [ah e]
      have:k≠j:=by rintro rfl; rw [hj] at h; cases h
      simp [e,this,h]
  have hinj:∀ {k k':Nat},k≠j→k'≠j→jX id j k=jX id j k'→k=k':=fun {k k'} h1 h2 e=>by
    unfold jX at e
    by_cases e1:k=id<;>by_cases e2:k'=id
    · rw [e1,e2]
    · subst e1; rw [Nat.beq_refl,ah e2] at e; exact absurd e.symm h2
    · subst e2; rw [Nat.beq_refl,ah e1] at e; exact absurd e h1
    · rw [ah e1,ah e2] at e; exact e
  have hj0:ac st.h j=none:=by
    cases hg:ac st.h j with
    | none=>rfl
    | some b=>obtain ⟨l,hl,_⟩:=hi.heap.get j b hg; rw [hj] at hl; cases hl
  refine ⟨ρ',hi.defers,hi.size,hi.below,hi.hB,hi.s0,hi.s1,hi.g0,fun i => ?_,⟨fun i b hg => ?_,fun i i' b b' l l' hg hg' hn hl hl' hn1 hn2 => ?_,hi.heap.lt⟩⟩
  · show Rel X.E S ρ' w (aK (ic id j st.t) i) _
    rw [nW]
    exact (hi.tmps i).renA hX.u hσ
  · obtain ⟨i0, b0, rfl, h2, rfl⟩ := fW hne hj0 i b hg
    obtain ⟨l,hl,hb⟩:=hi.heap.get i0 b0 h2
    exact ⟨l,hσ i0 l hl,hb.renA hX.u hσ⟩
  · obtain ⟨i0, b0, rfl, h2, rfl⟩ := fW hne hj0 i b hg
    obtain ⟨i1,b1,rfl,h4,rfl⟩:=fW hne hj0 i' b' hg'
    obtain ⟨l0,hl0,_⟩:=hi.heap.get i0 b0 h2
    obtain ⟨l1,hl1,_⟩:=hi.heap.get i1 b1 h4
    have e0:=hσ i0 l0 hl0
    rw [hl] at e0; cases e0
    have e1:=hσ i1 l1 hl1
    rw [hl'] at e1; cases e1
    exact hi.heap.inj i0 i1 b0 b1 l l' h2 h4 (fun e=>hn (by rw [e])) hl0 hl1 hn1 hn2
theorem kL {b off j : Nat} {u : U} {k : St U El → Option (Fin U El)} (hX : CtxOk P X) (hs : StRel X B S0 w0 st a w) (hv : kr st b off u j k = some r) : ∃ st', StRel X B S0 w0 st' a w ∧ k st' = some r := by
  obtain ⟨S,ρ,hi⟩:=hs
  unfold kr at hv
  split at hv
  · rename_i tg0 cs0 hg0
    split at hv
    · rename_i id hc
      by_cases e:id=j
      · subst e
        rw [Nat.beq_refl] at hv
        exact ⟨st,⟨S,ρ,hi⟩,hv⟩
      · rw [ah e] at hv
        obtain ⟨ρ',h'⟩:=(hi.forget hX j).rename hX e (by simp [Rho.del])
        exact ⟨_,⟨S,ρ',h'⟩,hv⟩
    · rename_i id hc
      by_cases e:id=j
      · subst e
        rw [Nat.beq_refl] at hv
        exact ⟨st,⟨S,ρ,hi⟩,hv⟩
      · rw [ah e] at hv
        obtain ⟨ρ',h'⟩:=(hi.forget hX j).rename hX e (by simp [Rho.del])
        exact ⟨_,⟨S,ρ',h'⟩,hv⟩
    · split at hv
      · rename_i tg cs hg
        split at hv
        · rename_i hc
          have hf:=hi.forget hX j
          obtain ⟨l,hl,hb⟩:=hf.heap.get _ _ hg
          have hρj:(ρ.del j) j=none:=by simp [Rho.del]
          have hbj:b≠j:=by rintro rfl; rw [hρj] at hl; cases hl
          have e1:((ρ.del j).set j ⟨0,0,X.E.sz u,0⟩) j=some ⟨0,0,X.E.sz u,0⟩:=by simp [Rho.set]
          have hext:∀ i l',(ρ.del j) i=some l'→((ρ.del j).set j ⟨0,0,X.E.sz u,0⟩) i=some l':=fun i l' h=>by
            by_cases e:i=j
            · subst e; rw [hρj] at h; cases h
            · simp [Rho.set,e,h]
          have hext':∀ i l',((ρ.del j).set j ⟨0,0,X.E.sz u,0⟩) i=some l'→i≠j→(ρ.del j) i=some l':=fun i l' h e=>by simpa [Rho.set,e] using h
          have hgj:ac (st.forget j).h j=none:=by
            cases hh:ac (st.forget j).h j with
            | none=>rfl
            | some b0=>obtain ⟨l0,h0,_⟩:=hf.heap.get j b0 hh; rw [hρj] at h0; cases h0
          have hcase:∀ i c,ac (bM (st.forget j).h b (.box tg (cs.set off (.ful j)))) i=some c→(i=b∧c = .box tg (cs.set off (.ful j)))∨(i≠b∧ac (st.forget j).h i=some c):=fun i c h=>by
            rw [bJ] at h
            by_cases e:i=b
            · subst e; rw [if_pos rfl,hg] at h; cases h; exact .inl ⟨rfl,rfl⟩
            · rw [if_neg e] at h; exact .inr ⟨e,h⟩
          refine ⟨⟨(st.forget j).t,(j,.rows u []) :: bM (st.forget j).h b (.box tg (cs.set off (.ful j)))⟩,⟨S,(ρ.del j).set j ⟨0,0,X.E.sz u,0⟩,hf.defers,hf.size,hf.below,hf.hB,hf.s0,hf.s1,hf.g0,fun i=>(hf.tmps i).mono (fun _ h=>h) (fun _ _=>rfl) hext,⟨fun i c hgi => ?_,fun i i' c c' l1 l2 hgi hgi' hne hli hli' hn1 hn2 => ?_,hf.heap.lt⟩⟩,hv⟩
          · simp only [ac] at hgi
            by_cases e:j=i
            · subst e
              rw [Nat.beq_refl] at hgi
              cases hgi
              exact ⟨_,e1,rfl,rfl,by simp,fun h=>absurd rfl h⟩
            · rw [ah e] at hgi
              rcases hcase i c hgi with ⟨rfl,rfl⟩ | ⟨hib,hg2⟩
              · refine ⟨l, hext _ _ hl, ?_⟩
                obtain ⟨b0,b1,b2⟩:=hb
                refine ⟨b0,by simpa using b1,fun hn => ?_⟩
                obtain ⟨b3,b4,c0,e0,hh,b5,b6⟩:=b2 hn
                refine ⟨b3,b4,c0,e0,hh,b5,fun m x hm => ?_⟩
                by_cases em:m=off
                · subst em
                  obtain ⟨v,hv',hr⟩:=b6 m _ hc
                  have hml:m < cs.length:=(List.getElem?_eq_some_iff.1 hc).1
                  rw [List.getElem?_set_self hml] at hm
                  cases hm
                  cases hr
                  exact ⟨_,hv',.fulN j _ e1 rfl rfl⟩
                · rw [List.getElem?_set_ne (Ne.symm em)] at hm
                  obtain ⟨v,hv',hr⟩:=b6 m x hm
                  exact ⟨v,hv',hr.mono (fun _ h=>h) (fun _ _=>rfl) hext⟩
              · obtain ⟨l', hl', hb'⟩ := hf.heap.get i c hg2
                exact ⟨l',hext _ _ hl',hb'.mono (fun _ h=>h) (fun _ _=>rfl) hext (fun hn=>⟨rfl,(hb'.lt hn).2.2⟩)⟩
          · simp only [ac] at hgi hgi'
            by_cases ei:j=i
            · subst ei; rw [e1] at hli; cases hli; exact absurd rfl hn1
            · by_cases ei' : j = i'
              · subst ei'; rw [e1] at hli'; cases hli'; exact absurd rfl hn2
              · rw [ah ei] at hgi
                rw [ah ei'] at hgi'
                have k1:∃ c0,ac (st.forget j).h i=some c0:=by
                  rcases hcase i c hgi with ⟨rfl,_⟩ | ⟨_,h⟩
                  · exact ⟨_,hg⟩
                  · exact ⟨_,h⟩
                have k2:∃ c0,ac (st.forget j).h i'=some c0:=by
                  rcases hcase i' c' hgi' with ⟨rfl,_⟩ | ⟨_,h⟩
                  · exact ⟨_,hg⟩
                  · exact ⟨_,h⟩
                obtain ⟨c1,h1⟩:=k1
                obtain ⟨c2,h2⟩:=k2
                exact hf.heap.inj i i' c1 c2 l1 l2 h1 h2 hne (hext' i l1 hli (Ne.symm ei)) (hext' i' l2 hli' (Ne.symm ei')) hn1 hn2
        · exact ⟨st,⟨S,ρ,hi⟩,hv⟩
      · exact ⟨st,⟨S,ρ,hi⟩,hv⟩
    · exact ⟨st,⟨S,ρ,hi⟩,hv⟩
  · exact ⟨st,⟨S,ρ,hi⟩,hv⟩
theorem j3 (hX:CtxOk P X):∀ (cs:List (Nat×Nat×U×Nat)) (st:St U El) (k:St U El→Option (Fin U El)),StRel X B S0 w0 st a w→i7 st cs k=some r→∃ st',StRel X B S0 w0 st' a w∧k st'=some r:=by
  intro cs
  induction cs with
  | nil=>intro st k hs hv; exact ⟨st,hs,hv⟩
  | cons c cs ih =>
    obtain ⟨b,off,u,j⟩:=c
    intro st k hs hv
    obtain ⟨st1,h1,h2⟩:=kL hX hs hv
    exact ih st1 k h1 h2
end
end Go.Proofs.YtnofdcckddfooaaGreatDoor
