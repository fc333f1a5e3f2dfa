import Derived.Test.YtlkfbblapimhoaaGreatDoorLU
namespace Go.Proofs.YtlkfbblapimhoaaGreatDoor
set_option linter.all false
open Go.RowKit
section
variable {U:Type} {El:U→Type} {P:Program} {X:Ctx U El} {S S' S0:Nat→Prop} {ρ ρ':Rho} {w w' w0:World} [DecidableEq U] [Drw]
variable {a a':Act} {st st':St U El} {B B':Bd} {pin:Nat→Option Loc}
theorem piece (hF:NoFr X) (hX:CtxOk P X) (hM:MOk P X) {c:Code} {n:Ann U} {Q:Exit→Act→World→Prop} (KP:St U El→Prop) (EP:Nat→St U El→Prop) (RP:St U El→Prop)
  (hs:StRel X B S0 w0 st a w)
  (hrun:∀ (r:Fin U El) (K:Kont U El) (E:Nat→Kont U El) (R:Kont U El),(∀ st,KP st→K st=some r)→(∀ i st,EP i st→E i st=some r)→(∀ st,RP st→R st=some r)→exec X c n st K E R=some r)
  (hK:∀ st' a' w',KP st'→StRel X B S0 w0 st' a' w'→Q .normal a' w') (hE:∀ i st' a' w',EP i st'→StRel X B S0 w0 st' a' w'→Q (.exit i) a' w') (hR:∀ st' a' w',RP st'→StRel X B S0 w0 st' a' w'→Q .ret a' w'):c.wp P Q a w:=by
 classical
 refine exec_sound (r:=(.nilp,[])) hF hX hM c n st (fun s=>if KP s then some (.nilp,[]) else none) (fun i s=>if EP i s then some (.nilp,[]) else none) (fun s=>if RP s then some (.nilp,[]) else none) a w Q
  (fun st' a' w' h e=>?_) (fun i st' a' w' h e=>?_) (fun st' a' w' h e=>?_) hs (hrun _ _ _ _ (fun st h=>if_pos h) (fun i st h=>if_pos h) (fun st h=>if_pos h))
 ·by_cases k:KP st'
  ·exact hK st' a' w' k h
  ·rw [if_neg k] at e; cases e
 ·by_cases k:EP i st'
  ·exact hE i st' a' w' k h
  ·rw [if_neg k] at e; cases e
 ·by_cases k:RP st'
  ·exact hR st' a' w' k h
  ·rw [if_neg k] at e; cases e
theorem runOps_pre {r:Fin U El} {k:St U El→Option (Fin U El)} {ops:Array Oper} {Q:Exit→Act→World→Prop} (hX:CtxOk P X) (hM:MOk P X) (tail:List Oper) :
    ∀ (os : List Oper) (j : Nat) (st : St U El) (a : Act) (w : World), ops.toList.drop j = os ++ tail → (∀ o ∈ os, o.guard = none) → StRel X B S0 w0 st a w → runOps X [] os st k = some r →
      (∀ st' a' w',StRel X B S0 w0 st' a' w'→k st'=some r→wpOps P ops Q (List.range' (j+os.length) tail.length) a' w')→wpOps P ops Q (List.range' j (os++tail).length) a w:=by
  intro os
  induction os with
  | nil=>intro j st a w hd _ hs hv hN; exact hN st a w hs hv
  | cons o os ih =>
    intro j st a w hd hg hs hv hN
    have ho:ops[j]? = some o:=by
      have:(ops.toList.drop j)[0]? = some o:=by rw [hd]; rfl
      rw [List.getElem?_drop] at this
      simpa using this
    have hd':ops.toList.drop (j+1)=os++tail:=by
      rw [← List.drop_drop,hd]; rfl
    have hgn:o.guard=none:=hg o (by simp)
    simp only [List.cons_append,List.length_cons,List.range'_succ]
    rw [wpOps_cons]
    unfold wpOp
    rw [ho]
    simp only [runOps,guardOf,hgn] at hv
    have hw:Region.wanted o (yielded ops a.tmps)=true:=by simp [Region.wanted,hgn]
    simp only [hw,if_true]
    refine .inl ?_
    obtain ⟨t',hk,hor⟩:=withTest_some hv
    have hst':StRel X B S0 w0 ⟨t',st.h⟩ a w:=by
      rcases hor with rfl | ⟨g,b,hg,rfl⟩
      · exact hs
      · exact hs.refine hg
    obtain ⟨st2,⟨S,ρ,hi⟩,hk2⟩:=preShare_sound hX hst' hk
    refine stepOp_sound hX hM hi hk2 fun st3 a3 w3 h3 h4=>?_
    refine ih (j+1) st3 a3 w3 hd' (fun o ho=>hg o (by simp [ho])) h3 h4 fun st' a' w' h5 h6=>?_
    have:=hN st' a' w' h5 h6
    rwa [List.length_cons,show j+(os.length+1)=j+1+os.length by omega] at this
def InHeap (h:Heap U El) (ρ:Rho) (k:Nat):Prop:=∃ id b l,hget h id=some b∧ρ id=some l∧l.n≠0∧l.b=k
def tight (w:World) (h:Heap U El) (ρ:Rho) (pin:Nat→Option Loc):Bd:=⟨fun k=>w.heap.size≤k∨InHeap h ρ k,pin,[]⟩
theorem BlkRel.pins {E:Univ U El} {l:Loc} {b:Blk U El} (h:BlkRel E S ρ w B l b) (hB:l.n≠0→B'.own l.b) (hP:∀ t cs,b=.box t cs→t=0∨B'.pin t=some l):BlkRel E S ρ w B' l b:=by
 cases b with
 | rows u xs=>obtain ⟨h1,h2,h3,h⟩:=h; exact ⟨h1,h2,h3,fun hn=>⟨hB hn,(h hn).2⟩⟩
 | box t cs=>obtain ⟨h0,h1,h⟩:=h; exact ⟨hP t cs rfl,h1,fun hn=>⟨hB hn,(h hn).2⟩⟩
 | bld T j=>obtain ⟨h1,h⟩:=h; exact ⟨h1,hB (by omega),h.2⟩
 | map u v es=>obtain ⟨h1,h⟩:=h; exact ⟨h1,hB (by omega),h.2⟩
 | amap u ks cs=>obtain ⟨h1,h⟩:=h; exact ⟨h1,hB (by omega),h.2⟩
structure Held (X:Ctx U El) (w0:World) (S0:Nat→Prop) (S:Nat→Prop) (ρ:Rho) (pin:Nat→Option Loc) (st:St U El) (a:Act) (w:World):Prop where
 inv:Inv X (tight w st.h ρ pin) S w S ρ st a w
 fr:Fr (From w0) w0 w
 s0:∀ b,S0 b→S b
 s1:∀ b,S b→S0 b∨w0.heap.size≤b
 own:∀ k,InHeap st.h ρ k→w0.heap.size≤k
 g:∀ w2,Fr (From w0) w0 w2→X.E.G w2
 nf:NoFr X
theorem Held.start (hi:Inv X (From w) S0 w S ρ st a w) (hp:∀ id t cs,hget st.h id=some (.box t cs)→t=0) (hF:NoFr X:=by rfl):Held X w S0 S ρ (fun _=>none) st a w:=by
 have hown:∀ k,InHeap st.h ρ k→w.heap.size≤k:=by
  rintro k ⟨id,b,l,h1,h2,h3,rfl⟩
  obtain ⟨l',e,hb⟩:=hi.heap.get id b h1
  rw [h2] at e; cases e
  exact (hb.lt h3).2.1
 refine ⟨⟨hi.defers,hi.size,Fr.refl _ _,fun k hk=>.inl hk,fun _ h=>h,fun _ h=>.inl h,fun w' hb=>hi.g0 w' (hb.mono fun k hk=>hk.elim id (hown k)),hi.tmps,⟨fun id b hg=>?_,hi.heap.inj,hi.heap.lt⟩⟩,Fr.refl _ _,hi.s0,hi.s1,hown,hi.g0,hF⟩
 obtain ⟨l,h1,h2⟩:=hi.heap.get id b hg
 exact ⟨l,h1,h2.pins (fun hn=>.inr ⟨id,b,l,hg,h1,hn,rfl⟩) fun t cs e=>by subst e; exact .inl (hp id t cs hg)⟩
theorem Held.next (h:Held X w0 S0 S ρ pin st a w) (hs:StRel X (tight w st.h ρ pin) S w st' a' w'):∃ S' ρ',Held X w0 S0 S' ρ' pin st' a' w'∧(∀ b,S b→S' b)∧(∀ b,S b→w'.heap[b]? = w.heap[b]?)∧w.heap.size≤w'.heap.size ∧
  (∀ k,k < w.heap.size→¬ InHeap st.h ρ k→w'.heap[k]? = w.heap[k]? ∧ ¬ InHeap st'.h ρ' k∧(¬ S k→¬ S' k)):=by
 obtain ⟨S',ρ',hi⟩:=hs
 have hSn:∀ b,S b→¬ InHeap st.h ρ b:=by
  rintro b hb ⟨id,bl,l,h1,h2,h3,rfl⟩
  obtain ⟨l',e,hbl⟩:=h.inv.heap.get id bl h1
  rw [h2] at e; cases e
  exact (hbl.lt h3).2.2 hb
 have hown:∀ k,InHeap st'.h ρ' k→w.heap.size≤k∨InHeap st.h ρ k:=by
  rintro k ⟨id,b,l,h1,h2,h3,rfl⟩
  obtain ⟨l',e,hb⟩:=hi.heap.get id b h1
  rw [h2] at e; cases e
  exact (hb.lt h3).2.1
 have hsz:=hi.below.size
 have hown0:∀ k,w.heap.size≤k∨InHeap st.h ρ k→w0.heap.size≤k:=fun k hk=>hk.elim (fun e=>Nat.le_trans h.fr.size e) (h.own k)
 have hkeep:∀ k,k < w.heap.size→¬ InHeap st.h ρ k→w'.heap[k]? = w.heap[k]?:=fun k hk hn=>hi.below.block k hk fun e=>e.elim (fun e=>by omega) hn
 refine ⟨S',ρ',⟨⟨hi.defers,hi.size,Fr.refl _ _,fun k hk=>.inl hk,fun _ h=>h,fun _ h=>.inl h,fun w2 hb=>hi.g0 w2 ?_,hi.tmps,⟨fun id b hg=>?_,hi.heap.inj,hi.heap.lt⟩⟩,h.fr.trans (hi.below.mono hown0),fun b hb=>hi.s0 b (h.s0 b hb),fun b hb=>?_,fun k hk=>hown0 k (hown k hk),h.g,h.nf⟩,hi.s0,fun b hb=>hkeep b (h.inv.heap.lt b hb) (hSn b hb),hsz,fun k hk hn=>⟨hkeep k hk hn,fun e=>(hown k e).elim (fun e=>by omega) hn,fun hs hs'=>?_⟩⟩
 ·refine hi.below.trans (hb.mono fun k hk=>?_)
  rcases hk with hk | hk
  ·exact .inl (Nat.le_trans hsz hk)
  ·exact hown k hk
 ·obtain ⟨l,h1,h2⟩:=hi.heap.get id b hg
  refine ⟨l,h1,h2.pins (fun hn=>.inr ⟨id,b,l,hg,h1,hn,rfl⟩) fun t cs e=>?_⟩
  subst e
  exact h2.1
 ·rcases hi.s1 b hb with k | k
  ·exact h.s1 b k
  ·exact .inr (hown0 b k)
 ·rcases hi.s1 k hs' with e | e
  ·exact hs e
  ·exact e.elim (fun e=>by omega) hn
theorem Held.less (h:Held X w0 S0 S ρ pin st a w) (ht:∀ i,tget st'.t i=.any∨tget st'.t i=tget st.t i) (hh:∀ id b,hget st'.h id=some b→hget st.h id=some b):Held X w0 S0 S ρ pin st' a w:=by
 have hin:∀ k,InHeap st'.h ρ k→InHeap st.h ρ k:=fun k ⟨id,b,l,h1,h2⟩=>⟨id,b,l,hh id b h1,h2⟩
 refine ⟨⟨h.inv.defers,h.inv.size,Fr.refl _ _,fun k hk=>.inl hk,fun _ h=>h,fun _ h=>.inl h,fun w' hb=>h.inv.g0 w' (hb.mono fun k hk=>hk.imp id (hin k)),fun i=>?_,⟨fun id b hg=>?_,fun i j b b' l l' h1 h2=>h.inv.heap.inj i j b b' l l' (hh _ _ h1) (hh _ _ h2),h.inv.heap.lt⟩⟩,h.fr,h.s0,h.s1,fun k hk=>h.own k (hin k hk),h.g,h.nf⟩
 ·rcases ht i with e | e
  ·rw [e]; exact .any _
  ·rw [e]; exact h.inv.tmps i
 ·obtain ⟨l,h1,h2⟩:=h.inv.heap.get id b (hh id b hg)
  refine ⟨l,h1,h2.pins (fun hn=>.inr ⟨id,b,l,hg,h1,hn,rfl⟩) fun t cs e=>?_⟩
  subst e
  exact h2.1
theorem Held.done (h:Held X w0 S0 S ρ pin st a w) (hp:∀ id t cs,hget st.h id=some (.box t cs)→t=0):StRel X (From w0) S0 w0 st a w:=by
 refine ⟨S,ρ,h.inv.defers,h.inv.size,h.fr,fun k hk=>Nat.le_trans h.fr.size hk,h.s0,h.s1,h.g,h.inv.tmps,⟨fun id b hg=>?_,h.inv.heap.inj,h.inv.heap.lt⟩⟩
 obtain ⟨l,h1,h2⟩:=h.inv.heap.get id b hg
 exact ⟨l,h1,h2.pins (fun hn=>h.own _ ⟨id,b,l,hg,h1,hn,rfl⟩) fun t cs e=>by subst e; exact .inl (hp id t cs hg)⟩
def Stable (G:(Nat→Prop)→(Nat→Prop)→World→Prop):Prop:=∀ (A A' S S':Nat→Prop) (w w':World),(∀ b,S b→S' b)→(∀ b,S b→w'.heap[b]? = w.heap[b]?)→w.heap.size≤w'.heap.size→(∀ k,k < w.heap.size→A k→A' k∧w'.heap[k]? = w.heap[k]?)→G A S w→G A' S' w'
def apart (st:St U El) (ρ:Rho) (S:Nat→Prop) (k:Nat):Prop:=¬ InHeap st.h ρ k∧¬ S k
def outK (m:Nat) (sl ids:List Nat) (st:St U El):Option (Fin U El):=some (.tup (.int .i64 m :: sl.map (tget st.t)),keepH st.h ids)
def zipT:List Nat→List (AV U El)→Tmps U El
 | i :: l,v :: vs=>(i,v) :: zipT l vs
 | _,_=>[]
theorem zipT_get (t:Tmps U El):∀ (sl:List Nat) (i:Nat),tget (zipT sl (sl.map (tget t))) i = .any∨tget (zipT sl (sl.map (tget t))) i=tget t i:=by
  intro sl
  induction sl with
  | nil=>intro i; exact .inl rfl
  | cons j sl ih =>
    intro i
    simp only [List.map_cons,zipT,tget]
    by_cases e:j=i
    · subst e; rw [Nat.beq_refl]; exact .inr rfl
    · rw [nbeq_ne e]; exact ih i
theorem keepH_get (h:Heap U El):∀ (ids:List Nat) (id:Nat) (b:Blk U El),hget (keepH h ids) id=some b→hget h id=some b:=by
  intro ids
  induction ids with
  | nil=>intro id b hg; cases hg
  | cons j ids ih =>
    intro id b hg
    simp only [keepH] at hg
    cases hj:hget h j with
    | none=>rw [hj] at hg; exact ih id b hg
    | some c =>
      rw [hj] at hg
      simp only [hget] at hg
      by_cases e:j=id
      · subst e; rw [Nat.beq_refl] at hg; cases hg; exact hj
      · rw [nbeq_ne e] at hg; exact ih id b hg
theorem Held.cut (h:Held X w0 S0 S ρ pin st a w) {m:Nat} {sl ids:List Nat} {vs:List (AV U El)} {hs:Heap U El} (he:outK m sl ids st=some (.tup (.int .i64 m :: vs),hs)):Held X w0 S0 S ρ pin ⟨zipT sl vs,hs⟩ a w:=by
 unfold outK at he
 simp only [Option.some.injEq,Prod.mk.injEq,AV.tup.injEq,List.cons.injEq,true_and] at he
 obtain ⟨rfl,rfl⟩:=he
 exact h.less (zipT_get st.t sl) (keepH_get st.h ids)
theorem apart_less {hs:Heap U El} {t:Tmps U El} (hh:∀ id b,hget hs id=some b→hget st.h id=some b) {k:Nat} (h:apart st ρ S k):apart (⟨t,hs⟩:St U El) ρ S k :=
 ⟨fun ⟨id,b,l,h1,h2⟩=>h.1 ⟨id,b,l,hh id b h1,h2⟩,h.2⟩
theorem Held.run (hX:CtxOk P X) (hM:MOk P X) {G:(Nat→Prop)→(Nat→Prop)→World→Prop} (hst:Stable G) {c:Code} {n:Ann U} {Q:Exit→Act→World→Prop} {sl ids:List Nat} {m:Nat} {vs:List (AV U El)} {hs:Heap U El}
  (h:Held X w0 S0 S ρ pin st a w) (hG:G (apart st ρ S) S w)
  (hrun:exec X c n st (outK 0 sl ids) (fun i=>outK (2 * i+2) sl ids) (outK 1 sl ids)=some (.tup (.int .i64 m :: vs),hs))
  (hQ:∀ S' ρ' a' w',Held X w0 S0 S' ρ' pin ⟨zipT sl vs,hs⟩ a' w'→G (apart ⟨zipT sl vs,hs⟩ ρ' S') S' w'→(m=0→Q .normal a' w')∧(m=1→Q .ret a' w')∧∀ i,m=2 * i+2→Q (.exit i) a' w'):c.wp P Q a w:=by
 have key:∀ (m':Nat) st' a' w',StRel X (tight w st.h ρ pin) S w st' a' w'→outK m' sl ids st'=some (.tup (.int .i64 m :: vs),hs)→m'=m∧∃ S' ρ',Held X w0 S0 S' ρ' pin ⟨zipT sl vs,hs⟩ a' w'∧G (apart ⟨zipT sl vs,hs⟩ ρ' S') S' w':=by
  intro m' st' a' w' hs' he
  obtain ⟨S',ρ',h1,h2,h3,h4,h5⟩:=h.next hs'
  have hm:m'=m:=by
   unfold outK at he
   simp only [Option.some.injEq,Prod.mk.injEq,AV.tup.injEq,List.cons.injEq,AV.int.injEq,true_and] at he
   have:=he.1.1
   omega
  subst hm
  refine ⟨rfl,S',ρ',h1.cut he,hst _ _ S S' w w' h2 h3 h4 (fun k hk hA=>?_) hG⟩
  obtain ⟨g1,g2,g3⟩:=h5 k hk hA.1
  have hh:∀ id b,hget hs id=some b→hget st'.h id=some b:=by
   unfold outK at he
   simp only [Option.some.injEq,Prod.mk.injEq] at he
   rw [← he.2]
   exact keepH_get st'.h ids
  exact ⟨apart_less (st:=st') hh ⟨g2,g3 hA.2⟩,g1⟩
 refine exec_sound h.nf hX hM c n st (outK 0 sl ids) (fun i=>outK (2 * i+2) sl ids) (outK 1 sl ids) a w Q (fun st' a' w' h1 h2=>?_) (fun i st' a' w' h1 h2=>?_) (fun st' a' w' h1 h2=>?_) ⟨S,ρ,h.inv⟩ hrun
 ·obtain ⟨e,S',ρ',k1,k2⟩:=key 0 st' a' w' h1 h2
  exact (hQ S' ρ' a' w' k1 k2).1 e.symm
 ·obtain ⟨e,S',ρ',k1,k2⟩:=key (2 * i + 2) st' a' w' h1 h2
  exact (hQ S' ρ' a' w' k1 k2).2.2 i e.symm
 ·obtain ⟨e,S',ρ',k1,k2⟩:=key 1 st' a' w' h1 h2
  exact (hQ S' ρ' a' w' k1 k2).2.1 e.symm
theorem Held.ops (hX:CtxOk P X) (hM:MOk P X) {G:(Nat→Prop)→(Nat→Prop)→World→Prop} (hst:Stable G) {ops:Array Oper} {Q:Exit→Act→World→Prop} {sl ids:List Nat} {vs:List (AV U El)} {hs:Heap U El} (tail os:List Oper) (j:Nat)
  (h:Held X w0 S0 S ρ pin st a w) (hG:G (apart st ρ S) S w) (hd:ops.toList.drop j=os++tail) (hgd:∀ o∈os,o.guard=none)
  (hrun:runOps X [] os st (outK 0 sl ids)=some (.tup (.int .i64 0 :: vs),hs))
  (hQ:∀ S' ρ' a' w',Held X w0 S0 S' ρ' pin ⟨zipT sl vs,hs⟩ a' w'→G (apart ⟨zipT sl vs,hs⟩ ρ' S') S' w'→wpOps P ops Q (List.range' (j+os.length) tail.length) a' w'):wpOps P ops Q (List.range' j (os++tail).length) a w:=by
 refine runOps_pre hX hM tail os j st a w hd hgd ⟨S,ρ,h.inv⟩ hrun fun st' a' w' h1 h2=>?_
 obtain ⟨S',ρ',k1,k2,k3,k4,k5⟩:=h.next h1
 refine hQ S' ρ' a' w' (k1.cut h2) (hst _ _ S S' w w' k2 k3 k4 (fun k hk hA=>?_) hG)
 obtain ⟨g1,g2,g3⟩:=k5 k hk hA.1
 have hh:∀ id b,hget hs id=some b→hget st'.h id=some b:=by
  unfold outK at h2
  simp only [Option.some.injEq,Prod.mk.injEq] at h2
  rw [← h2.2]
  exact keepH_get st'.h ids
 exact ⟨apart_less (st:=st') hh ⟨g2,g3 hA.2⟩,g1⟩
theorem Held.world (h:Held X w0 S0 S ρ pin st a w) (hsame:∀ k,(S k∨InHeap st.h ρ k)→w'.heap[k]? = w.heap[k]?) (hfr:Fr (From w0) w w'):Held X w0 S0 S ρ pin st a w':=by
 have f:=h.fr.trans hfr
 refine ⟨⟨h.inv.defers,h.inv.size,Fr.refl _ _,fun k hk=>.inl hk,fun _ h=>h,fun _ h=>.inl h,fun w2 hb=>h.g w2 (f.trans (hb.mono fun k hk=>hk.elim (fun e=>Nat.le_trans f.size e) (h.own k))),fun i=>(h.inv.tmps i).mono (fun _ h=>h) (fun b hb=>hsame b (.inl hb)) (fun _ _ h=>h),⟨fun id b hg=>?_,h.inv.heap.inj,fun b hb=>Nat.lt_of_lt_of_le (h.inv.heap.lt b hb) hfr.size⟩⟩,f,h.s0,h.s1,h.own,h.g,h.nf⟩
 obtain ⟨l,h1,h2⟩:=h.inv.heap.get id b hg
 refine ⟨l,h1,(h2.mono (fun _ h=>h) (fun b hb=>hsame b (.inl hb)) (fun _ _ h=>h) fun hn=>⟨hsame _ (.inr ⟨id,b,l,hg,h1,hn,rfl⟩),(h2.lt hn).2.2⟩).pins (fun hn=>.inr ⟨id,b,l,hg,h1,hn,rfl⟩) fun t cs e=>?_⟩
 subst e
 exact h2.1
theorem Held.on (hX:CtxOk P X) (hM:MOk P X) {G:(Nat→Prop)→(Nat→Prop)→World→Prop} (hst:Stable G) {c c1 c2:Code} {n:Ann U} {Q:Exit→Act→World→Prop} {sl ids:List Nat} {vs:List (AV U El)} {hs:Heap U El}
  (e:c=.seq c1 c2) (h:Held X w0 S0 S ρ pin st a w) (hG:G (apart st ρ S) S w) (hrun:exec X c1 n st (outK 0 sl ids) (fun i=>outK (2 * i+2) sl ids) (outK 1 sl ids)=some (.tup (.int .i64 (0:Nat) :: vs),hs))
  (hQ:∀ S' ρ' a' w',Held X w0 S0 S' ρ' pin ⟨zipT sl vs,hs⟩ a' w'→G (apart ⟨zipT sl vs,hs⟩ ρ' S') S' w'→c2.wp P Q a' w'):c.wp P Q a w:=by
 rw [e]
 exact wp_seq (Held.run hX hM hst h hG hrun fun S' ρ' a' w' k1 k2=>⟨fun _=>hQ S' ρ' a' w' k1 k2,fun e=>by omega,fun i e=>by omega⟩)
theorem Held.back (hX:CtxOk P X) (hM:MOk P X) {G:(Nat→Prop)→(Nat→Prop)→World→Prop} (hst:Stable G) {c:Code} {n:Ann U} {Q:Exit→Act→World→Prop} {sl ids:List Nat} {vs:List (AV U El)} {hs:Heap U El}
  (h:Held X w0 S0 S ρ pin st a w) (hG:G (apart st ρ S) S w) (hrun:exec X c n st (outK 0 sl ids) (fun i=>outK (2 * i+2) sl ids) (outK 1 sl ids)=some (.tup (.int .i64 (1:Nat) :: vs),hs))
  (hQ:∀ S' ρ' a' w',Held X w0 S0 S' ρ' pin ⟨zipT sl vs,hs⟩ a' w'→Q .ret a' w'):c.wp P Q a w :=
 Held.run hX hM hst h hG hrun fun S' ρ' a' w' k1 k2=>⟨fun e=>by omega,fun _=>hQ S' ρ' a' w' k1,fun i e=>by omega⟩
theorem Held.out (hX:CtxOk P X) (hM:MOk P X) {G:(Nat→Prop)→(Nat→Prop)→World→Prop} (hst:Stable G) {c:Code} {n:Ann U} {Q:Exit→Act→World→Prop} {sl ids:List Nat} {vs:List (AV U El)} {hs:Heap U El} (i:Nat)
  (h:Held X w0 S0 S ρ pin st a w) (hG:G (apart st ρ S) S w) (hrun:exec X c n st (outK 0 sl ids) (fun i=>outK (2 * i+2) sl ids) (outK 1 sl ids)=some (.tup (.int .i64 ((2 * i+2:Nat):Int) :: vs),hs))
  (hQ:∀ S' ρ' a' w',Held X w0 S0 S' ρ' pin ⟨zipT sl vs,hs⟩ a' w'→G (apart ⟨zipT sl vs,hs⟩ ρ' S') S' w'→Q (.exit i) a' w'):c.wp P Q a w :=
 Held.run hX hM hst h hG hrun fun S' ρ' a' w' k1 k2=>⟨fun e=>by omega,fun e=>by omega,fun j e=>(show i=j by omega) ▸ hQ S' ρ' a' w' k1 k2⟩
end
end Go.Proofs.YtlkfbblapimhoaaGreatDoor
