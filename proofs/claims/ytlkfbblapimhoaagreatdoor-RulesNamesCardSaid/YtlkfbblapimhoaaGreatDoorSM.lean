/- What rules.Simpler computes, in plain words: the nodes of conditions, the greatest lower limit and the least upper one of each. -/
import Derived.Test.YtlkfbblapimhoaaGreatDoorVB
namespace Go.Proofs.YtlkfbblapimhoaaGreatDoor
set_option linter.unusedSectionVars false
set_option linter.unusedSimpArgs false
set_option linter.unusedVariables false
set_option maxRecDepth 100000
noncomputable def addN (acc:List (List UInt8)) (c:Cnd):List (List UInt8):=bif List.any acc (fun x=>x == c.cn) then acc else acc++[c.cn]
noncomputable def nodesL (l:List Cnd):List (List UInt8):=l.foldl addN []
noncomputable def lowS (n:List UInt8) (o:Option Cnd) (c:Cnd):Option Cnd:=bif (c.cn == n)&&(!c.cb&&(match o with | none=>true | some x=>ilt x.cl c.cl)) then some c else o
noncomputable def highS (n:List UInt8) (o:Option Cnd) (c:Cnd):Option Cnd:=bif (c.cn == n)&&(c.cb&&(match o with | none=>true | some x=>ilt c.cl x.cl)) then some c else o
noncomputable def lowO (n:List UInt8) (l:List Cnd):Option Cnd:=l.foldl (lowS n) none
noncomputable def highO (n:List UInt8) (l:List Cnd):Option Cnd:=l.foldl (highS n) none
noncomputable def clashB (a b:Option Cnd):Bool:=match a,b with | some x,some y=>ile y.cl x.cl | _,_=>false
noncomputable def pairL (n:List UInt8) (l:List Cnd):List Cnd:=(lowO n l).toList++(highO n l).toList
noncomputable def simC (l:List Cnd):List Cnd:=(nodesL l).flatMap fun n=>pairL n l
noncomputable def simF (l:List Cnd):Bool:=(nodesL l).any fun n=>clashB (lowO n l) (highO n l)
theorem nodes_snoc (l:List Cnd) (c:Cnd):nodesL (l++[c])=addN (nodesL l) c:=by simp [nodesL]
theorem low_snoc (n:List UInt8) (l:List Cnd) (c:Cnd):lowO n (l++[c])=lowS n (lowO n l) c:=by simp [lowO]
theorem high_snoc (n:List UInt8) (l:List Cnd) (c:Cnd):highO n (l++[c])=highS n (highO n l) c:=by simp [highO]
theorem snoc_ind {α:Type} {p:List α→Prop} (h0:p []) (h1:∀ l c,p l→p (l++[c])):∀ l,p l:=by
  intro l
  rw [← List.reverse_reverse l]
  induction l.reverse with
  | nil=>exact h0
  | cons c l ih=>rw [List.reverse_cons]; exact h1 _ _ ih
theorem addN_yes {acc:List (List UInt8)} {c:Cnd} (h:c.cn∈acc):addN acc c=acc:=by
  have:List.any acc (fun x=>x == c.cn)=true:=List.any_eq_true.2 ⟨_,h,beq_self_eq_true _⟩
  unfold addN
  rw [this]
  rfl
theorem addN_no {acc:List (List UInt8)} {c:Cnd} (h:c.cn ∉ acc):addN acc c=acc++[c.cn]:=by
  have:List.any acc (fun x=>x == c.cn)=false:=by
    cases e:List.any acc (fun x=>x == c.cn) with
    | false=>rfl
    | true =>
      obtain ⟨x,hx,he⟩:=List.any_eq_true.1 e
      rw [beq_iff_eq.1 he] at hx
      exact absurd hx h
  unfold addN
  rw [this]
  rfl
theorem mem_nodes {n : List UInt8} : ∀ {l : List Cnd}, n ∈ nodesL l ↔ ∃ c ∈ l, c.cn = n := by
  intro l
  induction l using snoc_ind with
  | h0=>simp [nodesL]
  | h1 l c ih =>
    rw [nodes_snoc]
    by_cases hc:c.cn∈nodesL l
    · rw [addN_yes hc, ih]
      constructor
      · rintro ⟨x,hx,rfl⟩; exact ⟨x,List.mem_append_left _ hx,rfl⟩
      · rintro ⟨x, hx, rfl⟩
        rcases List.mem_append.1 hx with hx | hx
        · exact ⟨x,hx,rfl⟩
        · have := List.mem_singleton.1 hx
          subst this
          exact ih.1 hc
    · rw [addN_no hc, List.mem_append, ih]
      constructor
      · rintro (⟨x, hx, rfl⟩ | h)
        · exact ⟨x,List.mem_append_left _ hx,rfl⟩
        · exact ⟨c,by simp,(List.mem_singleton.1 h).symm⟩
      · rintro ⟨x, hx, rfl⟩
        rcases List.mem_append.1 hx with hx | hx
        · exact .inl ⟨x,hx,rfl⟩
        · rw [List.mem_singleton.1 hx]; exact .inr (by simp)
theorem nodes_nodup (l:List Cnd):(nodesL l).Nodup:=by
  induction l using snoc_ind with
  | h0=>simp [nodesL]
  | h1 l c ih =>
    rw [nodes_snoc]
    by_cases hc:c.cn∈nodesL l
    · rw [addN_yes hc]; exact ih
    · rw [addN_no hc]
      exact List.nodup_append.2 ⟨ih,by simp,fun a ha b hb e=>hc (by rw [← List.mem_singleton.1 hb,← e]; exact ha)⟩
def LowP (n:List UInt8) (l:List Cnd) (o:Option Cnd):Prop:=(∀ c,o=some c→c∈l∧c.cn=n∧c.cb=false)∧∀ x∈l,x.cn=n→x.cb=false→∃ c,o=some c∧x.cl≤c.cl
def HighP (n:List UInt8) (l:List Cnd) (o:Option Cnd):Prop:=(∀ c,o=some c→c∈l∧c.cn=n∧c.cb=true)∧∀ x∈l,x.cn=n→x.cb=true→∃ c,o=some c∧c.cl≤x.cl
theorem low_spec (n : List UInt8) (l : List Cnd) : LowP n l (lowO n l) := by
  induction l using snoc_ind with
  | h0=>exact ⟨fun c h=>(by cases h),fun x hx=>(by cases hx)⟩
  | h1 l c ih =>
    rw [low_snoc]
    obtain ⟨h1,h2⟩:=ih
    have keep:∀ o,(∀ x,o=some x→x∈l∧x.cn=n∧x.cb=false)→∀ x,o=some x→x∈l++[c]∧x.cn=n∧x.cb=false:=fun o h x hx=>⟨List.mem_append_left _ (h x hx).1,(h x hx).2⟩
    unfold lowS
    cases hn:c.cn == n with
    | false =>
      refine ⟨keep _ h1,fun x hx e1 e2 => ?_⟩
      rcases List.mem_append.1 hx with hx | hx
      · exact h2 x hx e1 e2
      · rw [List.mem_singleton.1 hx] at e1; rw [beq_iff_eq.2 e1] at hn; cases hn
    | true =>
      have hn':=beq_iff_eq.1 hn
      cases hb:c.cb with
      | true =>
        refine ⟨keep _ h1,fun x hx e1 e2 => ?_⟩
        rcases List.mem_append.1 hx with hx | hx
        · exact h2 x hx e1 e2
        · rw [List.mem_singleton.1 hx,hb] at e2; cases e2
      | false =>
        cases ho:lowO n l with
        | none =>
          refine ⟨fun x hx => ?_,fun x hx e1 e2=>⟨c,rfl,?_⟩⟩
          · cases hx; exact ⟨by simp,hn',hb⟩
          · rcases List.mem_append.1 hx with hx | hx
            · obtain ⟨y, hy, _⟩ := h2 x hx e1 e2
              rw [ho] at hy; cases hy
            · rw [List.mem_singleton.1 hx]; exact Int.le_refl _
        | some y =>
          rw [ho] at h1 h2
          show LowP n (l++[c]) (bif true&&(!false&&ilt y.cl c.cl) then some c else some y)
          by_cases hlt:y.cl < c.cl
          · rw [iltT hlt]
            refine ⟨fun x hx => ?_,fun x hx e1 e2=>⟨c,rfl,?_⟩⟩
            · cases hx; exact ⟨by simp,hn',hb⟩
            · rcases List.mem_append.1 hx with hx | hx
              · obtain ⟨z, hz, hle⟩ := h2 x hx e1 e2
                cases hz; omega
              · rw [List.mem_singleton.1 hx]; exact Int.le_refl _
          · rw [iltF (by omega)]
            refine ⟨keep _ h1,fun x hx e1 e2 => ?_⟩
            rcases List.mem_append.1 hx with hx | hx
            · exact h2 x hx e1 e2
            · refine ⟨y, rfl, ?_⟩
              rw [List.mem_singleton.1 hx]; omega
theorem high_spec (n : List UInt8) (l : List Cnd) : HighP n l (highO n l) := by
  induction l using snoc_ind with
  | h0=>exact ⟨fun c h=>(by cases h),fun x hx=>(by cases hx)⟩
  | h1 l c ih =>
    rw [high_snoc]
    obtain ⟨h1,h2⟩:=ih
    have keep:∀ o,(∀ x,o=some x→x∈l∧x.cn=n∧x.cb=true)→∀ x,o=some x→x∈l++[c]∧x.cn=n∧x.cb=true:=fun o h x hx=>⟨List.mem_append_left _ (h x hx).1,(h x hx).2⟩
    unfold highS
    cases hn:c.cn == n with
    | false =>
      refine ⟨keep _ h1,fun x hx e1 e2 => ?_⟩
      rcases List.mem_append.1 hx with hx | hx
      · exact h2 x hx e1 e2
      · rw [List.mem_singleton.1 hx] at e1; rw [beq_iff_eq.2 e1] at hn; cases hn
    | true =>
      have hn':=beq_iff_eq.1 hn
      cases hb:c.cb with
      | false =>
        refine ⟨keep _ h1,fun x hx e1 e2 => ?_⟩
        rcases List.mem_append.1 hx with hx | hx
        · exact h2 x hx e1 e2
        · rw [List.mem_singleton.1 hx,hb] at e2; cases e2
      | true =>
        cases ho:highO n l with
        | none =>
          refine ⟨fun x hx => ?_,fun x hx e1 e2=>⟨c,rfl,?_⟩⟩
          · cases hx; exact ⟨by simp,hn',hb⟩
          · rcases List.mem_append.1 hx with hx | hx
            · obtain ⟨y, hy, _⟩ := h2 x hx e1 e2
              rw [ho] at hy; cases hy
            · rw [List.mem_singleton.1 hx]; exact Int.le_refl _
        | some y =>
          rw [ho] at h1 h2
          show HighP n (l++[c]) (bif true&&(true&&ilt c.cl y.cl) then some c else some y)
          by_cases hlt:c.cl < y.cl
          · rw [iltT hlt]
            refine ⟨fun x hx => ?_,fun x hx e1 e2=>⟨c,rfl,?_⟩⟩
            · cases hx; exact ⟨by simp,hn',hb⟩
            · rcases List.mem_append.1 hx with hx | hx
              · obtain ⟨z, hz, hle⟩ := h2 x hx e1 e2
                cases hz; omega
              · rw [List.mem_singleton.1 hx]; exact Int.le_refl _
          · rw [iltF (by omega)]
            refine ⟨keep _ h1,fun x hx e1 e2 => ?_⟩
            rcases List.mem_append.1 hx with hx | hx
            · exact h2 x hx e1 e2
            · refine ⟨y, rfl, ?_⟩
              rw [List.mem_singleton.1 hx]; omega
theorem pair_mem {n:List UInt8} {l:List Cnd} {c:Cnd} (h:c∈pairL n l):c∈l∧c.cn=n∧(c.cb=false→lowO n l=some c)∧(c.cb=true→highO n l=some c):=by
  unfold pairL at h
  rcases List.mem_append.1 h with h | h
  · have e := Option.mem_toList.1 h
    obtain ⟨h1,h2,h3⟩:=(low_spec n l).1 c e
    exact ⟨h1,h2,fun _=>e,fun hb=>by rw [h3] at hb; cases hb⟩
  · have e := Option.mem_toList.1 h
    obtain ⟨h1,h2,h3⟩:=(high_spec n l).1 c e
    exact ⟨h1,h2,fun hb=>(by rw [h3] at hb; cases hb),fun _=>e⟩
theorem sim_mem {l:List Cnd} {c:Cnd} (h:c∈simC l):c∈l∧(c.cb=false→lowO c.cn l=some c)∧(c.cb=true→highO c.cn l=some c):=by
  obtain ⟨n,_,hn⟩:=List.mem_flatMap.1 h
  obtain ⟨h1,rfl,h3⟩:=pair_mem hn
  exact ⟨h1,h3⟩
theorem pair_short (n:List UInt8) (l:List Cnd):(pairL n l).length≤2:=by
  unfold pairL
  cases lowO n l<;>cases highO n l<;>simp
theorem sim_nodup (l : List Cnd) : (simC l).Nodup := by
  have key:∀ (ns:List (List UInt8)),ns.Nodup→(ns.flatMap fun n=>pairL n l).Nodup:=by
    intro ns
    induction ns with
    | nil=>intro _; simp
    | cons n ns ih =>
      intro h
      obtain ⟨h1,h2⟩:=List.nodup_cons.1 h
      rw [List.flatMap_cons]
      refine List.nodup_append.2 ⟨?_,ih h2,fun a ha b hb e => ?_⟩
      · unfold pairL
        cases hl:lowO n l with
        | none=>cases highO n l<;>simp
        | some x =>
          cases hh:highO n l with
          | none=>simp
          | some y =>
            have h3:=((low_spec n l).1 x hl).2.2
            have h4:=((high_spec n l).1 y hh).2.2
            have:x≠y:=fun e=>by rw [e,h4] at h3; cases h3
            simp [this]
      · obtain ⟨m, hm, hbm⟩ := List.mem_flatMap.1 hb
        have e1:=(pair_mem ha).2.1
        have e2:=(pair_mem hbm).2.1
        rw [e,e2] at e1
        rw [e1] at hm
        exact h1 hm
  exact key _ (nodes_nodup l)
theorem nodup_len {α:Type}:∀ {m l:List α},m.Nodup→(∀ x∈m,x∈l)→m.length≤l.length:=by
  classical
  intro m
  induction m with
  | nil=>intro l _ _; exact Nat.zero_le _
  | cons x m ih =>
    intro l h hs
    obtain ⟨h1,h2⟩:=List.nodup_cons.1 h
    have hx:=hs x (by simp)
    have:=ih (l:=l.erase x) h2 fun y hy=>(List.mem_erase_of_ne (fun e=>h1 (by rw [← e]; exact hy))).2 (hs y (by simp [hy]))
    rw [List.length_erase_of_mem hx] at this
    have:=List.length_pos_of_mem hx
    simp only [List.length_cons]
    omega
theorem sim_len (l:List Cnd):(simC l).length≤l.length:=nodup_len (sim_nodup l) fun _ h=>(sim_mem h).1
end Go.Proofs.YtlkfbblapimhoaaGreatDoor
