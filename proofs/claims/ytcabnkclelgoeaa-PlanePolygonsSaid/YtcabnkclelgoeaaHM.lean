/- The hull: wrapping finds it; its corners, and where its points are. Plain facts. -/
import Derived.Test.YtcabnkclelgoeaaCO
namespace Go.Proofs.Ytcabnkclelgoeaa
set_option linter.unusedSectionVars false
set_option linter.unusedSimpArgs false
set_option linter.unusedVariables false
set_option maxRecDepth 100000
noncomputable def leastL (m:Pt) (l:List Pt):Pt:=l.foldl (fun m x=>bif ltB x m then x else m) m
theorem least_spec : ∀ (l : List Pt) (m : Pt), leastL m l ∈ m :: l ∧ ∀ x ∈ m :: l, leP (leastL m l) x := by
  intro l
  induction l with
  | nil=>intro m; exact ⟨by simp [leastL],fun x hx=>by rw [List.mem_singleton.1 hx]; exact .inl rfl⟩
  | cons y l ih =>
    intro m
    show leastL (bif ltB y m then y else m) l∈_∧∀ x∈_,leP (leastL (bif ltB y m then y else m) l) x
    cases h:ltB y m
    · obtain ⟨i1, i2⟩ := ih m
      refine ⟨?_,fun x hx => ?_⟩
      · rcases List.mem_cons.1 i1 with k | k
        · exact List.mem_cons.2 (.inl k)
        · exact List.mem_cons.2 (.inr (List.mem_cons_of_mem _ k))
      · rcases List.mem_cons.1 hx with rfl | hx
        · exact i2 _ (by simp)
        · rcases List.mem_cons.1 hx with rfl | hx
          · exact leP_trans (i2 m (by simp)) (ltB_false.1 h)
          · exact i2 x (by simp [hx])
    · obtain ⟨i1, i2⟩ := ih y
      refine ⟨List.mem_cons_of_mem _ i1,fun x hx => ?_⟩
      rcases List.mem_cons.1 hx with rfl | hx
      · exact leP_trans (i2 y (by simp)) (.inr (ltB_iff.1 h))
      · exact i2 x hx
noncomputable def wrapGo (l:List Pt) (start:Pt):Nat→Pt→List Pt→List Pt
  | 0,_,out=>out
  | n+1,a,out=>bif eqP (scanL a l) start||eqP (scanL a l) a then out++[a] else wrapGo l start n (scanL a l) (out++[a])
noncomputable def startL (l:List Pt):Pt:=leastL (l.getD 0 d_pt) l
noncomputable def wrapL (l:List Pt):List Pt:=wrapGo l (startL l) (l.length+1) (startL l) []
theorem eqP_false {a b:Pt} (h:a≠b):eqP a b=false:=Bool.eq_false_iff.2 fun k=>h (eqP_iff.1 k)
theorem wrap_go {l h : List Pt} {m : Pt} (hs : ∀ x ∈ h, x ∈ l) (hn : h.Nodup) (hm : h.head? = some m) : ∀ (h2 : List Pt) (a : Pt) (h1 : List Pt) (n : Nat), h = h1 ++ a :: h2 → Pa (Side l) (a :: h2 ++ [m]) → h2.length < n → wrapGo l m n a h1 = h := by
  have hml:m∈l:=hs m (List.mem_of_mem_head? (by rw [hm]; exact rfl))
  intro h2
  induction h2 with
  | nil =>
    intro a h1 n e hp hl
    obtain ⟨n,rfl⟩:∃ k,n=k+1:=⟨n - 1,by simp at hl; omega⟩
    unfold wrapGo
    rw [scan_side hp.1 hml,eqP_iff.2 rfl]
    exact e.symm
  | cons b h2 ih =>
    intro a h1 n e hp hl
    obtain ⟨n,rfl⟩:∃ k,n=k+1:=⟨n - 1,by simp at hl; omega⟩
    have hbl:b∈l:=hs b (by rw [e]; simp)
    have hab:a≠b:=hp.1.1
    have hbm:b≠m:=by
      rintro rfl
      rw [e] at hm hn
      cases h1 with
      | nil=>simp at hm; exact hab hm
      | cons c h1 =>
        simp at hm
        subst hm
        rw [List.cons_append,List.nodup_cons] at hn
        exact hn.1 (by simp)
    unfold wrapGo
    rw [scan_side hp.1 hbl,eqP_false hbm,eqP_false (Ne.symm hab)]
    exact ih b (h1++[a]) n (by rw [e]; simp) hp.2 (by simp at hl; omega)
theorem nodup_len:∀ {h l:List Pt},h.Nodup→(∀ x∈h,x∈l)→h.length≤l.length:=by
  intro h
  induction h with
  | nil=>intro l _ _; simp
  | cons x h ih =>
    intro l hn hs
    obtain ⟨l1,l2,rfl⟩:=List.append_of_mem (hs x (by simp))
    have:=ih (l:=l1++l2) (List.nodup_cons.1 hn).2 fun y hy=>by
      have hxy:y≠x:=by rintro rfl; exact (List.nodup_cons.1 hn).1 hy
      have:=hs y (List.mem_cons_of_mem _ hy)
      simp only [List.mem_append,List.mem_cons] at this ⊢
      rcases this with k | k | k
      · exact .inl k
      · exact absurd k hxy
      · exact .inr k
    simp only [List.length_append,List.length_cons] at this ⊢
    omega
theorem start_eq {l:List Pt} {m:Pt} (hm:m∈l) (hle:∀ x∈l,leP m x):startL l=m:=by
  unfold startL
  cases l with
  | nil=>cases hm
  | cons y l =>
    have e:(y :: l).getD 0 d_pt=y:=rfl
    rw [e]
    obtain ⟨i1,i2⟩:=least_spec (y :: l) y
    refine le_antisymm (i2 m (List.mem_cons_of_mem _ hm)) (hle _ ?_)
    rcases List.mem_cons.1 i1 with k | k
    · rw [k]; simp
    · exact k
theorem wrap_hull {l h:List Pt} (H:HullOf l h):wrapL l=h:=by
  obtain ⟨m,hm,hle,hpa⟩:=H.path
  have hml:m∈l:=H.sub m (List.mem_of_mem_head? (by rw [hm]; exact rfl))
  unfold wrapL
  rw [start_eq hml hle]
  have hlen:=nodup_len H.nodup H.sub
  cases h with
  | nil=>simp at hm
  | cons a h2 =>
    simp at hm
    subst hm
    exact wrap_go H.sub H.nodup rfl h2 a [] _ rfl hpa (by simp only [List.length_cons] at hlen; omega)
theorem hull_mem {P Q h:List Pt} (H:HullOf P h) (hQ:∀ x∈Q,x∈P) (hh:∀ x∈h,x∈Q):HullOf Q h:=by
  obtain ⟨m,hm,hle,hpa⟩:=H.path
  exact ⟨⟨m,hm,fun x hx=>hle x (hQ x hx),pa_imp (fun a b k=>side_mem hQ k) hpa⟩,H.nodup,hh,H.two⟩
noncomputable def hulC (l:List Pt):List Pt:=bif (Int.ofNat (ascL l).length) == (1:Int) then ascL l else hullS (ascL l)
theorem scan_one {p:Pt}:∀ {l:List Pt},(∀ x∈l,x=p)→l.foldl (scanS p) p=p:=by
  intro l
  induction l with
  | nil=>intro _; rfl
  | cons x l ih =>
    intro h
    have hx:=h x (by simp)
    subst hx
    have:scanS x x x=x:=by unfold scanS; rw [eqP_iff.2 rfl]; rfl
    rw [List.foldl_cons,this]
    exact ih fun y hy=>h y (by simp [hy])
theorem hulC_cases {l:List Pt} (h:l≠[]):(∃ p,ascL l=[p]∧hulC l=[p])∨(2≤(ascL l).length∧hulC l=hullS (ascL l)∧HullOf l (hulC l)):=by
  unfold hulC
  match he:ascL l with
  | [] =>
    exfalso
    obtain ⟨x,hx⟩:=List.exists_mem_of_ne_nil l h
    have:=(ascL_mem l x).2 hx
    rw [he] at this
    cases this
  | [p]=>exact .inl ⟨p,rfl,rfl⟩
  | a :: b :: s =>
    refine .inr ⟨by simp,?_⟩
    rw [show ((Int.ofNat (a :: b :: s).length) == (1:Int))=false from beq_eq_false_iff_ne.2 (by simp; omega)]
    refine ⟨rfl,?_⟩
    have H:=hull_of (l:=a :: b :: s) (by rw [← he]; exact ascL_asc l) (by simp)
    exact hull_mem H (fun x hx=>by rw [← he]; exact (ascL_mem l x).2 hx) fun x hx=>(ascL_mem l x).1 (by rw [he]; exact H.sub x hx)
theorem hulC_wrap {l:List Pt} (h:l≠[]):hulC l=wrapL l:=by
  rcases hulC_cases h with ⟨p,e1,e2⟩ | ⟨_,_,H⟩
  · have hp : ∀ x ∈ l, x = p := fun x hx => by
      have:=(ascL_mem l x).2 hx
      rw [e1] at this
      exact List.mem_singleton.1 this
    have hpl:p∈l:=(ascL_mem l p).1 (by rw [e1]; simp)
    rw [e2]
    unfold wrapL
    rw [start_eq hpl fun x hx => .inl (hp x hx).symm]
    unfold wrapGo scanL
    rw [scan_one hp,eqP_iff.2 rfl]
    rfl
  · exact (wrap_hull H).symm
theorem hulC_le {l:List Pt} (h:l≠[]):(hulC l).length≤l.length:=by
  rcases hulC_cases h with ⟨p,e1,e2⟩ | ⟨_,_,H⟩
  · rw [e2,← e1]; exact ascL_le l
  · exact nodup_len H.nodup H.sub
noncomputable def tgB (lo hi p:Pt):Bool:=ile lo.py p.py&&(ilt p.py hi.py&&ilt 0 (trn lo hi p))
noncomputable def tog (a b p:Pt):Bool:=bif ilt b.py a.py then tgB b a p else tgB a b p
noncomputable def pairs:List Pt→List (Pt×Pt)
  | a :: b :: l=>(a,b) :: pairs (b :: l)
  | _=>[]
noncomputable def conP (p:Pt):List (Pt×Pt)→Bool→Int
  | [],odd=>bif odd then 1 else -1
  | e :: r,odd=>bif onB e.1 e.2 p then 0 else conP p r (odd ^^ tog e.1 e.2 p)
noncomputable def parE (p:Pt):List (Pt×Pt)→Bool→Bool
  | [],odd=>odd
  | e :: r,odd=>parE p r (odd ^^ tog e.1 e.2 p)
theorem conP_eq (p:Pt):∀ (es:List (Pt×Pt)) (odd:Bool),conP p es odd=bif es.any (fun e=>onB e.1 e.2 p) then 0 else bif parE p es odd then 1 else -1:=by
  intro es
  induction es with
  | nil=>intro odd; rfl
  | cons e es ih =>
    intro odd
    simp only [conP,List.any_cons,parE]
    cases onB e.1 e.2 p
    · exact ih _
    · rfl
theorem parE_app (p:Pt):∀ (a b:List (Pt×Pt)) (odd:Bool),parE p (a++b) odd=parE p b (parE p a odd):=by
  intro a
  induction a with
  | nil=>intro b odd; rfl
  | cons e a ih=>intro b odd; exact ih b _
theorem parE_flip (p:Pt):∀ (a:List (Pt×Pt)) (o c:Bool),parE p a (o ^^ c)=(parE p a o ^^ c):=by
  intro a
  induction a with
  | nil=>intro o c; rfl
  | cons e a ih =>
    intro o c
    show parE p a ((o ^^ c) ^^ _)=(parE p a (o ^^ _) ^^ c)
    rw [← ih]
    congr 1
    cases o<;>cases c<;>cases tog e.1 e.2 p<;>rfl
theorem conP_turn (p:Pt) (e:Pt×Pt) (r:List (Pt×Pt)) (odd:Bool):conP p (e :: r) odd=conP p (r++[e]) odd:=by
  rw [conP_eq,conP_eq,parE_app]
  have h1:(e :: r).any (fun e=>onB e.1 e.2 p)=(r++[e]).any (fun e=>onB e.1 e.2 p):=by
    rw [List.any_cons,List.any_append,List.any_cons,List.any_nil,Bool.or_false,Bool.or_comm]
  rw [h1]
  show (bif _ then _ else bif parE p r (odd ^^ tog e.1 e.2 p) then _ else _)=(bif _ then _ else bif (parE p r odd ^^ tog e.1 e.2 p) then _ else _)
  rw [parE_flip]
end Go.Proofs.Ytcabnkclelgoeaa
