/- inspection.Parse: the walk, and the contract of the lift. -/
import Derived.Test.YtnhmhcobpbilhaaGreatDoorSL
namespace Go.Proofs.YtnhmhcobpbilhaaGreatDoor
set_option linter.unusedSectionVars false
set_option linter.unusedSimpArgs false
set_option linter.unusedVariables false
open Go.RowKit Go.Shelf
attribute [local go_sem] Oper.semAt_some
theorem rel_tup2 {S:Nat→Prop} {ρ:Rho} {w:World} {a b:AV U El} {v:Value} (h:Rel E S ρ w (.tup [a,b]) v):∃ x y,v = .tuple #[x,y]∧Rel E S ρ w a x∧Rel E S ρ w b y:=by
  cases h with
  | tup _ vs hl h =>
    match vs,hl with
    | ⟨[x,y]⟩,_=>exact ⟨x,y,rfl,h 0 _ x rfl rfl,h 1 _ y rfl rfl⟩
theorem rel_agg4 {S:Nat→Prop} {ρ:Rho} {w:World} {a b c d:AV U El} {v:Value} (h:Rel E S ρ w (.agg [a,b,c,d]) v):∃ x y z t,v = .agg #[x,y,z,t]∧Rel E S ρ w a x∧Rel E S ρ w b y∧Rel E S ρ w c z∧Rel E S ρ w d t:=by
  cases h with
  | agg _ vs hl h =>
    match vs,hl with
    | ⟨[x,y,z,t]⟩,_=>exact ⟨x,y,z,t,rfl,h 0 _ x rfl rfl,h 1 _ y rfl rfl,h 2 _ z rfl rfl,h 3 _ t rfl rfl⟩
abbrev dag (d:Df):Value := .agg #[.string ⟨d.c.toArray⟩,.int .i64 d.a,.int .i64 d.l,.int .i64 d.s]
def dcs (d:Df):List Value:=[.string ⟨d.c.toArray⟩,.int .i64 d.a,.int .i64 d.l,.int .i64 d.s]
theorem line_calls (s:List UInt8) (hs:s.length≤90000) (w:World) (hG:E.G w):Calls Tryz.prog 25 #[.string ⟨s.toArray⟩] w fun e w'=>e = .returned (.tuple #[dag (lineD s),.bool (lineB s)])∧Below w.heap.size w w':=by
  refine ((line.spec s (nleT hs)).2.2 (fun _=>False) w _ (fun _ h=>h.elim) hG ⟨rfl,fun i c v hc hv => ?_⟩).mono ?_
  · match i, hc, hv with
    | 0,hc,hv=>cases hc; cases hv; exact .str _
  · rintro e w' ⟨v, S', ρ', rfl, hst, _, hr⟩
    obtain ⟨x,y,rfl,h1,h2⟩:=rel_tup2 hr
    obtain ⟨a,b,c,d,rfl,g1,g2,g3,g4⟩:=rel_agg4 h1
    cases g1; cases g2; cases g3; cases g4; cases h2
    exact ⟨rfl,hst.below⟩
theorem flat_dcs:∀ (xs:List Df) (i:Nat) (x:Df) (j:Nat),xs[i]? = some x→j < 4→(xs.flatMap dcs)[i * 4+j]? = (dcs x)[j]? := by
  intro xs
  induction xs with
  | nil=>intro i x j h; cases h
  | cons y ys ih =>
    intro i x j h hj
    rw [List.flatMap_cons]
    cases i with
    | zero =>
      cases h
      rw [Nat.zero_mul,Nat.zero_add,List.getElem?_append_left (by simpa [dcs] using hj)]
    | succ i =>
      rw [List.getElem?_append_right (by simp [dcs]; omega)]
      have:(i+1) * 4+j - (dcs y).length=i * 4+j:=by simp [dcs]; omega
      rw [this]
      exact ih i x j h hj
theorem dcs_enc {d:Df} {j:Nat} {a:AV U El} (h:(E.enc .df d)[j]? = some a):∃ v,(dcs d)[j]? = some v∧∀ (S:Nat→Prop) ρ w,Rel E S ρ w a v:=by
  match j,h with
  | 0,h=>cases h; exact ⟨_,rfl,fun _ _ _ => .str _⟩
  | 1,h=>cases h; exact ⟨_,rfl,fun _ _ _ => .int _ _⟩
  | 2,h=>cases h; exact ⟨_,rfl,fun _ _ _ => .int _ _⟩
  | 3,h=>cases h; exact ⟨_,rfl,fun _ _ _ => .int _ _⟩
  | j+4,h=>simp [E] at h
theorem valid_calls (l : List Df) (v : Value) (w : World) (n₀ : Nat) (hown : w.ownsRow n₀ 37 4 v l.length (l.flatMap dcs)) (hG : E.G w) : Calls Tryz.prog 10 #[v, .int .i64 16777216] w fun e w' => e = .returned (.bool (validB 16777216 l)) ∧ Below w.heap.size w w' := by
  have key:∃ S:Nat→Prop,(∀ b,S b→b < w.heap.size)∧Rel E S (fun _=>none) w (.lst .df l) v:=by
    rcases hown.2 with ⟨rfl,h0⟩ | ⟨g,cap,cur,rfl,hbg,hgb,hnc,hcm,hcs,htake⟩
    · have : l = [] := List.length_eq_zero_iff.1 h0
      subst this
      exact ⟨fun _=>False,fun _ h=>h.elim,.lstE _ _ _⟩
    · have hcell : ∀ (i : Nat) x (j : Nat) a, l[i]? = some x → (E.enc .df x)[j]? = some a → ∃ u, cur[i * 4 + j]? = some u ∧ ∀ (S : Nat → Prop) ρ w, Rel E S ρ w a u := fun i x j a hi hj => by
        have hil:i < l.length:=(List.getElem?_eq_some_iff.1 hi).1
        have hj4:j < 4:=by have:=(List.getElem?_eq_some_iff.1 hj).1; simpa [E] using this
        obtain ⟨u,hu,hrel⟩:=dcs_enc hj
        refine ⟨u,?_,hrel⟩
        have hc1:cur.toList[i * 4+j]? = (dcs x)[j]? := by
          rw [← flat_dcs l i x j hi hj4,← htake,List.getElem?_take_of_lt (by omega)]
        rw [hu] at hc1
        simpa using hc1
      refine ⟨fun b=>b=g,fun b hb=>by rw [hb]; exact (Array.getElem?_eq_some_iff.1 hgb).1,Rel.lst (E:=E) U.df l g 0 cap (fun i j=>cur[i * 4+j]!) rfl hnc (fun i x j a hi hj => ?_) (fun i x j a hi hj => ?_)⟩
      · obtain ⟨u, hu, _⟩ := hcell i x j a hi hj
        show World.cell? _ ⟨g,0+i * 4+j,none⟩=_
        rw [show 0+i * 4+j=i * 4+j by omega]
        have hlt:=(Array.getElem?_eq_some_iff.1 hu).1
        simp [World.cell?,hgb,hlt]
      · obtain ⟨u, hu, hrel⟩ := hcell i x j a hi hj
        have hlt:=(Array.getElem?_eq_some_iff.1 hu).1
        have he:cur[i * 4+j]! = u:=by
          rw [getElem!_pos cur (i * 4+j) hlt]
          exact (Array.getElem?_eq_some_iff.1 hu).2
        show Rel E _ _ _ a (cur[i * 4+j]!)
        rw [he]
        exact hrel _ _ _
  obtain ⟨S,hS,hrel⟩:=key
  refine ((valid.spec l 16777216).2.2 S w _ hS hG ⟨rfl,fun i c u hc hv => ?_⟩).mono ?_
  · match i, hc, hv with
    | 0,hc,hv=>cases hc; cases hv; exact hrel
    | 1,hc,hv=>cases hc; cases hv; exact .int _ _
  · rintro e w' ⟨v, S', ρ', rfl, hst, _, hr⟩
    cases hr
    exact ⟨rfl,hst.below⟩
structure PAt (w:World) (ls:List (List UInt8)) (W:World):Prop where
  out:∃ ds:List Df,ls.map lineO=ds.map some∧W.heap[w.heap.size+4]? = some (.cells #[.int .i64 ((ds.length:Int)+1),.int .i64 1] 29 (0,0)) ∧
    ∃ v,Boxed W (w.heap.size+3) 22 v∧W.ownsRow w.heap.size 37 4 v ds.length (ds.flatMap dcs)∧some (w.heap.size+5)≠v.ownBlock
  a2:W.heap[w.heap.size]? = some (.cells #[.slice none 0 0] 22 (0,0))
  a3:W.heap[w.heap.size+1]? = some (.cells #[.int .i64 0,.int .i64 0] 29 (0,0))
  a4:W.heap[w.heap.size+2]? = some (.cells #[.int .i64 0] 25 (0,0))
  below:Below w.heap.size w W
structure PBad (w:World) (c:Code) (ls:List (List UInt8)) (W:World):Prop where
  ret:c = .ret
  bad:∃ (p:List (List UInt8)) (x:List UInt8) (ds:List Df),ls=p++[x]∧p.map lineO=ds.map some∧lineO x=none∧W.heap[w.heap.size+1]? = some (.cells #[.int .i64 ((ds.length:Int)+1),.int .i64 1] 29 (0,0))
  a2:W.heap[w.heap.size]? = some (.cells #[.slice none 0 0] 22 (0,0))
  a4:W.heap[w.heap.size+2]? = some (.cells #[.int .i64 7] 25 (0,0))
  below:Below w.heap.size w W
theorem PAt.kept {w A B : World} {ls : List (List UInt8)} {row : Option Nat} (h : PAt w ls A) (hg : A.grownBy B row) (hr : ∀ r, row = some r → r = w.heap.size + 5 ∨ (w.heap.size + 6 ≤ r ∧ ∃ o : Obj, A.heap[r]? = some o ∧ o.isCells = false)) : PAt w ls B := by
  have ne:∀ k,k < w.heap.size+5→some k≠row:=fun k hk e=>by
    rcases hr k e.symm with h | ⟨h,_⟩<;>omega
  have kp:∀ {k:Nat} {o:Obj},k < w.heap.size+5→A.heap[k]? = some o→B.heap[k]? = some o:=fun {k o} hk ho=>(hg.block k (Array.getElem?_eq_some_iff.1 ho).1 (ne k hk)).trans ho
  obtain ⟨ds,h1,h2,v,h3,h4,h5⟩:=h.out
  refine ⟨⟨ds,h1,kp (by omega) h2,v,kp (by omega) h3,h4.kept hg ?_,h5⟩,kp (by omega) h.a2,kp (by omega) h.a3,kp (by omega) h.a4,h.below.grown hg h.below.size (fun k e=>by rcases hr k e with h | ⟨h,_⟩<;>omega)⟩
  cases row with
  | none=>cases hb:v.ownBlock<;>simp
  | some r =>
    rcases hr r rfl with rfl | ⟨_,o,ho,hc⟩
    · exact .inr fun e=>h5 e.symm
    · rcases h4.2 with ⟨rfl, _⟩ | ⟨g, cap, cur, rfl, _, hgb, _⟩
      · exact .inl rfl
      · refine .inr fun e => ?_
        have:g=r:=by simpa [Value.ownBlock] using e
        subst this
        rw [hgb] at ho; cases ho; cases hc
theorem PAt.step {w A B:World} {ls:List (List UInt8)} (h:PAt w ls A) (hb:Below A.heap.size A B):PAt w ls B :=
  h.kept (row:=none) ⟨hb.os,hb.tape,hb.output,hb.size,fun k hk _=>hb.block k hk⟩ (fun r e=>by cases e)
theorem PBad.kept {w A B:World} {c:Code} {ls:List (List UInt8)} {row:Option Nat} (h:PBad w c ls A) (hg:A.grownBy B row) (hr:∀ r,row=some r→w.heap.size+6≤r):PBad w c ls B:=by
  have kp:∀ {k:Nat} {o:Obj},k < w.heap.size+5→A.heap[k]? = some o→B.heap[k]? = some o:=fun {k o} hk ho=>(hg.block k (Array.getElem?_eq_some_iff.1 ho).1 (fun e=>by have:=hr k e.symm; omega)).trans ho
  obtain ⟨p,x,ds,h1,h2,h3,h4⟩:=h.bad
  exact ⟨h.ret,⟨p,x,ds,h1,h2,h3,kp (by omega) h4⟩,kp (by omega) h.a2,kp (by omega) h.a4,h.below.grown hg h.below.size (fun k e=>by have:=hr k e; omega)⟩
theorem alloc_at {w:World} {c:Array Value} {t:TypeId} {k:Nat} (h:k=w.heap.size):(w.alloc (.cells c t)).heap[k]? = some (.cells c t (0,0)):=by subst h; exact World.alloc_heap_new w _
theorem alloc_old {w:World} {o o':Obj} {k:Nat} (h:k < w.heap.size) (ho:w.heap[k]? = some o'):(w.alloc o).heap[k]? = some o':=(Below.heap_alloc _ _ k h).trans ho
theorem cell_in {W:World} {k j:Nat} {cs:Array Value} {t:TypeId} {v:Value} (h:W.heap[k]? = some (.cells cs t (0,0))) (hj:cs[j]? = some v):W.cell? ⟨k,j,none⟩=some v:=by simp [World.cell?,h,hj]
theorem froz_in {W:World} {k j:Nat} {cs:Array Value} {t:TypeId} (h:W.heap[k]? = some (.cells cs t (0,0))):W.frozen? ⟨k,j,none⟩=false:=by simp [World.frozen?,h]
theorem gs_any (W:World) (b j:Nat) (v:Value):W.grownBy (W.setCell ⟨b,j,none⟩ v) (some b) :=
  ⟨rfl,rfl,rfl,(KeepsWalks.setCell W _ v).size,fun k _ hk=>Below.heap_setCell _ _ _ k (fun e=>hk (by rw [e]))⟩
theorem set_at {W:World} {k j:Nat} {cs:Array Value} {t:TypeId} {u:Value} (h:W.heap[k]? = some (.cells cs t (0,0))):(W.setCell ⟨k,j,none⟩ u).heap[k]? = some (.cells (cs.setIfInBounds j u) t (0,0)):=by
  simp [World.setCell,Array.getElem?_modify,h]
theorem set_old {W:World} {b j k:Nat} {u:Value} {o:Obj} (hne:k≠b) (h:W.heap[k]? = some o):(W.setCell ⟨b,j,none⟩ u).heap[k]? = some o:=(Below.heap_setCell _ _ _ k hne).trans h
theorem bad_end {w W2:World} {pre:List (List UInt8)} {x:List UInt8} {ds:List Df} (B:Nat) (hP2:PAt w pre W2) (hds:pre.map lineO=ds.map some) (hx:lineO x=none) :
    KeepsFrom B W2 ((((W2.setCell ⟨w.heap.size,0,none⟩ (.slice none 0 0)).setCell ⟨w.heap.size+1,0,none⟩ (.int .i64 ((ds.length:Int)+1))).setCell ⟨w.heap.size+1,1,none⟩ (.int .i64 1)).setCell ⟨w.heap.size+2,0,none⟩ (.int .i64 7)).drew ∧
    PBad w .ret (pre++[x]) ((((W2.setCell ⟨w.heap.size,0,none⟩ (.slice none 0 0)).setCell ⟨w.heap.size+1,0,none⟩ (.int .i64 ((ds.length:Int)+1))).setCell ⟨w.heap.size+1,1,none⟩ (.int .i64 1)).setCell ⟨w.heap.size+2,0,none⟩ (.int .i64 7)).drew:=by
  have hs0:=hP2.below.size
  have b1:=hP2.below.grown (gs_any W2 w.heap.size 0 (.slice none 0 0)) hs0 (fun k e=>by cases e; exact Nat.le_refl _)
  have b2:=b1.grown (gs_any _ (w.heap.size+1) 0 (.int .i64 ((ds.length:Int)+1))) b1.size (fun k e=>by cases e; omega)
  have b3:=b2.grown (gs_any _ (w.heap.size+1) 1 (.int .i64 1)) b2.size (fun k e=>by cases e; omega)
  have b4:=b3.grown (gs_any _ (w.heap.size+2) 0 (.int .i64 7)) b3.size (fun k e=>by cases e; omega)
  refine ⟨(((((KeepsOthers.setCell _ _ _).trans (KeepsOthers.setCell _ _ _)).trans (KeepsOthers.setCell _ _ _)).trans (KeepsOthers.setCell _ _ _)).trans (KeepsOthers.drew _)).from B,rfl,⟨pre,x,ds,rfl,hds,hx,?_⟩,?_,?_,?_⟩
  · exact set_old (by omega) (set_at (set_at (set_old (by omega) hP2.a3)))
  · exact set_old (by omega) (set_old (by omega) (set_old (by omega) (set_at hP2.a2)))
  · exact set_at (set_old (by omega) (set_old (by omega) (set_old (by omega) hP2.a4)))
  · exact b4.grown (row:=none) ⟨rfl,rfl,rfl,Nat.le_refl _,fun _ _ _=>rfl⟩ b4.size (fun k e=>by cases e)
theorem not_row {W:World} {B:Nat} {cs:Array Value} {t e:TypeId} (h:W.heap[B]? = some (.cells cs t (0,0))) (hte:t≠e) {base size k:Nat} {v:Value} {xs:List Value} (hr:W.ownsRow base e size v k xs):some B≠v.ownBlock:=by
  rcases hr.2 with ⟨rfl,_⟩ | ⟨g,cap,cur,rfl,_,hgb,_⟩
  · simp [Value.ownBlock]
  · intro e'
    obtain rfl:B=g:=by simpa [Value.ownBlock] using e'
    rw [hgb] at h
    exact hte (Obj.cells.inj (Option.some.inj h)).2.1.symm
theorem G_below {w W:World} (h:E.G w) (hb:Below w.heap.size w W):E.G W:=E_good.gst w W h hb
theorem infoD:(Tryz.prog.info? 37).map (fun i=>(i.zero,i.size,i.bytes))=some (some (.agg #[.string ⟨#[]⟩,.int .i64 0,.int .i64 0,.int .i64 0]),4,40):=by kernel_rfl
theorem cell_four_new (w:World) (d:Df) (t:TypeId):∀ j u,(dcs d)[j]? = some u→(w.alloc (.cells #[.string ⟨d.c.toArray⟩,.int .i64 d.a,.int .i64 d.l,.int .i64 d.s] t)).cell? ((⟨w.heap.size,0,none⟩:Addr).add j)=some u:=by
  intro j u hj
  match j,hj with
  | 0,hj=>cases hj; simp [Addr.add]
  | 1,hj=>cases hj; simp [Addr.add]
  | 2,hj=>cases hj; simp [Addr.add]
  | 3,hj=>cases hj; simp [Addr.add]
theorem par_all {s:List UInt8} {xs:List (List UInt8)} (h:LinesOf s xs):∀ (ds:List Df) (n:Int) (acc:List Df),xs.map lineO=ds.map some→parK (splitL s [10]) n acc=finR (acc++ds):=by
  induction h with
  | nil =>
    intro ds n acc hd
    have:ds=[]:=by cases ds with | nil=>rfl | cons a b=>cases hd
    subst this
    rw [par_none (by simp)]
    simp
  | @last s h1 h2 =>
    intro ds n acc hd
    exfalso
    have:lineO s=none:=by unfold lineO; rw [suf_none h2]; rfl
    cases ds with
    | nil=>cases hd
    | cons a b=>simp [this] at hd
  | @cons x r l h1 h2 ih =>
    intro ds n acc hd
    have hx:lineO (x++[10])=linO x:=by unfold lineO; rw [(suf_snoc x).1,(suf_snoc x).2]; rfl
    cases ds with
    | nil=>cases hd
    | cons d ds =>
      simp only [List.map_cons,List.cons.injEq,hx] at hd
      rw [par_cons h1,hd.1]
      show parK (splitL r [10]) (n+1) (acc++[d])=_
      rw [ih ds (n+1) (acc++[d]) hd.2]
      simp
theorem par_bad {s : List UInt8} {xs : List (List UInt8)} (h : LinesOf s xs) : ∀ (p : List (List UInt8)) (x : List UInt8) (rest : List (List UInt8)) (ds : List Df) (n : Int) (acc : List Df), xs = p ++ x :: rest → p.map lineO = ds.map some → lineO x = none → parK (splitL s [10]) n acc = ([], n + (ds.length : Int), 7) := by
  induction h with
  | nil=>intro p x rest ds n acc h; simp at h
  | @last s h1 h2 =>
    intro p x rest ds n acc he hd _
    have:p=[]:=by cases p with | nil=>rfl | cons a b=>simp at he
    subst this
    have:ds=[]:=by cases ds with | nil=>rfl | cons a b=>cases hd
    subst this
    rw [par_none h2,show (s == [])=false from beq_eq_false_iff_ne.2 h1]
    simp
  | @cons x0 r l h1 h2 ih =>
    intro p x rest ds n acc he hd hx
    have hx0:lineO (x0++[10])=linO x0:=by unfold lineO; rw [(suf_snoc x0).1,(suf_snoc x0).2]; rfl
    cases p with
    | nil =>
      have hd0:ds=[]:=by cases ds with | nil=>rfl | cons a b=>cases hd
      subst hd0
      simp only [List.nil_append,List.cons.injEq] at he
      rw [par_cons h1,← hx0,he.1,hx]
      simp
    | cons q p =>
      simp only [List.cons_append,List.cons.injEq] at he
      obtain ⟨rfl,rfl⟩:=he
      cases ds with
      | nil=>cases hd
      | cons d ds =>
        simp only [List.map_cons,List.cons.injEq,hx0] at hd
        rw [par_cons h1,hd.1]
        show parK (splitL r [10]) (n+1) (acc++[d])=_
        rw [ih p x rest ds (n+1) (acc++[d]) rfl hd.2 hx]
        simp only [List.length_cons]
        congr 2
        omega
theorem results_parse {W:World} {tm:Array Value} {A B C:Nat} {v:Value} {x y e:Int} (h2:tm.getD 2 undef = .pointer (some ⟨A,0,none⟩)) (h3:tm.getD 3 undef = .pointer (some ⟨B,0,none⟩)) (h4:tm.getD 4 undef = .pointer (some ⟨C,0,none⟩))
    (c2:W.heap[A]? = some (.cells #[v] 22 (0,0))) (c3:W.heap[B]? = some (.cells #[.int .i64 x,.int .i64 y] 29 (0,0))) (c4:W.heap[C]? = some (.cells #[.int .i64 e] 25 (0,0))) :
    (results Tryz.f8 tm).run Tryz.prog W = .ok (.tuple #[v,.agg #[.int .i64 x,.int .i64 y],.int .i64 e]) W:=by
  have o2:=cell_in (j:=0) c2 rfl
  have o30:=cell_in (j:=0) c3 rfl
  have o31:=cell_in (j:=1) c3 rfl
  have o4:=cell_in (j:=0) c4 rfl
  simp only [Array.getD_eq_getD_getElem?] at h2 h3 h4
  simp [results,Tryz.results8,go_sem,h2,h3,h4,o2,o30,o31,o4]
theorem parse_out {w:World} {s:List UInt8} {tm:Array Value} {D:Nat} {W:World} {v:Value} {x y e:Int} (hD:w.heap.size+6≤D) (hK:W.heap[D]? = some (.deferred (some [])))
    (h2:tm.getD 2 undef = .pointer (some ⟨w.heap.size,0,none⟩)) (h3:tm.getD 3 undef = .pointer (some ⟨w.heap.size+1,0,none⟩)) (h4:tm.getD 4 undef = .pointer (some ⟨w.heap.size+2,0,none⟩))
    (c2:W.heap[w.heap.size]? = some (.cells #[v] 22 (0,0))) (c3:W.heap[w.heap.size+1]? = some (.cells #[.int .i64 x,.int .i64 y] 29 (0,0))) (c4:W.heap[w.heap.size+2]? = some (.cells #[.int .i64 e] 25 (0,0)))
    (hx:x=(parP s).pl) (hy:y=(parP s).pc) (he:e=parE s) (hrow:W.ownsRow w.heap.size 37 4 v (parL s).length ((parL s).flatMap dcs)) (hb:Below w.heap.size w W) :
    bodyPostM Fence.wide 3 Tryz.prog Tryz.f8 (fun e w'=>∃ v,e = .returned (.tuple #[v,.agg #[.int .i64 (parP s).pl,.int .i64 (parP s).pc],.int .i64 (parE s)])∧w'.ownsRow w.heap.size 37 4 v (parL s).length ((parL s).flatMap dcs)∧Below w.heap.size w w')
      .ret { tmps:=tm,defers:=[{ target := .collected D,args:=#[] }] } W:=by
  refine ⟨by simp,.inl ⟨_,_,rfl,run_takeDeferred hK,?_⟩⟩
  refine ⟨_,results_parse h2 h3 h4 ((World.putObj_heap_other (by omega)).trans c2) ((World.putObj_heap_other (by omega)).trans c3) ((World.putObj_heap_other (by omega)).trans c4),v,by rw [hx,hy,he],ownsRow_putObj hrow _ hK rfl,?_⟩
  exact hb.grown (grownBy_putObj' _ _ _) hb.size (fun k e=>by cases e; omega)
set_option maxRecDepth 100000 in
set_option maxHeartbeats 2000000 in
theorem parse_in (s : List UInt8) (hs : s.length ≤ 90000) (w : World) (hG : E.G w) :
    CallsIn Fence.wide 3 Tryz.prog 8 #[.string ⟨s.toArray⟩] w fun e w'=>∃ v,e = .returned (.tuple #[v,.agg #[.int .i64 (parP s).pl,.int .i64 (parP s).pc],.int .i64 (parE s)])∧w'.ownsRow w.heap.size 37 4 v (parL s).length ((parL s).flatMap dcs)∧Below w.heap.size w w':=by
  have hsz:(⟨s.toArray⟩:ByteArray).size=s.length:=by simp [ByteArray.size]
  refine callsIn_of_wp_marks Tryz.func8 rfl trivial ?_ rfl
  simp only [Tryz.ntmps8,List.size_toArray,List.length_cons,List.length_nil,Nat.reduceAdd,Nat.reduceSub,Array.replicate_succ,Array.replicate_zero,List.push_toArray,List.append_toArray,List.nil_append,List.cons_append]
  gi_wp2_with (refine ⟨trivial,?_⟩; gi_at_call 24; refine (lines_in _ s _).mono ?_; rintro e w' ⟨rfl,rfl⟩)
  simp only [Nat.add_assoc,Nat.reduceAdd]
  obtain ⟨xs,hx⟩:=lines_ex s.length s (Nat.le_refl _)
  obtain ⟨wL,hwL⟩:∃ wL,((((((w.alloc (.cells #[.slice none 0 0] 22)).alloc (.cells #[.int .i64 0,.int .i64 0] 29)).alloc (.cells #[.int .i64 0] 25)).alloc (.cells #[.slice none 0 0] 22)).alloc (.cells #[.int .i64 1,.int .i64 1] 29)).alloc (.cells #[.string ⟨s.toArray⟩] 9))=wL:=⟨_,rfl⟩
  rw [hwL]
  have hsL:wL.heap.size=w.heap.size+6:=by rw [← hwL]; simp
  have hAt:PAt w [] wL:=by
    rw [← hwL]
    have lt:∀ {a b:Nat},a < b→a < b:=fun h=>h
    refine ⟨⟨[],rfl,alloc_old (by simp) (alloc_at (by simp)),_,alloc_old (by simp) (alloc_old (by simp) (alloc_at (by simp))),World.ownsRow_nil _ _ _ _,by simp [Value.ownBlock]⟩,alloc_old (by simp<;>omega) (alloc_old (by simp<;>omega) (alloc_old (by simp<;>omega) (alloc_old (by simp<;>omega) (alloc_old (by simp<;>omega) (alloc_at rfl))))),
      alloc_old (by simp<;>omega) (alloc_old (by simp<;>omega) (alloc_old (by simp<;>omega) (alloc_old (by simp<;>omega) (alloc_at (by simp))))),alloc_old (by simp<;>omega) (alloc_old (by simp<;>omega) (alloc_old (by simp<;>omega) (alloc_at (by simp)))),?_⟩
    exact (((((((Below.refl _ w).alloc (Nat.le_refl _) _).alloc (by simp) _).alloc (by simp; omega) _).alloc (by simp; omega) _).alloc (by simp; omega) _).alloc (by simp; omega) _)
  have hBox:Boxed wL (w.heap.size+5) 9 (.string ⟨s.toArray⟩):=by rw [← hwL]; exact alloc_at (by simp)
  refine wpIn_rangeFunc_L rfl (by omega) (gf:=41) (lb:=#[.pointer (some ⟨w.heap.size+5,0,none⟩)]) rfl trivial (enters_of Tryz.func41 (by kernel_rfl) rfl) (Bs:=w.heap.size+5) (xs:=xs)
    (lines_seq 2 (by omega) (w.heap.size+5) s xs (by omega) hx _ hBox) (by omega) hBox (PAt w) (PBad w)
    (fun ls A B row h hg hr=>h.kept hg (fun r e=>by rcases hr r e with h | h; exact .inl h; exact .inr ⟨by omega,h.2⟩)) (fun c ls A B row h hg hr=>h.kept hg (fun r e=>by have:=(hr r e).1; omega)) hAt ?a1 ?assign ?body ?done ?stop
  case assign =>
    intro l x W K hK
    gi_wp2
    exact hK
  case body =>
    rintro l pre x W hl ⟨ub,hub⟩ hP hpre
    have hxm:x∈xs:=hpre.subset (by simp)
    have hxl:x.length≤90000:=Nat.le_trans ((lines_len hx).2 x hxm) hs
    have hpl:pre.length+1≤90000:=by
      have:=hpre.length_le
      have h2:=(lines_len hx).1
      simp at this
      omega
    have hGW:=G_below hG hP.below
    cases hlb:lineB x with
    | false =>
      gi_wp2_with (refine ⟨trivial,?_⟩; gi_at_call 25; refine (CallsIn.inRound l (callsIn_wide.2 (line_calls x hxl _ hGW))).mono ?_; rintro e w1 ⟨rfl,hb1⟩; rw [hlb])
      obtain ⟨W2,hW2⟩:∃ W2,(w1.alloc (.cells #[.string ⟨(lineD x).c.toArray⟩,.int .i64 (lineD x).a,.int .i64 (lineD x).l,.int .i64 (lineD x).s] 37))=W2:=⟨_,rfl⟩
      rw [hW2]
      have hP2:PAt w pre W2:=by rw [← hW2]; exact (hP.step hb1).kept (World.grownBy_alloc _ _ none) (fun r e=>by cases e)
      have hKp:KeepsFrom wL.heap.size W W2:=by
        rw [← hW2]
        exact ⟨Nat.le_trans hb1.size (by simp),fun k o _ hk _=>(alloc_old (Nat.lt_of_lt_of_le (Array.getElem?_eq_some_iff.1 hk).1 hb1.size) ((hb1.block k (Array.getElem?_eq_some_iff.1 hk).1).trans hk))⟩
      obtain ⟨ds,hds,hat,v,hv,hrow,hvB⟩:=hP2.out
      have c40:=cell_in (j:=0) hat rfl
      have c41:=cell_in (j:=1) hat rfl
      have c20:=cell_in (j:=0) hP2.a2 rfl
      have c30:=cell_in (j:=0) hP2.a3 rfl
      have c31:=cell_in (j:=1) hP2.a3 rfl
      have c4:=cell_in (j:=0) hP2.a4 rfl
      have f2:=froz_in (j:=0) hP2.a2
      have f30:=froz_in (j:=0) hP2.a3
      have f31:=froz_in (j:=1) hP2.a3
      have f4:=froz_in (j:=0) hP2.a4
      have hmx:Tryz.prog.follows .mixedOrders=true:=by kernel_rfl
      clear hW2
      gi_region
      all_goals gi_wp2
      all_goals
        obtain ⟨k1,k2⟩:=bad_end wL.heap.size hP2 hds (by unfold lineB at hlb; cases h:lineO x with | none=>rfl | some d=>rw [h] at hlb; cases hlb)
        exact ⟨hKp.trans k1,k2⟩
    | true =>
      obtain ⟨i0,hi,hz0,hz1,hz2⟩:=info_parts infoD
      have hlO:lineO x=some (lineD x):=by
        unfold lineB at hlb
        unfold lineD
        cases h:lineO x with
        | none=>rw [h] at hlb; cases hlb
        | some d=>rfl
      have hmaxL:90001≤maxLen:=by decide
      have hlen5:∀ ds:List Df,pre.map lineO=ds.map some→ds.length≤90000:=fun ds h=>by
        have:=congrArg List.length h
        simp at this
        omega
      gi_wp2_with (first
        | (refine ⟨trivial,?_⟩; gi_at_call 25; refine (CallsIn.inRound l (callsIn_wide.2 (line_calls x hxl _ hGW))).mono ?_; rintro e w1 ⟨rfl,hb1⟩; rw [hlb]
           have hP2:PAt w pre (w1.alloc (.cells #[.string ⟨(lineD x).c.toArray⟩,.int .i64 (lineD x).a,.int .i64 (lineD x).l,.int .i64 (lineD x).s] 37)):=(hP.step hb1).kept (World.grownBy_alloc _ _ none) (fun r e=>by cases e)
           obtain ⟨ds,hds,hat,v,hv,hrow,hvB⟩:=hP2.out
           have c5:=hv.cell
           have hl5:=hlen5 ds hds)
        | (gi_at_builtin; refine wpListIn_append_own _ rfl _ _ 22 rfl w.heap.size 37 i0 _ 4 40 Tryz.underlying22 hi hz0 hz1 hz2 rfl (by decide) _ _ _ rfl (hrow.alloc _) ⟨w1.heap.size+1,0,none⟩ 1 1 (dcs (lineD x)) rfl rfl (by have h4:=cell_four_new (w1.alloc (.cells #[.string ⟨(lineD x).c.toArray⟩,.int .i64 (lineD x).a,.int .i64 (lineD x).l,.int .i64 (lineD x).s] 37)) (lineD x) 37; rw [World.size_alloc] at h4; exact h4) (by simp [Value.oneCell',dcs]) (by omega) (by omega) (by have h4:=hP2.below.size; simp at h4 ⊢; omega) ?_; intro v' w3 hown' hgrow _
           have hgrow:World.grownBy _ w3 v.ownBlock:=hgrow
           have hsz2:w.heap.size≤(w1.alloc (.cells #[.string ⟨(lineD x).c.toArray⟩,.int .i64 (lineD x).a,.int .i64 (lineD x).l,.int .i64 (lineD x).s] 37)).heap.size:=hP2.below.size
           obtain ⟨g',cap',rfl⟩:=ownsRow_succ hown'
           obtain ⟨hv1,hv2,hr2,hk2,hb2⟩:=hv.appended (by decide) hrow hsz2 (by omega) hown' hgrow
           have hc1:=hv1.cell
           have hf1:=hv1.frozen
           have hoth:∀ {k:Nat} {cs:Array Value} {t:TypeId},(w1.alloc (.cells #[.string ⟨(lineD x).c.toArray⟩,.int .i64 (lineD x).a,.int .i64 (lineD x).l,.int .i64 (lineD x).s] 37)).heap[k]? = some (.cells cs t (0,0))→t≠37→k≠w.heap.size+3→(w3.setCell ⟨w.heap.size+3,0,none⟩ (.slice (some ⟨g',0,none⟩) (ds.length+1) cap')).heap[k]? = some (.cells cs t (0,0)):=fun {k cs t} hk ht h3=>set_old h3 ((hgrow.block k (by have:=(Array.getElem?_eq_some_iff.1 hk).1; simp at this ⊢; omega) (fun e=>by
             rcases hrow.2 with ⟨rfl,_⟩ | ⟨g,cap,cur,rfl,_,hgb,_⟩
             · cases e
             · have hg : k = g := by simpa [Value.ownBlock] using e
               subst hg
               rw [hgb] at hk
               have:=(Obj.cells.inj (Option.some.inj hk)).2.1
               exact ht this.symm)).trans (alloc_old (Array.getElem?_eq_some_iff.1 hk).1 hk))
           have hat4:=hoth hat (by decide) (by omega)
           have c40:=cell_in (j:=0) hat4 rfl
           have c41:=cell_in (j:=1) hat4 rfl
           have f40:=froz_in (j:=0) hat4
           have hw1:IntKind.wrap .i64 ((ds.length:Int)+1+1)=(ds.length:Int)+1+1:=wrapI (by omega) (by omega)))
      have hub2:(w1.alloc (.cells #[.string ⟨(lineD x).c.toArray⟩,.int .i64 (lineD x).a,.int .i64 (lineD x).l,.int .i64 (lineD x).s] 37)).heap[w.heap.size+5]? = some (.cells #[.string ub] 9 (0,0)) :=
        alloc_old (Nat.lt_of_lt_of_le hub.lt hb1.size) ((hb1.block _ hub.lt).trans hub)
      have hub5:=set_old (b:=w.heap.size+4) (j:=0) (u := .int .i64 ((ds.length:Int)+1+1)) (by omega) (hoth hub2 (by decide) (by omega))
      have hKp:KeepsFrom wL.heap.size W (w1.alloc (.cells #[.string ⟨(lineD x).c.toArray⟩,.int .i64 (lineD x).a,.int .i64 (lineD x).l,.int .i64 (lineD x).s] 37)) :=
        ⟨Nat.le_trans hb1.size (by simp),fun k o _ hk _=>(alloc_old (Nat.lt_of_lt_of_le (Array.getElem?_eq_some_iff.1 hk).1 hb1.size) ((hb1.block k (Array.getElem?_eq_some_iff.1 hk).1).trans hk))⟩
      have hr5:=hr2.kept (gs_any _ (w.heap.size+4) 0 (.int .i64 ((ds.length:Int)+1+1))) (.inr fun e=>not_row hat4 (by decide) hr2 e.symm)
      refine ⟨(hKp.trans (hk2.from _)).trans ((KeepsOthers.setCell _ _ _).from _),hub5.trans hub.symm,⟨ds++[lineD x],by simp [hds,hlO],?_,_,set_old (by omega) hv2,?_,not_row hub5 (by decide) hr5⟩,set_old (by omega) (hoth hP2.a2 (by decide) (by omega)),set_old (by omega) (hoth hP2.a3 (by decide) (by omega)),set_old (by omega) (hoth hP2.a4 (by decide) (by omega)),?_⟩
      · have := set_at (j := 0) (u := .int .i64 ((ds.length : Int) + 1 + 1)) hat4
        simpa using this
      · have h1 : (ds ++ [lineD x]).length = ds.length + 1 := by simp
        have h2:(ds++[lineD x]).flatMap dcs=ds.flatMap dcs++dcs (lineD x):=by simp
        rw [h1,h2]
        exact hr5
      · exact (hP2.below.trans hb2).grown (gs_any _ _ _ _) (hP2.below.trans hb2).size (fun k e=>by cases e; omega)
  case done =>
    intro D W hD hP hK
    obtain ⟨ds,hds,hat,v,hv,hrow,hvB⟩:=hP.out
    have c5:=hv.cell
    have hGW:=G_below hG hP.below
    have hpar:parR s=finR ds:=by
      unfold parR
      rw [par_all hx ds 1 [] hds]
      rfl
    cases hvb:validB 16777216 ds with
    | false =>
      gi_wp2_with (refine ⟨trivial,?_⟩; gi_at_call 10; refine (callsIn_wide.2 (valid_calls ds v _ w.heap.size hrow hGW)).mono ?_; rintro e w1 ⟨rfl,hb1⟩; rw [hvb]
                   have hP1:=hP.step hb1
                   have c20:=cell_in (j:=0) hP1.a2 rfl
                   have c30:=cell_in (j:=0) hP1.a3 rfl
                   have c31:=cell_in (j:=1) hP1.a3 rfl
                   have c4:=cell_in (j:=0) hP1.a4 rfl
                   have f2:=froz_in (j:=0) hP1.a2
                   have f30:=froz_in (j:=0) hP1.a3
                   have f31:=froz_in (j:=1) hP1.a3
                   have f4:=froz_in (j:=0) hP1.a4)
      have hD6:w.heap.size+6≤D:=by omega
      have hDl:=(Array.getElem?_eq_some_iff.1 hK).1
      have hE:parE s=1∧parN s=0∧parL s=[]:=by
        unfold parE parN parL
        rw [hpar]
        unfold finR
        rw [hvb]
        exact ⟨rfl,rfl,rfl⟩
      have hPP:parP s=⟨0,0⟩:=by unfold parP; rw [hE.2.1]; rfl
      have b1:=hP1.below.grown (gs_any w1 w.heap.size 0 (.slice none 0 0)) hP1.below.size (fun k e=>by cases e; exact Nat.le_refl _)
      have b2:=b1.grown (gs_any _ (w.heap.size+1) 0 (.int .i64 0)) b1.size (fun k e=>by cases e; omega)
      have b3:=b2.grown (gs_any _ (w.heap.size+1) 1 (.int .i64 0)) b2.size (fun k e=>by cases e; omega)
      have b4:=b3.grown (gs_any _ (w.heap.size+2) 0 (.int .i64 1)) b3.size (fun k e=>by cases e; omega)
      refine parse_out hD6 (set_old (by omega) (set_old (by omega) (set_old (by omega) (set_old (by omega) ((hb1.block D hDl).trans hK))))) rfl rfl rfl (set_old (by omega) (set_old (by omega) (set_old (by omega) (set_at hP1.a2)))) (set_old (by omega) (set_at (set_at (set_old (by omega) hP1.a3)))) (set_at (set_old (by omega) (set_old (by omega) (set_old (by omega) hP1.a4)))) (by rw [hPP]) (by rw [hPP]) hE.1.symm (by rw [hE.2.2]; exact World.ownsRow_nil _ _ _ _) b4
    | true =>
      have hE:parE s=0∧parN s=0∧parL s=ds:=by
        unfold parE parN parL
        rw [hpar]
        unfold finR
        rw [hvb]
        exact ⟨rfl,rfl,rfl⟩
      have hPP:parP s=⟨0,0⟩:=by unfold parP; rw [hE.2.1]; rfl
      obtain ⟨ao,nn,cc,rfl⟩:∃ ao n c,v = .slice ao n c:=by
        rcases hrow.2 with ⟨rfl,_⟩ | ⟨g,cap,cur,rfl,_⟩
        · exact ⟨_,_,_,rfl⟩
        · exact ⟨_,_,_,rfl⟩
      gi_wp2_with (refine ⟨trivial,?_⟩; gi_at_call 10; refine (callsIn_wide.2 (valid_calls ds _ _ w.heap.size hrow hGW)).mono ?_; rintro e w1 ⟨rfl,hb1⟩; rw [hvb]
                   have hP1:=hP.step hb1
                   have c51:w1.cell? ⟨w.heap.size+3,0,none⟩=some (.slice ao nn cc):=Boxed.cell (t:=22) ((hb1.block _ hv.lt).trans hv)
                   have c20:=cell_in (j:=0) hP1.a2 rfl
                   have c30:=cell_in (j:=0) hP1.a3 rfl
                   have c31:=cell_in (j:=1) hP1.a3 rfl
                   have c4:=cell_in (j:=0) hP1.a4 rfl
                   have f2:=froz_in (j:=0) hP1.a2
                   have f30:=froz_in (j:=0) hP1.a3
                   have f31:=froz_in (j:=1) hP1.a3
                   have f4:=froz_in (j:=0) hP1.a4)
      have hD6:w.heap.size+6≤D:=by omega
      have hDl:=(Array.getElem?_eq_some_iff.1 hK).1
      have b1:=hP1.below.grown (gs_any w1 w.heap.size 0 (.slice ao nn cc)) hP1.below.size (fun k e=>by cases e; exact Nat.le_refl _)
      have b2:=b1.grown (gs_any _ (w.heap.size+1) 0 (.int .i64 0)) b1.size (fun k e=>by cases e; omega)
      have b3:=b2.grown (gs_any _ (w.heap.size+1) 1 (.int .i64 0)) b2.size (fun k e=>by cases e; omega)
      have b4:=b3.grown (gs_any _ (w.heap.size+2) 0 (.int .i64 0)) b3.size (fun k e=>by cases e; omega)
      have r0:w1.ownsRow w.heap.size 37 4 (.slice ao nn cc) ds.length (ds.flatMap dcs):=hrow.kept (row:=none) ⟨hb1.os,hb1.tape,hb1.output,hb1.size,fun k hk _=>hb1.block k hk⟩ (by cases hb:(Value.slice ao nn cc).ownBlock<;>simp)
      have r1:=r0.kept (gs_any w1 w.heap.size 0 (.slice ao nn cc)) (.inr fun e=>not_row hP1.a2 (by decide) r0 e.symm)
      have r2:=r1.kept (gs_any _ (w.heap.size+1) 0 (.int .i64 0)) (.inr fun e=>not_row hP1.a3 (by decide) r0 e.symm)
      have r3:=r2.kept (gs_any _ (w.heap.size+1) 1 (.int .i64 0)) (.inr fun e=>not_row hP1.a3 (by decide) r0 e.symm)
      have r4:=r3.kept (gs_any _ (w.heap.size+2) 0 (.int .i64 0)) (.inr fun e=>not_row hP1.a4 (by decide) r0 e.symm)
      exact parse_out hD6 (set_old (by omega) (set_old (by omega) (set_old (by omega) (set_old (by omega) ((hb1.block D hDl).trans hK))))) rfl rfl rfl (set_old (by omega) (set_old (by omega) (set_old (by omega) (set_at hP1.a2)))) (set_old (by omega) (set_at (set_at (set_old (by omega) hP1.a3)))) (set_at (set_old (by omega) (set_old (by omega) (set_old (by omega) hP1.a4)))) (by rw [hPP]) (by rw [hPP]) hE.1.symm (by rw [hE.2.2]; exact r4) b4
  case stop =>
    intro D c pre W hD hpre hP hK
    obtain rfl:=hP.ret
    obtain ⟨p,x,ds,rfl,hds,hx0,hat⟩:=hP.bad
    obtain ⟨rest,hrest⟩:=hpre
    have hpar:parR s=([],1+(ds.length:Int),7):=by
      unfold parR
      exact par_bad hx p x rest ds 1 [] (by rw [← hrest]; simp) hds hx0
    have hE:parE s=7∧parN s=1+(ds.length:Int)∧parL s=[]:=by
      unfold parE parN parL
      rw [hpar]
      exact ⟨rfl,rfl,rfl⟩
    have hPP:parP s=⟨1+(ds.length:Int),1⟩:=by unfold parP; rw [hE.2.1,iltT (by omega)]; rfl
    gi_wp2
    exact parse_out (by omega) hK rfl rfl rfl hP.a2 hat hP.a4 (by rw [hPP]; exact Int.add_comm _ _) (by rw [hPP]) hE.1.symm (by rw [hE.2.2]; exact World.ownsRow_nil _ _ _ _) hP.below
namespace parse
noncomputable def sp:Sp U El:=fun args k=>match args with
  | [.str s]=>chk (nle (List.length s) 90000) (k (.tup [(.ful 0),(.agg [(.int .i64 (parP s).pl),(.int .i64 (parP s).pc)]),(.int .i64 (parE s))]) [(0,.rows .df (parL s))])
  | _=>none
theorem spec (s : List UInt8) (hs : s.length ≤ 90000) : CallSpec Tryz.prog E 8 [.str s] (.tup [(.ful 0), (.agg [(.int .i64 (parP s).pl), (.int .i64 (parP s).pc)]), (.int .i64 (parE s))]) [(0, .rows .df (parL s))] := by
  refine ⟨Tryz.call8,(fun id b h => ?_),fun S w vs hlt hG hr => ?_⟩
  · simp only [hget] at h
    by_cases e:0=id
    · omega
    · rw [nbeq_ne e] at h; cases h
  obtain ⟨v1,rfl,r1⟩:=one_valI hr
  cases r1
  refine (callsIn_wide.1 (parse_in s hs w hG)).mono ?_
  rintro e w' ⟨v,rfl,hown,hb⟩
  have hst:∀ ρ',Step S (fun _=>none) w S ρ' w':=fun ρ'=>⟨⟨hb.os,hb.tape,hb.output,hb.size,fun d_=>False.elim d_,fun k hk _=>hb.block k hk⟩,fun _ h=>h,fun _ h => .inl h,fun _ _ h=>(by cases h),hlt⟩
  have hfin:∀ ρ',Rel E S ρ' w' (.ful 0) v→Rel E S ρ' w' (.tup [(.ful 0),(.agg [(.int .i64 (parP s).pl),(.int .i64 (parP s).pc)]),(.int .i64 (parE s))]) (.tuple #[v,.agg #[.int .i64 (parP s).pl,.int .i64 (parP s).pc],.int .i64 (parE s)]):=fun ρ' h =>
    .tup _ _ rfl fun i c u hc hu=>by
      match i,hc,hu with
      | 0,hc,hu=>cases hc; cases hu; exact h
      | 1, hc, hu =>
        cases hc; cases hu
        exact .agg _ _ rfl fun i c u hc hu=>by
          match i,hc,hu with
          | 0,hc,hu=>cases hc; cases hu; exact .int _ _
          | 1,hc,hu=>cases hc; cases hu; exact .int _ _
      | 2,hc,hu=>cases hc; cases hu; exact .int _ _
  rcases hown.2 with ⟨rfl,h0⟩ | ⟨g,cap,cur,rfl,hbg,hgb,hnc,hcm,hcs,htake⟩
  · refine ⟨_, S, fun j => if j = 0 then some ⟨0, 0, 4, 0⟩ else none, rfl, hst _, ⟨fun id b h => ?_, fun i j b b' l1 l2 hi hj hne => ?_, fun b hb' => Nat.lt_of_lt_of_le (hlt b hb') hb.size⟩, hfin _ (.fulN 0 _ rfl rfl rfl)⟩
    · simp only [hget] at h
      by_cases e:0=id
      · subst e; rw [Nat.beq_refl] at h; cases h
        refine ⟨⟨0,0,4,0⟩,rfl,rfl,h0.symm,?_,fun hn=>absurd rfl hn⟩
        show (parL s).length * 4≤0
        omega
      · rw [nbeq_ne e] at h; cases h
    · simp only [hget] at hi hj
      by_cases e1:0=i
      · by_cases e2 : 0 = j
        · exact absurd (e1.symm.trans e2) hne
        · rw [nbeq_ne e2] at hj; cases hj
      · rw [nbeq_ne e1] at hi; cases hi
  · refine ⟨_, S, fun j => if j = 0 then some ⟨g, cap * 4, 4, (parL s).length⟩ else none, rfl, hst _, ⟨fun id b h => ?_, fun i j b b' l1 l2 hi hj hne => ?_, fun b hb' => Nat.lt_of_lt_of_le (hlt b hb') hb.size⟩, hfin _ (.ful 0 cap ⟨g, cap * 4, 4, (parL s).length⟩ rfl (Nat.le_refl _) hnc)⟩
    · simp only [hget] at h
      by_cases e:0=id
      · subst e; rw [Nat.beq_refl] at h; cases h
        refine ⟨_,rfl,rfl,rfl,Nat.mul_le_mul_right 4 hnc,fun hn=>⟨hbg,fun hSg=>by have:=hlt g hSg; omega,cur,hgb,hcs,fun i x j a hi hj => ?_⟩⟩
        have hil:i < (parL s).length:=(List.getElem?_eq_some_iff.1 hi).1
        have hj4:j < 4:=by have:=(List.getElem?_eq_some_iff.1 hj).1; simpa [E] using this
        obtain ⟨u,hu,hrel⟩:=dcs_enc hj
        have hc1:cur.toList[i * 4+j]? = (dcs x)[j]? := by
          rw [← flat_dcs (parL s) i x j hi hj4,← htake,List.getElem?_take_of_lt (by omega)]
        rw [hu] at hc1
        have hc2:cur[i * 4+j]? = some u:=by simpa using hc1
        exact ⟨u,hc2,hrel _ _ _⟩
      · rw [nbeq_ne e] at h; cases h
    · simp only [hget] at hi hj
      by_cases e1:0=i
      · by_cases e2 : 0 = j
        · exact absurd (e1.symm.trans e2) hne
        · rw [nbeq_ne e2] at hj; cases hj
      · rw [nbeq_ne e1] at hi; cases hi
theorem spOk:SpOk Tryz.prog E 8 sp where
  det:=fun vs=>by
    unfold sp
    split
    · exact det_c _ _ _
    · exact ⟨none,fun _=>rfl⟩
  ok:=fun vs k r h=>by
    unfold sp at h
    split at h
    · rename_i s
      obtain ⟨h1,h2⟩:=chk_some h
      exact ⟨_,_,spec s (nleI h1),h2⟩
    · cases h
end parse
end Go.Proofs.YtnhmhcobpbilhaaGreatDoor
