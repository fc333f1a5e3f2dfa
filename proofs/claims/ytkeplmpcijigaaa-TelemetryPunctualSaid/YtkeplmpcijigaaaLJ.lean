/- Append; an operation in the order of the text. -/
import Derived.Test.YtkeplmpcijigaaaLI
namespace Go.Proofs.Ytkeplmpcijigaaa
set_option linter.unusedVariables false
set_option linter.unusedSectionVars false
set_option linter.unusedSimpArgs false
open Go.RowKit
section
variable {U:Type} {El:U→Type} {P:Program} {X:Ctx U El} {S S0:Nat→Prop} {ρ:Rho} {w w0:World} [DecidableEq U] [Drw]
variable {o:Oper} {a:Act} {st:St U El} {B:Bd} {d:Nat} {r:Fin U El}
theorem cell_one {c:AV U El} (h:c.cell=true):c.one=true:=by
  cases c<;>first | rfl | (simp [AV.cell] at h; done)
def Shows (E:Univ U El) (S:Nat→Prop) (ρ:Rho) (w:World) (u:U) (ys:List (El u)) (ad:Addr):Prop :=
  ∀ (i:Nat) y (j:Nat) c,ys[i]? = some y→(E.enc u y)[j]? = some c→∃ v,w.cell? (ad.add (i * E.sz u+j))=some v∧Rel E S ρ w c v
theorem rowsOf_rel {h : Heap U El} {u : U} {x : AV U El} {v : Value} {ys : List (El u)} (hX : CtxOk P X) (hH : HRel X.E S ρ w B h) (hr : Rel X.E S ρ w x v) (hy : rowsOf h u x = some ys) :
    ∃ ao cap,v = .slice ao ys.length cap∧(ys≠[]→∃ ad,ao=some ad∧Shows X.E S ρ w u ys ad):=by
  unfold rowsOf at hy
  split at hy
  · cases hy; cases hr; exact ⟨none,0,rfl,fun h=>absurd rfl h⟩
  · rename_i u' xs
    split at hy
    · rename_i e
      subst e
      cases hy
      cases hr with
      | lstE=>exact ⟨_,_,rfl,fun h=>absurd rfl h⟩
      | lst _ _ b off cap val hS hc hcell hrel =>
        refine ⟨_,cap,rfl,fun _=>⟨_,rfl,fun i y j c hi hj=>⟨_,?_,hrel i y j c hi hj⟩⟩⟩
        rw [addr_add,← Nat.add_assoc]
        exact hcell i y j c hi hj
    · cases hy
  · rename_i id
    split at hy
    · rename_i u' xs hg
      split at hy
      · rename_i e
        subst e
        cases hy
        obtain ⟨l,hl,h1,h2,h3,h4⟩:=hH.get _ _ hg
        cases hr with
        | ful _ cap l' hl' e1 e2 =>
          rw [hl] at hl'; cases hl'
          refine ⟨_,cap,by rw [← h2],fun hne=>⟨_,rfl,fun i y j c hi hj => ?_⟩⟩
          have hp:=hX.u.pos u'
          have hn:l.n≠0:=by
            have:0 < xs.length:=List.length_pos_iff.2 hne
            have:=Nat.mul_pos this hp
            omega
          obtain ⟨_,_,cc,hh,h5,h6⟩:=h4 hn
          obtain ⟨vv,hv,hrv⟩:=h6 i y j c hi hj
          exact ⟨vv,by rw [addr_add,Nat.zero_add,cell_of_row w l.b _ cc _ (0,0) hh]; exact hv,hrv⟩
        | fulN _ l' hl' e1 e2 =>
          rw [hl] at hl'; cases hl'
          have:xs=[]:=List.eq_nil_of_length_eq_zero (by omega)
          subst this
          exact ⟨none,0,rfl,fun h=>absurd rfl h⟩
      · cases hy
    · cases hy
  · rename_i id lo len
    split at hy
    · rename_i u' xs hg
      split at hy
      · rename_i e
        subst e
        cases hy
        obtain ⟨l,hl,h1,h2,h3,h4⟩:=hH.get _ _ hg
        cases hr with
        | ownE _ _ ao cap=>exact ⟨ao,cap,by simp,fun h=>absurd (by simp) h⟩
        | own _ _ _ cap l' hl' e1 e2 e3 =>
          rw [hl] at hl'; cases hl'
          have hlen:((xs.drop lo).take len).length=len:=by simp; omega
          refine ⟨some ⟨l.b,lo * l.s,none⟩,cap,by simp only [hlen],fun hne=>⟨_,rfl,fun i y j c hi hj => ?_⟩⟩
          have hi':xs[lo+i]? = some y:=by
            simp only at hi
            rw [List.getElem?_take] at hi
            split at hi
            · rw [List.getElem?_drop] at hi; exact hi
            · cases hi
          have hp:=hX.u.pos u'
          have hn:l.n≠0:=by
            have:0 < xs.length:=by have:=(List.getElem?_eq_some_iff.1 hi').1; omega
            have:=Nat.mul_pos this hp
            omega
          obtain ⟨_,_,cc,hh,h5,h6⟩:=h4 hn
          obtain ⟨vv,hv,hrv⟩:=h6 _ y j c hi' hj
          exact ⟨vv,by rw [addr_add,h1,← Nat.add_assoc,← Nat.add_mul,cell_of_row w l.b _ cc _ (0,0) hh]; exact hv,hrv⟩
      · cases hy
    · cases hy
  · cases hy
theorem shows_news {u:U} {ys:List (El u)} {ad:Addr} (hX:CtxOk P X) (hs:Shows X.E S ρ w u ys ad) :
    ∃ news : List Value, news.length = ys.length * X.E.sz u ∧ (∀ (j : Nat) x, news[j]? = some x → w.cell? (ad.add j) = some x) ∧ (∀ x ∈ news, x.oneCell' = true) ∧
      ∀ (i:Nat) y (j:Nat) c,ys[i]? = some y→(X.E.enc u y)[j]? = some c→∃ v,news[i * X.E.sz u+j]? = some v∧Rel X.E S ρ w c v:=by
  have hp:=hX.u.pos u
  have key:∀ n,n < ys.length * X.E.sz u→∃ c v,w.cell? (ad.add n)=some v∧Rel X.E S ρ w c v∧c.cell=true:=fun n hn=>by
    have hi:n / X.E.sz u < ys.length:=(Nat.div_lt_iff_lt_mul hp).2 hn
    have hj:n%X.E.sz u < (X.E.enc u ys[n / X.E.sz u]).length:=by rw [hX.u.len]; exact Nat.mod_lt _ hp
    obtain ⟨v,hv,hr⟩:=hs _ _ _ _ (List.getElem?_eq_getElem hi) (List.getElem?_eq_getElem hj)
    rw [Nat.mul_comm,Nat.div_add_mod] at hv
    exact ⟨_,v,hv,hr,hX.u.cell u _ _ (List.getElem_mem hj)⟩
  refine ⟨(List.range (ys.length * X.E.sz u)).map fun n=>(w.cell? (ad.add n)).getD undef,by simp,fun j x hj => ?_,fun x hx => ?_,fun i y j c hi hj => ?_⟩
  · have hjl : j < ys.length * X.E.sz u := by have := (List.getElem?_eq_some_iff.1 hj).1; simpa using this
    obtain ⟨c,v,hv,_⟩:=key j hjl
    simp [hjl,hv] at hj
    rw [hv,hj]
  · obtain ⟨n, hn, rfl⟩ := List.mem_map.1 hx
    obtain ⟨c,v,hv,hr,hc⟩:=key n (by simpa using hn)
    rw [hv]
    exact one_cell hr (cell_one hc)
  · obtain ⟨v, hv, hr⟩ := hs i y j c hi hj
    have hil:i < ys.length:=(List.getElem?_eq_some_iff.1 hi).1
    have hjl:j < X.E.sz u:=by rw [← hX.u.len u y]; exact (List.getElem?_eq_some_iff.1 hj).1
    have hlt:i * X.E.sz u+j < ys.length * X.E.sz u:=by
      have:(i+1) * X.E.sz u≤ys.length * X.E.sz u:=Nat.mul_le_mul_right _ hil
      rw [Nat.add_mul,Nat.one_mul] at this
      omega
    exact ⟨v,by simp [hlt,hv],hr⟩
structure AppRes (X:Ctx U El) (S:Nat→Prop) (ρ:Rho) (B:Bd) (w:World) (u:U) (zs:List (El u)) (old:Option Nat) (v':Value) (w':World) (l':Loc):Prop where
  os:w'.os=w.os
  tape:w'.tape=w.tape
  output:w'.output=w.output
  size:w.heap.size≤w'.heap.size
  drawn:Drw.on→w.drawn≤w'.drawn
  block:∀ k,k < w.heap.size→some k≠old→w'.heap[k]? = w.heap[k]?
  at_:l'.n≠0→some l'.b=old∨w.heap.size≤l'.b
  blk:∀ ρ',BlkRel X.E S ρ' w' B l' (.rows u zs)
  val:(∃ cap,v' = .slice (some ⟨l'.b,0,none⟩) l'.ln cap∧cap * l'.s≤l'.n∧l'.ln≤cap)∨(v' = .slice none 0 0∧l'.n=0∧l'.ln=0)
theorem rows_app {u:U} {xs ys:List (El u)} {vx vy:List Value} {c:Array Value} {w':World} {ρ':Rho} (hX:CtxOk P X) (hS:∀ k,S k→w'.heap[k]? = w.heap[k]?) (hlx:vx.length=xs.length * X.E.sz u)
    (hx:∀ (i:Nat) y (j:Nat) c,xs[i]? = some y→(X.E.enc u y)[j]? = some c→∃ v,vx[i * X.E.sz u+j]? = some v∧Rel X.E S ρ w c v)
    (hy:∀ (i:Nat) y (j:Nat) c,ys[i]? = some y→(X.E.enc u y)[j]? = some c→∃ v,vy[i * X.E.sz u+j]? = some v∧Rel X.E S ρ w c v)
    (hc:∀ (j:Nat) v,(vx++vy)[j]? = some v→c[j]? = some v) :
    ∀ (i:Nat) y (j:Nat) e,(xs++ys)[i]? = some y→(X.E.enc u y)[j]? = some e→∃ v,c[i * X.E.sz u+j]? = some v∧Rel X.E S ρ' w' e v:=by
  intro i y j e hi hj
  have fin:∀ v,Rel X.E S ρ w e v→Rel X.E S ρ' w' e v:=fun v h=>(h.mono (ρ':=ρ) (fun _ h=>h) hS (fun _ _ h=>h)).cellρ hX.u (hX.u.cell u y e (List.mem_of_getElem? hj))
  have hjl:j < X.E.sz u:=by rw [← hX.u.len u y]; exact (List.getElem?_eq_some_iff.1 hj).1
  by_cases h:i < xs.length
  · rw [List.getElem?_append_left h] at hi
    obtain ⟨v,hv,hr⟩:=hx i y j e hi hj
    exact ⟨v,hc _ v (by rw [List.getElem?_append_left ((List.getElem?_eq_some_iff.1 hv).1)]; exact hv),fin v hr⟩
  · rw [List.getElem?_append_right (by omega)] at hi
    obtain ⟨v,hv,hr⟩:=hy _ y j e hi hj
    have e1:i * X.E.sz u=xs.length * X.E.sz u+(i - xs.length) * X.E.sz u:=by rw [← Nat.add_mul]; congr 1; omega
    refine ⟨v,hc _ v ?_,fin v hr⟩
    rw [List.getElem?_append_right (by omega),← hv]
    congr 1
    omega
theorem append_run {ty : TypeId} {u : U} {xs ys : List (El u)} {sv xv : Value} {ot : TypeId} {old : Option Nat} {ao : Option Addr} {cp : Nat} (hX : CtxOk P X) (hB : ∀ k, w.heap.size ≤ k → B.own k) (hlt : ∀ b, S b → b < w.heap.size) (hu : P.underlying ty = some (.slice (X.E.tid u)))
    (hs:(sv = .slice none 0 0∧xs=[]∧old=none)∨∃ l cap,sv = .slice (some ⟨l.b,0,none⟩) xs.length cap∧old=(if l.n=0 then none else some l.b)∧cap * X.E.sz u≤l.n∧xs.length≤cap∧BlkRel X.E S ρ w B l (.rows u xs))
    (hxv:xv = .slice ao ys.length cp) (hsh:ys≠[]→∃ ad,ao=some ad∧Shows X.E S ρ w u ys ad)
    (hb:(xs.length+ys.length) * X.E.by_ u≤140737488355328) (hm:xs.length+ys.length≤9223372036854775807) :
    ∃ v' w' l',(Builtin.append_ #[ty,ty] ot #[sv,xv]).run P w = .ok v' w'∧AppRes X S ρ B w u (xs++ys) old v' w' l':=by
  obtain ⟨ie,z,hi,hsz,hby,hz,hzs,_⟩:=hX.u.info u
  have hp:=hX.u.pos u
  subst hxv
  by_cases hy0:ys=[]
  · subst hy0
    rw [List.append_nil]
    rcases hs with ⟨rfl,rfl,rfl⟩ | ⟨l,cap,rfl,rfl,hcap,hle,hblk⟩
    · refine ⟨.slice none 0 0, w, ⟨0, 0, X.E.sz u, 0⟩, ?_, rfl, rfl, rfl, Nat.le_refl _, fun _ => Nat.le_refl _, fun _ _ _ => rfl, fun h => absurd rfl h, fun ρ' => ⟨rfl, rfl, by simp, fun h => absurd rfl h⟩, .inr ⟨rfl, rfl, rfl⟩⟩
      cases ao<;>simp [Builtin.append_,run_underlying hu,sizeOf,typeInfo,hi,Builtin.lenOf,Builtin.firstCells,loadCells,loadCellsFrom]
    · refine ⟨.slice (some ⟨l.b, 0, none⟩) xs.length cap, w, l, ?_, rfl, rfl, rfl, Nat.le_refl _, fun _ => Nat.le_refl _, fun _ _ _ => rfl, fun hn => .inl (by rw [if_neg hn]), fun ρ' => ?_, .inl ⟨cap, by rw [hblk.2.1], by rw [hblk.1]; exact hcap, by rw [hblk.2.1]; exact hle⟩⟩
      · cases ao<;>simp [Builtin.append_,run_underlying hu,sizeOf,typeInfo,hi,Builtin.lenOf,Builtin.firstCells,loadCells,loadCellsFrom,hle,storeCells]
      · obtain ⟨h1, h2, h3, h4⟩ := hblk
        refine ⟨h1,h2,h3,fun hn => ?_⟩
        obtain ⟨h5,h6,c,hh,h7,h8⟩:=h4 hn
        exact ⟨h5,h6,c,hh,h7,fun i x j a hi hj=>by obtain ⟨v,hv,hr⟩:=h8 i x j a hi hj; exact ⟨v,hv,hr.cellρ hX.u (hX.u.cell u x a (List.mem_of_getElem? hj))⟩⟩
  · obtain ⟨ad, rfl, hshow⟩ := hsh hy0
    obtain ⟨news,hnl,hnc,hn1,hnr⟩:=shows_news hX hshow
    have hyl:0 < ys.length:=List.length_pos_iff.2 hy0
    have hns:¬ S w.heap.size:=fun h=>by have:=hlt _ h; omega
    have grown:∀ (vx:List Value) (old:Option Nat) (sc:Nat),vx.length=xs.length * X.E.sz u→(∀ (i:Nat) y (j:Nat) c,xs[i]? = some y→(X.E.enc u y)[j]? = some c→∃ v,vx[i * X.E.sz u+j]? = some v∧Rel X.E S ρ w c v) →
        AppRes X S ρ B w u (xs++ys) old (.slice (some ⟨w.heap.size,0,none⟩) (xs.length+ys.length) (grownCap w (xs.length+ys.length) sc (X.E.tid u)))
          (w.drew.alloc (.cells (vx.toArray++news.toArray++Builtin.zeroCells z.cells (grownCap w (xs.length+ys.length) sc (X.E.tid u) - (xs.length+ys.length))) (X.E.tid u)))
          ⟨w.heap.size,grownCap w (xs.length+ys.length) sc (X.E.tid u) * X.E.sz u,X.E.sz u,xs.length+ys.length⟩:=by
      intro vx old sc hvl hvr
      have hge:=grownCap_ge w (xs.length+ys.length) sc (X.E.tid u)
      refine ⟨rfl,rfl,rfl,by simp,fun _=>Nat.le_succ _,fun k hk _=>heap_alloc_old w.drew _ k hk,fun _ => .inr (Nat.le_refl _),fun ρ'=>⟨rfl,by simp,by simp only [List.length_append]; exact Nat.mul_le_mul_right _ hge,fun _=>⟨hB _ (Nat.le_refl _),hns,_,heap_alloc_new w.drew _,?_,?_⟩⟩,.inl ⟨_,rfl,Nat.le_refl _,hge⟩⟩
      · simp only [Array.size_append, List.size_toArray, size_zeroCells, hzs, hvl, hnl, ← Nat.add_mul]
        congr 1
        omega
      · refine rows_app (ρ := ρ) (w := w) hX (fun k hk => heap_alloc_old w.drew _ k (hlt k hk)) hvl hvr hnr (fun j v hj => ?_)
        rw [← Array.getElem?_toList]
        simp only [Array.toList_append]
        rw [List.getElem?_append_left (List.getElem?_eq_some_iff.1 hj).1]
        exact hj
    rcases hs with ⟨rfl,rfl,rfl⟩ | ⟨l,cap,rfl,rfl,hcap,hle,hblk⟩
    · have hr := run_append_nil (P := P) w ty ot (X.E.tid u) ie z hu hi hz ad ys.length cp news (by rw [hsz]; exact hnl) hnc hyl (by simp at hm; omega) (by rw [hby]; simp at hb; omega)
      have hg:=grown [] none 0 (by simp) (by simp)
      simp only [List.length_nil,Nat.zero_add,Array.empty_append] at hg
      exact ⟨_,_,_,hr,hg⟩
    · by_cases hroom : xs.length + ys.length ≤ cap
      · have hn : l.n ≠ 0 := by have := Nat.mul_pos (show 0 < cap by omega) hp; omega
        have hblk':=hblk
        obtain ⟨h1,h2,h3,h4⟩:=hblk
        obtain ⟨h5,h6,cur,hh,h7,h8⟩:=h4 hn
        have hfit:xs.length * X.E.sz u+news.length≤cur.size:=by
          rw [hnl,← Nat.add_mul,h7]
          exact Nat.le_trans (Nat.mul_le_mul_right _ hroom) hcap
        have hr:=run_append_room (P:=P) w ty ot (X.E.tid u) ie hu hi l.b xs.length cap cur hh ad ys.length cp news (by rw [hsz]; exact hnl) hnc hn1 hroom (by rw [hsz]; exact hfit)
        rw [hsz] at hr
        refine ⟨_,_,⟨l.b,l.n,X.E.sz u,xs.length+ys.length⟩,hr,rfl,rfl,rfl,by simp,fun _=>Nat.le_refl _,fun k hk hne=>setRow_other w l.b k _ (fun e=>hne (by rw [e,if_neg hn])),fun _ => .inl (by rw [if_neg hn]),fun ρ'=>⟨rfl,by simp,?_,fun _=>⟨h5,h6,_,setRow_heap w l.b cur _ _ _ hh,?_,?_⟩⟩,.inl ⟨cap,rfl,hcap,hroom⟩⟩
        · simp only [List.length_append]
          exact Nat.le_trans (Nat.mul_le_mul_right _ hroom) hcap
        · simp; omega
        · have hlx : (cur.toList.take (xs.length * X.E.sz u)).length = xs.length * X.E.sz u := by simp; omega
          refine rows_app (ρ:=ρ) (w:=w) hX (fun k hk=>setRow_other w l.b k _ (by rintro rfl; exact h6 hk)) hlx (fun i y j c hi hj => ?_) hnr (fun j v hj => ?_)
          · obtain ⟨v, hv, hr⟩ := h8 i y j c hi hj
            have hil:i < xs.length:=(List.getElem?_eq_some_iff.1 hi).1
            have hjl:j < X.E.sz u:=by rw [← hX.u.len u y]; exact (List.getElem?_eq_some_iff.1 hj).1
            have hlt':i * X.E.sz u+j < xs.length * X.E.sz u:=by
              have:(i+1) * X.E.sz u≤xs.length * X.E.sz u:=Nat.mul_le_mul_right _ hil
              rw [Nat.add_mul,Nat.one_mul] at this
              omega
            exact ⟨v,by rw [List.getElem?_take_of_lt hlt']; simpa using hv,hr⟩
          · rw [List.getElem?_toArray, List.getElem?_append_left (List.getElem?_eq_some_iff.1 hj).1]
            exact hj
      · have holds : ∃ vx : List Value, vx.length = xs.length * X.E.sz u ∧ (∀ j v, vx[j]? = some v → w.cell? ((⟨l.b, 0, none⟩ : Addr).add j) = some v) ∧ (∀ (i : Nat) y (j : Nat) c, xs[i]? = some y → (X.E.enc u y)[j]? = some c → ∃ v, vx[i * X.E.sz u + j]? = some v ∧ Rel X.E S ρ w c v) := by
          have hsh2:Shows X.E S ρ w u xs ⟨l.b,0,none⟩:=fun i y j c hi hj=>by
            have hn:l.n≠0:=by
              have:0 < xs.length:=by have:=(List.getElem?_eq_some_iff.1 hi).1; omega
              have:=Nat.mul_pos this hp
              have:=hblk.2.2.1
              omega
            obtain ⟨h1,h2,h3,h4⟩:=hblk
            obtain ⟨h5,h6,cur,hh,h7,h8⟩:=h4 hn
            obtain ⟨v,hv,hr⟩:=h8 i y j c hi hj
            exact ⟨v,by rw [addr_add,Nat.zero_add,cell_of_row w l.b _ cur _ (0,0) hh]; exact hv,hr⟩
          obtain ⟨vx,g1,g2,_,g4⟩:=shows_news hX hsh2
          exact ⟨vx,g1,g2,g4⟩
        obtain ⟨vx,g1,g2,g4⟩:=holds
        have hr:=run_append_grow (P:=P) w ty ot (X.E.tid u) ie z hu hi hz ⟨l.b,0,none⟩ xs.length cap vx (by rw [hsz]; exact g1) g2 ad ys.length cp news (by rw [hsz]; exact hnl) hnc (by omega) (by omega) (growslice_fits (by omega) (by rw [hby]; exact hb))
        exact ⟨_,_,_,hr,grown vx _ cap g1 g4⟩
theorem rowsTo_rel {h : Heap U El} {u : U} {sv : AV U El} {v : Value} {xs : List (El u)} {id : Option Nat} (hX : CtxOk P X) (hH : HRel X.E S ρ w B h) (hsr : Rel X.E S ρ w sv v) (hfr : frontB sv = true) (hxs : rowsTo h u sv = some (xs, id)) :
    ∃ old, ((v = .slice none 0 0 ∧ xs = [] ∧ old = none) ∨ ∃ l cap, v = .slice (some ⟨l.b, 0, none⟩) xs.length cap ∧ old = (if l.n = 0 then none else some l.b) ∧ cap * X.E.sz u ≤ l.n ∧ xs.length ≤ cap ∧ BlkRel X.E S ρ w B l (.rows u xs)) ∧
      (∀ b,old=some b→∃ j l b0,id=some j∧hget h j=some b0∧ρ j=some l∧l.n≠0∧l.b=b∧BlkRel X.E S ρ w B l b0):=by
  unfold rowsTo at hxs
  split at hxs
  · cases hxs
    cases hsr
    exact ⟨none,.inl ⟨rfl,rfl,rfl⟩,by simp⟩
  · rename_i j
    split at hxs
    · rename_i u' xs' hg
      split at hxs
      · rename_i eu
        subst eu
        cases hxs
        obtain ⟨l,hl,hbl⟩:=hH.get _ _ hg
        cases hsr with
        | ful _ cap l' hl' e1 e2 =>
          rw [hl] at hl'; cases hl'
          refine ⟨_,.inr ⟨l,cap,by rw [hbl.2.1],rfl,by rw [← hbl.1]; exact e1,by rw [← hbl.2.1]; exact e2,hbl⟩,fun b hb => ?_⟩
          by_cases hn:l.n=0
          · rw [if_pos hn] at hb; cases hb
          · rw [if_neg hn] at hb; cases hb; exact ⟨j,l,_,rfl,hg,hl,hn,rfl,hbl⟩
        | fulN _ l' hl' e1 e2 =>
          rw [hl] at hl'; cases hl'
          exact ⟨none,.inl ⟨rfl,List.eq_nil_of_length_eq_zero (show xs'.length=0 by have:=hbl.2.1; omega),rfl⟩,by simp⟩
      · cases hxs
    · cases hxs
  · rename_i j lo len
    split at hxs
    · rename_i u' xs' hg
      split at hxs
      · rename_i eu
        subst eu
        cases hxs
        obtain ⟨l,hl,hbl⟩:=hH.get _ _ hg
        simp only [frontB,Bool.and_eq_true,nlt,decide_eq_true_eq] at hfr
        obtain ⟨h0,h1⟩:=hfr
        obtain rfl:=Nat.eq_of_beq_eq_true h0
        cases hsr with
        | ownE=>omega
        | own _ _ _ cap l' hl' e1 e2 e3 =>
          rw [hl] at hl'; cases hl'
          have hbl0:=hbl
          obtain ⟨b1,b2,b3,b4⟩:=hbl
          have hlen:(List.take len xs').length=len:=by rw [List.length_take]; omega
          have hp:=hX.u.pos u'
          have hn:l.n≠0:=by
            have:=Nat.mul_pos (show 0 < 0+cap by omega) (show 0 < l.s by rw [b1]; exact hp)
            omega
          refine ⟨_,.inr ⟨⟨l.b,l.n,l.s,len⟩,cap,by rw [hlen,Nat.zero_mul],rfl,?_,by rw [hlen]; exact e2,b1,hlen.symm,?_,fun hn' => ?_⟩,fun b hb => ?_⟩
          · rw [← b1]; rw [Nat.zero_add] at e1; exact e1
          · rw [hlen]
            refine Nat.le_trans (Nat.mul_le_mul_right _ e2) ?_
            rw [← b1]; rw [Nat.zero_add] at e1; exact e1
          · obtain ⟨h5, h6, c, hh, h7, h8⟩ := b4 hn
            refine ⟨h5,h6,c,hh,h7,fun i x k a hi' hj=>h8 i x k a ?_ hj⟩
            rw [List.getElem?_take] at hi'
            split at hi'
            · exact hi'
            · cases hi'
          · rw [if_neg hn] at hb; cases hb; exact ⟨j,l,_,rfl,hg,hl,hn,rfl,hbl0⟩
      · cases hxs
    · cases hxs
  · cases hxs
theorem appendOp_sound {ty : TypeId} {s x : Operand} {k : St U El → Option (Fin U El)} (hX : CtxOk P X) (ho : o.op = .call ⟨.builtin .append, #[s, x], #[ty, ty]⟩) (hdst : o.dst = some d) (hd : d < X.nt) (hi : Inv X B S0 w0 S ρ st a w)
    (hv:appendOp X d ty (oget st.t s) (oget st.t x) st k=some r) {next:Act→World→Prop} {Q:Exit→Act→World→Prop}
    (hn:∀ st' a' w',StRel X B S0 w0 st' a' w'→k st'=some r→next a' w'):o.wp P a w next Q:=by
  have hsr:Rel X.E S ρ w (oget st.t s) (a.eval s):=Rel.oget fun i _=>hi.tmps i
  have hxr:Rel X.E S ρ w (oget st.t x) (a.eval x):=Rel.oget fun i _=>hi.tmps i
  unfold appendOp at hv
  split at hv
  · rename_i u htd
    have hu:P.underlying ty=some (.slice (X.E.tid u)):=hX.td _ _ htd
    split at hv
    · rename_i xs id ys hxs hys
      obtain ⟨hck,hk⟩:=chk_some hv
      simp only [Bool.and_eq_true,nle,decide_eq_true_eq] at hck
      obtain ⟨hfr,hb,hm⟩:=hck
      obtain ⟨ao,cp,hxv,hsh⟩:=rowsOf_rel hX hi.heap hxr hys
      have hp:=hX.u.pos u
      have hs:=rowsTo_rel hX hi.heap hsr hfr hxs
      obtain ⟨old,hsv,hold⟩:=hs
      obtain ⟨v',w',l',hrun,hres⟩:=append_run (ot:=o.type) hX hi.hB hi.heap.lt hu hsv hxv hsh hb hm
      have hrun':(execOp a.eval o).run P w = .ok (.value v') w':=by
        simp only [execOp,ho,resolve,invoke,builtin,List.map_toArray,List.map_cons,List.map_nil,Sem.run_bind,Sem.run_pure,Result.andThen_ok,hrun]
      unfold Oper.wp
      rw [hrun']
      show next (a.put o.dst v') w'
      rw [hdst]
      have hf : ∃ ρ1, Inv X B S0 w0 S ρ1 ((match id with | some id => st.forget id | none => st).forget d) a w ∧ ρ1 d = none ∧ (∀ j, id = some j → ρ1 j = none) ∧ (∀ j l, ρ1 j = some l → ρ j = some l) ∧
          ∀ j b,hget ((match id with | some id=>st.forget id | none=>st).forget d).h j=some b→j≠d∧id≠some j∧∃ b0,hget st.h j=some b0:=by
        cases id with
        | none =>
          refine ⟨_,hi.forget hX d,by simp [Rho.del],by simp,fun j l h => ?_,fun j b h => ?_⟩
          · unfold Rho.del at h; split at h; cases h; exact h
          · simp only [St.forget, hget_kill, hget_del, Option.map_eq_some_iff] at h
            obtain ⟨b0,h0,_⟩:=h
            split at h0
            · cases h0
            · rename_i e; exact ⟨e,by simp,b0,h0⟩
        | some i =>
          refine ⟨_,(hi.forget hX i).forget hX d,by simp [Rho.del],fun j hj => ?_,fun j l h => ?_,fun j b h => ?_⟩
          · cases hj; simp [Rho.del]
          · unfold Rho.del at h; split at h; cases h; split at h; cases h; exact h
          · simp only [St.forget, hget_kill, hget_del, Option.map_eq_some_iff] at h
            obtain ⟨b0,h0,_⟩:=h
            split at h0
            · cases h0
            · rename_i e
              simp only [Option.map_eq_some_iff] at h0
              obtain ⟨b1,h1,_⟩:=h0
              split at h1
              · cases h1
              · rename_i e2; exact ⟨e,by simp [Ne.symm e2],b1,h1⟩
      obtain ⟨ρ1,hinv,hρd,hρid,hρsub,hheap⟩:=hf
      generalize ((match id with | some id=>st.forget id | none=>st).forget d)=st1 at hk hinv hheap
      refine hn _ _ _ ⟨S,ρ1.set d l',?_⟩ hk
      have hSame:∀ b,S b→w'.heap[b]? = w.heap[b]? := fun b hb=>hres.block b (hi.heap.lt b hb) (fun e=>by
        obtain ⟨j,l,_,_,_,_,hn0,hlb,hbl⟩:=hold b e.symm
        exact (hbl.lt hn0).2.2 (by rw [hlb]; exact hb))
      have hext:∀ j l,ρ1 j=some l→(ρ1.set d l') j=some l:=fun j l h=>by
        by_cases e:j=d
        · subst e; rw [hρd] at h; cases h
        · simp [Rho.set,e,h]
      have hother:∀ j b l,hget st1.h j=some b→ρ1 j=some l→l.n≠0→some l.b≠old:=fun j b l hg hl hn0 e=>by
        obtain ⟨j',l2,_,hid,hg2,hl2,hn2,hlb,hbl⟩:=hold l.b e.symm
        obtain ⟨_,hne,b0,hb0⟩:=hheap j b hg
        exact hi.heap.inj j j' b0 _ l l2 hb0 hg2 (by rintro rfl; exact hne hid) (hρsub j l hl) hl2 hn0 hn2 hlb.symm
      have hbl:=hres.blk (ρ1.set d l')
      refine ⟨hinv.defers,by simp [Act.put,hinv.size],hinv.below.trans ⟨hres.os,hres.tape,hres.output,hres.size,hres.drawn,fun k hk hbk=>hres.block k hk (fun e=>hbk ?_)⟩,fun k hk=>hi.hB k (Nat.le_trans hres.size hk),hi.s0,hi.s1,hi.g0,?_,⟨fun j b hg => ?_,fun i j b b' l l2 hgi hgj hne hli hlj hn1 hn2 => ?_,fun b hb=>Nat.lt_of_lt_of_le (hi.heap.lt b hb) hres.size⟩⟩
      · obtain ⟨j, l, _, _, _, _, hn0, hlb, hbl⟩ := hold k e.symm
        rw [← hlb]
        exact (hbl.lt hn0).2.1
      · refine tmps_put (d := some d) (av := .ful d) (fun e he => by cases he; rw [hinv.size]; exact hd) (fun i => (hinv.tmps i).mono (fun _ h => h) hSame hext) ?_
        have e1:(ρ1.set d l') d=some l':=by simp [Rho.set]
        rcases hres.val with ⟨cap,rfl,h1,h2⟩ | ⟨rfl,h1,h2⟩
        · exact .ful d cap l' e1 h1 h2
        · exact .fulN d l' e1 h1 h2
      · simp only [hget] at hg
        by_cases e:d=j
        · subst e
          rw [Nat.beq_refl] at hg
          cases hg
          exact ⟨l',by simp [Rho.set],hbl⟩
        · rw [nbeq_ne e] at hg
          obtain ⟨l,hl,hb⟩:=hinv.heap.get j b hg
          exact ⟨l,hext j l hl,hb.mono (fun _ h=>h) hSame hext fun hn0=>⟨hres.block _ (hb.lt hn0).1 (hother j b l hg hl hn0),(hb.lt hn0).2.2⟩⟩
      · have sep : ∀ j b l, hget st1.h j = some b → ρ1 j = some l → l.n ≠ 0 → l'.n ≠ 0 → l.b ≠ l'.b := fun j b l hg hl hn0 hn' e => by
          rcases hres.at_ hn' with h | h
          · exact hother j b l hg hl hn0 (by rw [e]; exact h)
          · obtain ⟨l2, hl2, hb⟩ := hinv.heap.get j b hg
            rw [hl] at hl2; cases hl2
            have:=(hb.lt hn0).1
            omega
        simp only [hget] at hgi hgj
        by_cases ei:d=i
        · subst ei
          have:(ρ1.set d l') d=some l':=by simp [Rho.set]
          rw [this] at hli; cases hli
          rw [nbeq_ne hne] at hgj
          have hlj':ρ1 j=some l2:=by simpa [Rho.set,Ne.symm hne] using hlj
          exact (sep j b' l2 hgj hlj' hn2 hn1).symm
        · rw [nbeq_ne ei] at hgi
          have hli':ρ1 i=some l:=by simpa [Rho.set,Ne.symm ei] using hli
          by_cases ej:d=j
          · subst ej
            have:(ρ1.set d l') d=some l':=by simp [Rho.set]
            rw [this] at hlj; cases hlj
            exact sep i b l hgi hli' hn1 hn2
          · rw [nbeq_ne ej] at hgj
            have hlj':ρ1 j=some l2:=by simpa [Rho.set,Ne.symm ej] using hlj
            exact hinv.heap.inj i j b b' l l2 hgi hgj hne hli' hlj' hn1 hn2
    · cases hv
  · cases hv
theorem run_clear_row {P:Program} (w:World) (t e ty:TypeId) (z:Value) (ht:P.underlying t=some (.slice e)) (hv:∀ w,(zeroValue e).run P w = .ok z w) (b o n c:Nat) (hn:0 < n) (cur:Array Value) (T:TypeId) (hb:w.heap[b]? = some (.cells cur T (0,0)))
    (hfit:o+(Builtin.zeroCells z.cells n).toList.length≤cur.size) (h1:∀ x∈(Builtin.zeroCells z.cells n).toList,x.oneCell'=true) :
    (Builtin.clear_ #[t] ty #[.slice (some ⟨b,o,none⟩) n c]).run P w = .ok (.tuple #[]) (w.setRow b (cur.toList.take o++(Builtin.zeroCells z.cells n).toList++cur.toList.drop (o+(Builtin.zeroCells z.cells n).toList.length)).toArray):=by
  have hst:=run_storeCells_at P b o T (Builtin.zeroCells z.cells n).toList 0 cur w hb (by simpa using hfit) h1
  simp only [Nat.add_zero] at hst
  obtain ⟨m,rfl⟩:∃ m,n=m+1:=⟨n - 1,by omega⟩
  simp only [Builtin.clear_,List.getElem?_toArray,List.getElem?_cons_zero,Sem.run_bind,run_underlying ht,Result.andThen_ok,hv,hst,Sem.run_pure]
theorem zeroCells_get (z:Array Value) (n i j:Nat) (hj:j < z.size) (hi:i < n):(Builtin.zeroCells z n).toList[i * z.size+j]? = z[j]? := by
  have hlen:i * z.size+j < n * z.size:=by
    have:=Nat.mul_le_mul_right z.size (show i+1≤n by omega)
    rw [Nat.add_mul,Nat.one_mul] at this
    omega
  have hm:(i * z.size+j)%z.size=j:=by rw [Nat.mul_comm,Nat.mul_add_mod,Nat.mod_eq_of_lt hj]
  rw [Array.getElem?_toList]
  simp [Builtin.zeroCells,hlen,hm,hj]
theorem clearOp_sound {as : Array Operand} {ts : Array TypeId} {s : Operand} {ty : TypeId} {k : St U El → Option (Fin U El)} (hX : CtxOk P X) (ho : o.op = .call ⟨.builtin .clear, #[s], #[ty]⟩) (hd : o.dst = none) (hi : Inv X B S0 w0 S ρ st a w)
    (hv:clearOp X ty (oget st.t s) st k=some r) {next:Act→World→Prop} {Q:Exit→Act→World→Prop}
    (hn:∀ st' a' w',StRel X B S0 w0 st' a' w'→k st'=some r→next a' w'):o.wp P a w next Q:=by
  have hs:Rel X.E S ρ w (oget st.t s) (a.eval s):=Rel.oget fun i _=>hi.tmps i
  unfold clearOp at hv
  split at hv
  · rename_i u id lo len htd hse
    split at hv
    · rename_i v xs hg
      obtain ⟨hck,hk⟩:=chk_some hv
      simp only [Bool.and_eq_true,nlt,nle,decide_eq_true_eq] at hck
      obtain ⟨rfl,hlen,hle⟩:=hck
      rw [hse] at hs
      obtain ⟨l,hl,hb⟩:=hi.heap.get _ _ hg
      have hb':=hb
      obtain ⟨c1,c2,c3,c4⟩:=hb
      have hpos:=hX.u.pos v
      have hn0:l.n≠0:=by
        have:0 < xs.length * X.E.sz v:=Nat.mul_pos (by omega) hpos
        omega
      obtain ⟨c5,c6,cur,hh,c7,c8⟩:=c4 hn0
      obtain ⟨ie,z,hi1,hsz,hby,hz,hzs,hzr⟩:=hX.u.info v
      generalize hq:a.eval s=q at hs
      cases hs with
      | ownE _ _ ao cap=>omega
      | own _ _ _ cap l' hl' e1 e2 e3 =>
        rw [hl] at hl'; cases hl'
        have hzv:∀ w,(zeroValue (X.E.tid v)).run P w = .ok z w:=fun w=>by simp [zeroValue,typeInfo,hi1,hz]
        have hzl:(Builtin.zeroCells z.cells len).toList.length=len * X.E.sz v:=by rw [Array.length_toList,size_zeroCells,hzs]
        have hz1:∀ x∈(Builtin.zeroCells z.cells len).toList,x.oneCell'=true:=fun x hx=>by
          obtain ⟨q,hq⟩:=List.getElem?_of_mem hx
          have hql:q < len * X.E.sz v:=by rw [← hzl]; exact (List.getElem?_eq_some_iff.1 hq).1
          have hqd:q / X.E.sz v < len:=Nat.div_lt_of_lt_mul (by rw [Nat.mul_comm]; exact hql)
          have hqm:q%X.E.sz v < X.E.sz v:=Nat.mod_lt _ hpos
          have:=zeroCells_get z.cells len (q / X.E.sz v) (q%X.E.sz v) (by rw [hzs]; exact hqm) hqd
          rw [hzs,show q / X.E.sz v * X.E.sz v+q%X.E.sz v=q by rw [Nat.mul_comm]; exact Nat.div_add_mod q _,hq] at this
          have hj:q%X.E.sz v < (X.E.enc v (X.E.dflt v)).length:=by rw [hX.u.len]; exact hqm
          obtain ⟨y,hy,hry⟩:=hzr _ _ (List.getElem?_eq_getElem hj)
          rw [hy] at this; cases this
          exact one_cell (hry (fun _=>False) (fun _=>none) w) (cell_one (hX.u.cell _ _ _ (List.getElem_mem hj)))
        have hfit:lo * l.s+(Builtin.zeroCells z.cells len).toList.length≤cur.size:=by
          rw [hzl,c7,c1,← Nat.add_mul]
          exact Nat.le_trans (Nat.mul_le_mul_right _ hle) c3
        have hrun:=run_clear_row (P:=P) w ty (X.E.tid v) o.type z (hX.td _ _ htd) hzv l.b (lo * l.s) len cap hlen cur _ hh hfit hz1
        have hexec:(execOp a.eval o).run P w = .ok (.value (.tuple #[])) (w.setRow l.b (cur.toList.take (lo * l.s)++(Builtin.zeroCells z.cells len).toList++cur.toList.drop (lo * l.s+(Builtin.zeroCells z.cells len).toList.length)).toArray):=by
          unfold execOp
          simp only [ho,resolve,invoke,builtin,Sem.run_bind,Sem.run_pure,Result.andThen_ok,List.map_toArray,List.map_cons,List.map_nil,hq,hrun]
        unfold Oper.wp
        rw [hexec]
        show next (a.put o.dst (.tuple #[])) _
        rw [hd]
        refine hn _ _ _ ⟨S,ρ,hi.setRow hg hl hb' hn0 hh ?_⟩ hk
        have hylen:(List.take lo xs++(List.replicate len (X.E.dflt v)++List.drop (lo+len) xs)).length=xs.length:=by simp; omega
        have hsame:∀ W:World,(∀ k,k≠l.b→W.heap[k]? = w.heap[k]?)→∀ k,S k→W.heap[k]? = w.heap[k]? := fun W hW k hk=>hW k (by rintro rfl; exact c6 hk)
        refine ⟨c1,by rw [hylen]; exact c2,by rw [hylen]; exact c3,fun _=>⟨c5,c6,_,setRow_heap w l.b cur _ _ _ hh,by rw [hzl] at hfit; simp only [List.size_toArray,List.length_append,List.length_take,List.length_drop,hzl]; rw [Array.length_toList]; omega,fun i x j c hx hc => ?_⟩⟩
        have hjl:j < X.E.sz v:=by rw [← hX.u.len v x]; exact (List.getElem?_eq_some_iff.1 hc).1
        have mul:∀ {p q:Nat},p < q→p * X.E.sz v+j < q * X.E.sz v:=fun h=>by
          have:=Nat.mul_le_mul_right (X.E.sz v) (show _+1≤_ from h)
          rw [Nat.add_mul,Nat.one_mul] at this
          omega
        have mul':∀ {p q:Nat},q≤p→q * X.E.sz v≤p * X.E.sz v+j:=fun h=>Nat.le_trans (Nat.mul_le_mul_right _ h) (Nat.le_add_right _ _)
        have hil:i < xs.length:=by rw [← hylen]; exact (List.getElem?_eq_some_iff.1 hx).1
        rw [List.getElem?_toArray,c1,hzl,list3_get _ _ _ (lo * X.E.sz v) (by
          have:lo * X.E.sz v≤cur.size:=by rw [c7]; exact Nat.le_trans (Nat.mul_le_mul_right _ (show lo≤xs.length by omega)) c3
          simp; omega),hzl]
        by_cases h1:i < lo
        · rw [if_pos (mul h1), List.getElem?_take_of_lt (mul h1)]
          rw [List.getElem?_append_left (by simp; omega),List.getElem?_take_of_lt h1] at hx
          obtain ⟨y,hy,hry⟩:=c8 i x j c hx hc
          exact ⟨y,by simpa using hy,hry.mono (fun _ h=>h) (hsame _ fun k hk=>setRow_other w l.b k _ hk) (fun _ _ h=>h)⟩
        · have h1' : ¬ i * X.E.sz v + j < lo * X.E.sz v := Nat.not_lt.2 (mul' (by omega))
          rw [if_neg h1']
          rw [List.getElem?_append_right (by simp; omega)] at hx
          simp only [List.length_take,Nat.min_eq_left (show lo≤xs.length by omega)] at hx
          by_cases h2:i < lo+len
          · rw [if_pos (by rw [← Nat.add_mul]; exact mul h2)]
            rw [List.getElem?_append_left (by simp; omega),List.getElem?_replicate,if_pos (by omega)] at hx
            cases hx
            obtain ⟨y,hy,hry⟩:=hzr j c hc
            refine ⟨y,?_,hry _ _ _⟩
            have:=zeroCells_get z.cells len (i - lo) j (by rw [hzs]; exact hjl) (by omega)
            rw [hzs] at this
            rw [← hy,← this]
            congr 1
            rw [Nat.sub_mul]
            have:=Nat.mul_le_mul_right (X.E.sz v) (show lo≤i by omega)
            omega
          · rw [if_neg (by rw [← Nat.add_mul]; exact Nat.not_lt.2 (mul' (by omega)))]
            rw [List.getElem?_append_right (by simp; omega)] at hx
            simp only [List.length_replicate,List.getElem?_drop] at hx
            obtain ⟨y,hy,hry⟩:=c8 _ x j c hx hc
            refine ⟨y,?_,hry.mono (fun _ h=>h) (hsame _ fun k hk=>setRow_other w l.b k _ hk) (fun _ _ h=>h)⟩
            rw [List.getElem?_drop,← hy,Array.getElem?_toList]
            congr 1
            rw [← Nat.add_mul]
            have:=Nat.mul_le_mul_right (X.E.sz v) (show lo+len≤i by omega)
            rw [show lo+len+(i - lo - len)=i by omega]
            omega
    · cases hv
  · cases hv
theorem run_copy_rows {P:Program} (w:World) (dT sT ty elem:TypeId) (g o dLen dCap:Nat) (a:Addr) (sLen sCap:Nat) (cur:Array Value) (t:TypeId) (cs:List Value) {ie:TypeInfo}
    (hu:P.underlying dT=some (.slice elem)) (hi:P.info? elem=some ie) (hg:w.heap[g]? = some (.cells cur t (0,0))) (hn:cs.length=Nat.min sLen dLen * ie.size)
    (hsrc:∀ j v,cs[j]? = some v→w.cell? (a.add j)=some v) (hfit:o+cs.length≤cur.size) (h1:∀ v∈cs,v.oneCell'=true) :
    (Builtin.copy_ #[dT,sT] ty #[.slice (some ⟨g,o,none⟩) dLen dCap,.slice (some a) sLen sCap]).run P w =
      .ok (goInt (Nat.min sLen dLen)) (w.setRow g (cur.toList.take o++cs++cur.toList.drop (o+cs.length)).toArray):=by
  have hl:=run_loadCells_list (P:=P) w a cs hsrc
  have hst:=run_storeCells_at P g o t cs 0 cur w hg (by simpa using hfit) h1
  simp [Builtin.copy_,run_underlying hu,Builtin.lenOf,Builtin.firstCells,sizeOf,typeInfo,hi,← hn,hl,hst]
theorem run_copy_zero {P:Program} (w:World) (dT sT ty elem:TypeId) (da sa:Option Addr) (dLen dCap sLen sCap:Nat) {ie:TypeInfo} (hu:P.underlying dT=some (.slice elem)) (hi:P.info? elem=some ie) (hn:Nat.min sLen dLen=0) :
    (Builtin.copy_ #[dT,sT] ty #[.slice da dLen dCap,.slice sa sLen sCap]).run P w = .ok (goInt 0) w:=by
  cases da<;>cases sa<;>simp [Builtin.copy_,run_underlying hu,Builtin.lenOf,Builtin.firstCells,sizeOf,typeInfo,hi,hn,loadCells,loadCellsFrom,storeCells]
theorem Inv.same {h':Heap U El} (hi:Inv X B S0 w0 S ρ st a w) (hh:∀ j,hget h' j=hget st.h j):Inv X B S0 w0 S ρ ⟨st.t,h'⟩ a w :=
  ⟨hi.defers,hi.size,hi.below,hi.hB,hi.s0,hi.s1,hi.g0,hi.tmps,⟨fun j b h=>hi.heap.get j b (by rw [← hh]; exact h),fun i j b b' l l2 hgi hgj=>hi.heap.inj i j b b' l l2 (by rw [← hh]; exact hgi) (by rw [← hh]; exact hgj),hi.heap.lt⟩⟩
theorem copyOp_sound {s x : Operand} {ty ty' : TypeId} {k : St U El → Option (Fin U El)} (hX : CtxOk P X) (ho : o.op = .call ⟨.builtin .copy, #[s, x], #[ty, ty']⟩) (hd : ∀ e, o.dst = some e → e < X.nt) (hi : Inv X B S0 w0 S ρ st a w)
    (hv:copyOp X o.dst ty (oget st.t s) (oget st.t x) st k=some r) {next:Act→World→Prop} {Q:Exit→Act→World→Prop}
    (hn:∀ st' a' w',StRel X B S0 w0 st' a' w'→k st'=some r→next a' w'):o.wp P a w next Q:=by
  have hs:Rel X.E S ρ w (oget st.t s) (a.eval s):=Rel.oget fun i _=>hi.tmps i
  have hxr:Rel X.E S ρ w (oget st.t x) (a.eval x):=Rel.oget fun i _=>hi.tmps i
  unfold copyOp at hv
  split at hv
  · rename_i u id lo len htd hse
    split at hv
    · rename_i v xs hg
      split at hv
      · rename_i ys hys
        obtain ⟨hck,hk⟩:=chk_some hv
        simp only [Bool.and_eq_true,nle,decide_eq_true_eq] at hck
        obtain ⟨rfl,hle⟩:=hck
        rw [hse] at hs
        obtain ⟨ao,cp,hxv,hsh⟩:=rowsOf_rel hX hi.heap hxr hys
        obtain ⟨ie,z,hi1,hsz,hby,hz,hzs,hzr⟩:=hX.u.info v
        have hu:=hX.td _ _ htd
        generalize hnn:Nat.min ys.length len=n at hk
        have hn1:n≤ys.length:=by rw [← hnn]; exact Nat.min_le_left _ _
        have hn2:n≤len:=by rw [← hnn]; exact Nat.min_le_right _ _
        have fin:∀ {cells w'},(Builtin.copy_ #[ty,ty'] o.type #[a.eval s,a.eval x]).run P w = .ok (goInt n) w'→cells=(⟨st.t,hset st.h id (.rows v (List.take lo xs++(List.take n ys++List.drop (lo+n) xs)))⟩:St U El)→Inv X B S0 w0 S ρ cells a w'→o.wp P a w next Q:=by
          intro cells w' hrun hcells hinv
          subst hcells
          have hexec:(execOp a.eval o).run P w = .ok (.value (goInt n)) w':=by
            unfold execOp
            simp only [ho,resolve,invoke,builtin,Sem.run_bind,Sem.run_pure,Result.andThen_ok,List.map_toArray,List.map_cons,List.map_nil,hrun]
          unfold Oper.wp
          rw [hexec]
          show next (a.put o.dst (goInt n)) w'
          exact hn _ _ _ ⟨S,ρ,hinv.put hd (Step.refl hinv.heap.lt) (.int _ _) (HRel.nil hinv.heap.lt _) (by simp [hget])⟩ hk
        by_cases hn0:n=0
        · subst hn0
          have hse2:∃ da dl dc,a.eval s = .slice da dl dc∧dl=len:=by
            generalize a.eval s=q at hs
            cases hs with
            | own=>exact ⟨_,_,_,rfl,rfl⟩
            | ownE=>exact ⟨_,_,_,rfl,rfl⟩
          obtain ⟨da,dl,dc,he,rfl⟩:=hse2
          refine fin (w':=w) ?_ rfl (hi.same fun j => ?_)
          · rw [he, hxv]
            exact run_copy_zero w ty ty' o.type (X.E.tid v) da ao dl dc ys.length cp hu hi1 hnn
          · rw [hget_set]
            by_cases e:j=id
            · subst e
              rw [if_pos rfl,hg]
              simp
            · rw [if_neg e]
        · obtain ⟨l, hl, hb⟩ := hi.heap.get _ _ hg
          have hb':=hb
          obtain ⟨c1,c2,c3,c4⟩:=hb
          have hpos:=hX.u.pos v
          have hln:l.n≠0:=by
            have:0 < xs.length * X.E.sz v:=Nat.mul_pos (by omega) hpos
            omega
          obtain ⟨c5,c6,cur,hh,c7,c8⟩:=c4 hln
          obtain ⟨ad,rfl,hshow⟩:=hsh (by rintro rfl; simp at hn1; omega)
          have hshow2:Shows X.E S ρ w v (ys.take n) ad:=fun i y j c hi hj=>by
            rw [List.getElem?_take] at hi
            split at hi
            · exact hshow i y j c hi hj
            · cases hi
          obtain ⟨news,hnl,hnc,hno,hnr⟩:=shows_news hX hshow2
          have hnl2:news.length=n * X.E.sz v:=by rw [hnl,List.length_take,Nat.min_eq_left hn1]
          generalize hq:a.eval s=q at hs
          cases hs with
          | ownE _ _ ao cap=>omega
          | own _ _ _ cap l' hl' e1 e2 e3 =>
            rw [hl] at hl'; cases hl'
            have hfit:lo * l.s+news.length≤cur.size:=by
              rw [hnl2,c7,c1,← Nat.add_mul]
              exact Nat.le_trans (Nat.mul_le_mul_right _ (show lo+n≤xs.length by omega)) c3
            have hrun:=run_copy_rows (P:=P) w ty ty' o.type (X.E.tid v) l.b (lo * l.s) len cap ad ys.length cp cur _ news hu hi1 hh (by rw [hnl2,hnn,hsz]) hnc hfit hno
            rw [hnn] at hrun
            refine fin (by rw [hq,hxv]; exact hrun) rfl (hi.setRow hg hl hb' hln hh ?_)
            have hylen:(List.take lo xs++(List.take n ys++List.drop (lo+n) xs)).length=xs.length:=by simp; omega
            have hsame:∀ W:World,(∀ k,k≠l.b→W.heap[k]? = w.heap[k]?)→∀ k,S k→W.heap[k]? = w.heap[k]? := fun W hW k hk=>hW k (by rintro rfl; exact c6 hk)
            refine ⟨c1,by rw [hylen]; exact c2,by rw [hylen]; exact c3,fun _=>⟨c5,c6,_,setRow_heap w l.b cur _ _ _ hh,by rw [hnl2] at hfit; simp only [List.size_toArray,List.length_append,List.length_take,List.length_drop,hnl2]; rw [Array.length_toList]; omega,fun i x j c hx hc => ?_⟩⟩
            have hjl:j < X.E.sz v:=by rw [← hX.u.len v x]; exact (List.getElem?_eq_some_iff.1 hc).1
            have mul:∀ {p q:Nat},p < q→p * X.E.sz v+j < q * X.E.sz v:=fun h=>by
              have:=Nat.mul_le_mul_right (X.E.sz v) (show _+1≤_ from h)
              rw [Nat.add_mul,Nat.one_mul] at this
              omega
            have mul':∀ {p q:Nat},q≤p→q * X.E.sz v≤p * X.E.sz v+j:=fun h=>Nat.le_trans (Nat.mul_le_mul_right _ h) (Nat.le_add_right _ _)
            have hil:i < xs.length:=by rw [← hylen]; exact (List.getElem?_eq_some_iff.1 hx).1
            rw [List.getElem?_toArray,c1,hnl2,list3_get _ _ _ (lo * X.E.sz v) (by
              have:lo * X.E.sz v≤cur.size:=by rw [c7]; exact Nat.le_trans (Nat.mul_le_mul_right _ (show lo≤xs.length by omega)) c3
              simp; omega),hnl2]
            by_cases h1:i < lo
            · rw [if_pos (mul h1), List.getElem?_take_of_lt (mul h1)]
              rw [List.getElem?_append_left (by simp; omega),List.getElem?_take_of_lt h1] at hx
              obtain ⟨y,hy,hry⟩:=c8 i x j c hx hc
              exact ⟨y,by simpa using hy,hry.mono (fun _ h=>h) (hsame _ fun k hk=>setRow_other w l.b k _ hk) (fun _ _ h=>h)⟩
            · have h1' : ¬ i * X.E.sz v + j < lo * X.E.sz v := Nat.not_lt.2 (mul' (by omega))
              rw [if_neg h1']
              rw [List.getElem?_append_right (by simp; omega)] at hx
              simp only [List.length_take,Nat.min_eq_left (show lo≤xs.length by omega)] at hx
              by_cases h2:i < lo+n
              · rw [if_pos (by rw [← Nat.add_mul]; exact mul h2)]
                rw [List.getElem?_append_left (by simp; omega)] at hx
                obtain ⟨y,hy,hry⟩:=hnr _ x j c hx hc
                refine ⟨y,?_,hry.mono (fun _ h=>h) (hsame _ fun k hk=>setRow_other w l.b k _ hk) (fun _ _ h=>h)⟩
                rw [← hy]
                congr 1
                rw [Nat.sub_mul]
                have:=Nat.mul_le_mul_right (X.E.sz v) (show lo≤i by omega)
                omega
              · rw [if_neg (by rw [← Nat.add_mul]; exact Nat.not_lt.2 (mul' (by omega)))]
                rw [List.getElem?_append_right (by simp; omega)] at hx
                simp only [List.length_take,Nat.min_eq_left hn1,List.getElem?_drop] at hx
                obtain ⟨y,hy,hry⟩:=c8 _ x j c hx hc
                refine ⟨y,?_,hry.mono (fun _ h=>h) (hsame _ fun k hk=>setRow_other w l.b k _ hk) (fun _ _ h=>h)⟩
                rw [List.getElem?_drop,← hy,Array.getElem?_toList]
                congr 1
                rw [← Nat.add_mul]
                have:=Nat.mul_le_mul_right (X.E.sz v) (show lo+n≤i by omega)
                rw [show lo+n+(i - lo - n)=i by omega]
                omega
      · cases hv
    · cases hv
  · cases hv
end
end Go.Proofs.Ytkeplmpcijigaaa
