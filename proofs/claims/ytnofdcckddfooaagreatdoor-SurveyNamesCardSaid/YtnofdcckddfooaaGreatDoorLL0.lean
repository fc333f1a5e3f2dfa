/- Append; an operation in the order of the text. -/
import Derived.Test.YtnofdcckddfooaaGreatDoorLI
import Derived.Orders
namespace Go.Proofs.YtnofdcckddfooaaGreatDoor
set_option linter.unusedVariables false
set_option linter.unusedSectionVars false
set_option linter.unusedSimpArgs false
open Go.RowKit
section
variable {U:Type} {El:U→Type} {P:Program} {X:Ctx U El} {S S0:Nat→Prop} {ρ:Rho} {w w0:World} [DecidableEq U]
variable {o:Oper} {a:Act} {st:St U El} {B:Bd} {d:Nat} {r:Fin U El}
theorem nK {c:AV U El} (h:c.cell=true):c.one=true:=by
  cases c<;>first | rfl | (simp [AV.cell] at h; done)
def nL (E:Univ U El) (S:Nat→Prop) (ρ:Rho) (w:World) (u:U) (ys:List (El u)) (ad:Addr):Prop :=
  ∀ (i:Nat) y (j:Nat) c,ys[i]? = some y→(E.enc u y)[j]? = some c→∃ v,w.cell? (ad.add (i * E.sz u+j))=some v∧Rel E S ρ w c v
theorem gX {h : az U El} {u : U} {x : AV U El} {v : Value} {ys : List (El u)} (hX : CtxOk P X) (hH : HRel X.E S ρ w B h) (hr : Rel X.E S ρ w x v) (hy : fh h u x = some ys) :
    ∃ ao cap,v = .slice ao ys.length cap∧(ys≠[]→∃ ad,ao=some ad∧nL X.E S ρ w u ys ad):=by
  unfold fh at hy
  split at hy
  · cases hy; cases hr; exact ⟨none,0,rfl,fun h=>absurd rfl h⟩
  · rename_i u' xs
    split at hy
    · rename_i e
      subst e
      cases hy
      cases hr with
      | lstE=>exact ⟨_,_,rfl,fun h=>absurd rfl h⟩
      | lst _ _ b off cap val hS hc hcell hrel =>
        refine ⟨_,cap,rfl,fun _=>⟨_,rfl,fun i y j c hi hj=>⟨_,?_,hrel i y j c hi hj⟩⟩⟩
        rw [bP,← Nat.add_assoc]
        exact hcell i y j c hi hj
    · cases hy
  · rename_i id
    split at hy
    · rename_i u' xs hg
      split at hy
      · rename_i e
        subst e
        cases hy
        obtain ⟨l,hl,h1,h2,h3,h4⟩:=hH.get _ _ hg
        cases hr with
        | ful _ cap l' hl' e1 e2 =>
          rw [hl] at hl'; cases hl'
          refine ⟨_,cap,by rw [← h2],fun hne=>⟨_,rfl,fun i y j c hi hj => ?_⟩⟩
          have hp:=hX.u.pos u'
          have hn:l.n≠0:=by
            have:0 < xs.length:=List.length_pos_iff.2 hne
            have:=Nat.mul_pos this hp
            omega
          obtain ⟨_,_,cc,hh,h5,h6⟩:=h4 hn
          obtain ⟨vv,hv,hrv⟩:=h6 i y j c hi hj
          exact ⟨vv,by rw [bP,Nat.zero_add,cell_of_row w l.b _ cc _ (0,0) hh]; exact hv,hrv⟩
        | fulN _ l' hl' e1 e2 =>
          rw [hl] at hl'; cases hl'
          have:xs=[]:=List.eq_nil_of_length_eq_zero (by omega)
          subst this
          exact ⟨none,0,rfl,fun h=>absurd rfl h⟩
      · cases hy
    · cases hy
  · rename_i id lo len
    split at hy
    · rename_i u' xs hg
      split at hy
      · rename_i e
        subst e
        cases hy
        obtain ⟨l,hl,h1,h2,h3,h4⟩:=hH.get _ _ hg
        cases hr with
        | ownE _ _ ao cap=>exact ⟨ao,cap,by simp,fun h=>absurd (by simp) h⟩
        | own _ _ _ cap l' hl' e1 e2 e3 =>
          rw [hl] at hl'; cases hl'
          have hlen:((xs.drop lo).take len).length=len:=by simp; omega
          refine ⟨some ⟨l.b,lo * l.s,none⟩,cap,by simp only [hlen],fun hne=>⟨_,rfl,fun i y j c hi hj => ?_⟩⟩
          have hi':xs[lo+i]? = some y:=by
            simp only at hi
            rw [List.getElem?_take] at hi
            split at hi
            · rw [List.getElem?_drop] at hi; exact hi
            · cases hi
          have hp:=hX.u.pos u'
          have hn:l.n≠0:=by
            have:0 < xs.length:=by have:=(List.getElem?_eq_some_iff.1 hi').1; omega
            have:=Nat.mul_pos this hp
            omega
          obtain ⟨_,_,cc,hh,h5,h6⟩:=h4 hn
          obtain ⟨vv,hv,hrv⟩:=h6 _ y j c hi' hj
          exact ⟨vv,by rw [bP,h1,← Nat.add_assoc,← Nat.add_mul,cell_of_row w l.b _ cc _ (0,0) hh]; exact hv,hrv⟩
      · cases hy
    · cases hy
  · cases hy
theorem gY {u:U} {ys:List (El u)} {ad:Addr} (hX:CtxOk P X) (hs:nL X.E S ρ w u ys ad) :
    ∃ news : List Value, news.length = ys.length * X.E.sz u ∧ (∀ (j : Nat) x, news[j]? = some x → w.cell? (ad.add j) = some x) ∧ (∀ x ∈ news, x.oneCell' = true) ∧
      ∀ (i:Nat) y (j:Nat) c,ys[i]? = some y→(X.E.enc u y)[j]? = some c→∃ v,news[i * X.E.sz u+j]? = some v∧Rel X.E S ρ w c v:=by
  have hp:=hX.u.pos u
  have key:∀ n,n < ys.length * X.E.sz u→∃ c v,w.cell? (ad.add n)=some v∧Rel X.E S ρ w c v∧c.cell=true:=fun n hn=>by
    have hi:n / X.E.sz u < ys.length:=(Nat.div_lt_iff_lt_mul hp).2 hn
    have hj:n%X.E.sz u < (X.E.enc u ys[n / X.E.sz u]).length:=by rw [hX.u.len]; exact Nat.mod_lt _ hp
    obtain ⟨v,hv,hr⟩:=hs _ _ _ _ (List.getElem?_eq_getElem hi) (List.getElem?_eq_getElem hj)
    rw [Nat.mul_comm,Nat.div_add_mod] at hv
    exact ⟨_,v,hv,hr,hX.u.cell u _ _ (List.getElem_mem hj)⟩
  refine ⟨(List.range (ys.length * X.E.sz u)).map fun n=>(w.cell? (ad.add n)).getD undef,by simp,fun j x hj => ?_,fun x hx => ?_,fun i y j c hi hj => ?_⟩
  · have hjl : j < ys.length * X.E.sz u := by have := (List.getElem?_eq_some_iff.1 hj).1; simpa using this
    obtain ⟨c,v,hv,_⟩:=key j hjl
    simp [hjl,hv] at hj
    rw [hv,hj]
  · obtain ⟨n, hn, rfl⟩ := List.mem_map.1 hx
    obtain ⟨c,v,hv,hr,hc⟩:=key n (by simpa using hn)
    rw [hv]
    exact kC hr (nK hc)
  · obtain ⟨v, hv, hr⟩ := hs i y j c hi hj
    have hil:i < ys.length:=(List.getElem?_eq_some_iff.1 hi).1
    have hjl:j < X.E.sz u:=by rw [← hX.u.len u y]; exact (List.getElem?_eq_some_iff.1 hj).1
    have hlt:i * X.E.sz u+j < ys.length * X.E.sz u:=by
      have:(i+1) * X.E.sz u≤ys.length * X.E.sz u:=Nat.mul_le_mul_right _ hil
      rw [Nat.add_mul,Nat.one_mul] at this
      omega
    exact ⟨v,by simp [hlt,hv],hr⟩
structure AppRes (X:Ctx U El) (S:Nat→Prop) (ρ:Rho) (B:Bd) (w:World) (u:U) (zs:List (El u)) (old:Option Nat) (v':Value) (w':World) (l':Loc):Prop where
  os:w'.os=w.os
  tape:w'.tape=w.tape
  output:w'.output=w.output
  size:w.heap.size≤w'.heap.size
  drawn:w.drawn≤w'.drawn
  block:∀ k,k < w.heap.size→some k≠old→w'.heap[k]? = w.heap[k]?
  at_:l'.n≠0→some l'.b=old∨w.heap.size≤l'.b
  blk:∀ ρ',BlkRel X.E S ρ' w' B l' (.rows u zs)
  val:(∃ cap,v' = .slice (some ⟨l'.b,0,none⟩) l'.ln cap∧cap * l'.s≤l'.n∧l'.ln≤cap)∨(v' = .slice none 0 0∧l'.n=0∧l'.ln=0)
theorem nM {u:U} {xs ys:List (El u)} {vx vy:List Value} {c:Array Value} {w':World} {ρ':Rho} (hX:CtxOk P X) (hS:∀ k,S k→w'.heap[k]? = w.heap[k]?) (hlx:vx.length=xs.length * X.E.sz u)
    (hx:∀ (i:Nat) y (j:Nat) c,xs[i]? = some y→(X.E.enc u y)[j]? = some c→∃ v,vx[i * X.E.sz u+j]? = some v∧Rel X.E S ρ w c v)
    (hy:∀ (i:Nat) y (j:Nat) c,ys[i]? = some y→(X.E.enc u y)[j]? = some c→∃ v,vy[i * X.E.sz u+j]? = some v∧Rel X.E S ρ w c v)
    (hc:∀ (j:Nat) v,(vx++vy)[j]? = some v→c[j]? = some v) :
    ∀ (i:Nat) y (j:Nat) e,(xs++ys)[i]? = some y→(X.E.enc u y)[j]? = some e→∃ v,c[i * X.E.sz u+j]? = some v∧Rel X.E S ρ' w' e v:=by
  intro i y j e hi hj
  have fin:∀ v,Rel X.E S ρ w e v→Rel X.E S ρ' w' e v:=fun v h=>(h.mono (ρ':=ρ) (fun _ h=>h) hS (fun _ _ h=>h)).cellρ hX.u (hX.u.cell u y e (List.mem_of_getElem? hj))
  have hjl:j < X.E.sz u:=by rw [← hX.u.len u y]; exact (List.getElem?_eq_some_iff.1 hj).1
  by_cases h:i < xs.length
  · rw [List.getElem?_append_left h] at hi
    obtain ⟨v,hv,hr⟩:=hx i y j e hi hj
    exact ⟨v,hc _ v (by rw [List.getElem?_append_left ((List.getElem?_eq_some_iff.1 hv).1)]; exact hv),fin v hr⟩
  · rw [List.getElem?_append_right (by omega)] at hi
    obtain ⟨v,hv,hr⟩:=hy _ y j e hi hj
    have e1:i * X.E.sz u=xs.length * X.E.sz u+(i - xs.length) * X.E.sz u:=by rw [← Nat.add_mul]; congr 1; omega
    refine ⟨v,hc _ v ?_,fin v hr⟩
    rw [List.getElem?_append_right (by omega),← hv]
    congr 1
    omega
theorem fu {ty : TypeId} {u : U} {xs ys : List (El u)} {sv xv : Value} {ot : TypeId} {old : Option Nat} {ao : Option Addr} {cp : Nat} (hX : CtxOk P X) (hB : ∀ k, w.heap.size ≤ k → B.own k) (hlt : ∀ b, S b → b < w.heap.size) (hu : P.underlying ty = some (.slice (X.E.tid u)))
    (hs:(sv = .slice none 0 0∧xs=[]∧old=none)∨∃ l cap,sv = .slice (some ⟨l.b,0,none⟩) xs.length cap∧old=(if l.n=0 then none else some l.b)∧cap * X.E.sz u≤l.n∧xs.length≤cap∧BlkRel X.E S ρ w B l (.rows u xs))
    (hxv:xv = .slice ao ys.length cp) (hsh:ys≠[]→∃ ad,ao=some ad∧nL X.E S ρ w u ys ad)
    (hb:(xs.length+ys.length) * X.E.by_ u≤140737488355328) (hm:xs.length+ys.length≤9223372036854775807) :
    ∃ v' w' l',(Builtin.append_ #[ty,ty] ot #[sv,xv]).run P w = .ok v' w'∧AppRes X S ρ B w u (xs++ys) old v' w' l':=by
  obtain ⟨ie,z,hi,hsz,hby,hz,hzs,_⟩:=hX.u.info u
  have hp:=hX.u.pos u
  subst hxv
  by_cases hy0:ys=[]
  · subst hy0
    rw [List.append_nil]
    rcases hs with ⟨rfl,rfl,rfl⟩ | ⟨l,cap,rfl,rfl,hcap,hle,hblk⟩
    · refine ⟨.slice none 0 0, w, ⟨0, 0, X.E.sz u, 0⟩, ?_, rfl, rfl, rfl, Nat.le_refl _, Nat.le_refl _, fun _ _ _ => rfl, fun h => absurd rfl h, fun ρ' => ⟨rfl, rfl, by simp, fun h => absurd rfl h⟩, .inr ⟨rfl, rfl, rfl⟩⟩
      cases ao<;>simp [Builtin.append_,run_underlying hu,sizeOf,typeInfo,hi,Builtin.lenOf,Builtin.firstCells,loadCells,loadCellsFrom]
    · refine ⟨.slice (some ⟨l.b, 0, none⟩) xs.length cap, w, l, ?_, rfl, rfl, rfl, Nat.le_refl _, Nat.le_refl _, fun _ _ _ => rfl, fun hn => .inl (by rw [if_neg hn]), fun ρ' => ?_, .inl ⟨cap, by rw [hblk.2.1], by rw [hblk.1]; exact hcap, by rw [hblk.2.1]; exact hle⟩⟩
      · cases ao<;>simp [Builtin.append_,run_underlying hu,sizeOf,typeInfo,hi,Builtin.lenOf,Builtin.firstCells,loadCells,loadCellsFrom,hle,storeCells]
      · obtain ⟨h1, h2, h3, h4⟩ := hblk
        refine ⟨h1,h2,h3,fun hn => ?_⟩
        obtain ⟨h5,h6,c,hh,h7,h8⟩:=h4 hn
        exact ⟨h5,h6,c,hh,h7,fun i x j a hi hj=>by obtain ⟨v,hv,hr⟩:=h8 i x j a hi hj; exact ⟨v,hv,hr.cellρ hX.u (hX.u.cell u x a (List.mem_of_getElem? hj))⟩⟩
  · obtain ⟨ad, rfl, hshow⟩ := hsh hy0
    obtain ⟨news,hnl,hnc,hn1,hnr⟩:=gY hX hshow
    have hyl:0 < ys.length:=List.length_pos_iff.2 hy0
    have hns:¬ S w.heap.size:=fun h=>by have:=hlt _ h; omega
    have grown:∀ (vx:List Value) (old:Option Nat) (sc:Nat),vx.length=xs.length * X.E.sz u→(∀ (i:Nat) y (j:Nat) c,xs[i]? = some y→(X.E.enc u y)[j]? = some c→∃ v,vx[i * X.E.sz u+j]? = some v∧Rel X.E S ρ w c v) →
        AppRes X S ρ B w u (xs++ys) old (.slice (some ⟨w.heap.size,0,none⟩) (xs.length+ys.length) (grownCap w (xs.length+ys.length) sc (X.E.tid u)))
          (w.drew.alloc (.cells (vx.toArray++news.toArray++Builtin.zeroCells z.cells (grownCap w (xs.length+ys.length) sc (X.E.tid u) - (xs.length+ys.length))) (X.E.tid u)))
          ⟨w.heap.size,grownCap w (xs.length+ys.length) sc (X.E.tid u) * X.E.sz u,X.E.sz u,xs.length+ys.length⟩:=by
      intro vx old sc hvl hvr
      have hge:=grownCap_ge w (xs.length+ys.length) sc (X.E.tid u)
      refine ⟨rfl,rfl,rfl,by simp,Nat.le_succ _,fun k hk _=>heap_alloc_old w.drew _ k hk,fun _ => .inr (Nat.le_refl _),fun ρ'=>⟨rfl,by simp,by simp only [List.length_append]; exact Nat.mul_le_mul_right _ hge,fun _=>⟨hB _ (Nat.le_refl _),hns,_,heap_alloc_new w.drew _,?_,?_⟩⟩,.inl ⟨_,rfl,Nat.le_refl _,hge⟩⟩
      · simp only [Array.size_append, List.size_toArray, size_zeroCells, hzs, hvl, hnl, ← Nat.add_mul]
        congr 1
        omega
      · refine nM (ρ := ρ) (w := w) hX (fun k hk => heap_alloc_old w.drew _ k (hlt k hk)) hvl hvr hnr (fun j v hj => ?_)
        rw [← Array.getElem?_toList]
        simp only [Array.toList_append]
        rw [List.getElem?_append_left (List.getElem?_eq_some_iff.1 hj).1]
        exact hj
    rcases hs with ⟨rfl,rfl,rfl⟩ | ⟨l,cap,rfl,rfl,hcap,hle,hblk⟩
    · have hr := run_append_nil (P := P) w ty ot (X.E.tid u) ie z hu hi hz ad ys.length cp news (by rw [hsz]; exact hnl) hnc hyl (by simp at hm; omega) (by rw [hby]; simp at hb; omega)
      have hg:=grown [] none 0 (by simp) (by simp)
      simp only [List.length_nil,Nat.zero_add,Array.empty_append] at hg
      exact ⟨_,_,_,hr,hg⟩
    · by_cases hroom : xs.length + ys.length ≤ cap
      · have hn : l.n ≠ 0 := by have := Nat.mul_pos (show 0 < cap by omega) hp; omega
        have hblk':=hblk
        obtain ⟨h1,h2,h3,h4⟩:=hblk
        obtain ⟨h5,h6,cur,hh,h7,h8⟩:=h4 hn
        have hfit:xs.length * X.E.sz u+news.length≤cur.size:=by
          rw [hnl,← Nat.add_mul,h7]
          exact Nat.le_trans (Nat.mul_le_mul_right _ hroom) hcap
        have hr:=run_append_room (P:=P) w ty ot (X.E.tid u) ie hu hi l.b xs.length cap cur hh ad ys.length cp news (by rw [hsz]; exact hnl) hnc hn1 hroom (by rw [hsz]; exact hfit)
        rw [hsz] at hr
        refine ⟨_,_,⟨l.b,l.n,X.E.sz u,xs.length+ys.length⟩,hr,rfl,rfl,rfl,by simp,Nat.le_refl _,fun k hk hne=>setRow_other w l.b k _ (fun e=>hne (by rw [e,if_neg hn])),fun _ => .inl (by rw [if_neg hn]),fun ρ'=>⟨rfl,by simp,?_,fun _=>⟨h5,h6,_,setRow_heap w l.b cur _ _ _ hh,?_,?_⟩⟩,.inl ⟨cap,rfl,hcap,hroom⟩⟩
        · simp only [List.length_append]
          exact Nat.le_trans (Nat.mul_le_mul_right _ hroom) hcap
        · simp; omega
        · have hlx : (cur.toList.take (xs.length * X.E.sz u)).length = xs.length * X.E.sz u := by simp; omega
          refine nM (ρ:=ρ) (w:=w) hX (fun k hk=>setRow_other w l.b k _ (by rintro rfl; exact h6 hk)) hlx (fun i y j c hi hj => ?_) hnr (fun j v hj => ?_)
          · obtain ⟨v, hv, hr⟩ := h8 i y j c hi hj
            have hil:i < xs.length:=(List.getElem?_eq_some_iff.1 hi).1
            have hjl:j < X.E.sz u:=by rw [← hX.u.len u y]; exact (List.getElem?_eq_some_iff.1 hj).1
            have hlt':i * X.E.sz u+j < xs.length * X.E.sz u:=by
              have:(i+1) * X.E.sz u≤xs.length * X.E.sz u:=Nat.mul_le_mul_right _ hil
              rw [Nat.add_mul,Nat.one_mul] at this
              omega
            exact ⟨v,by rw [List.getElem?_take_of_lt hlt']; simpa using hv,hr⟩
          · rw [List.getElem?_toArray, List.getElem?_append_left (List.getElem?_eq_some_iff.1 hj).1]
            exact hj
      · have holds : ∃ vx : List Value, vx.length = xs.length * X.E.sz u ∧ (∀ j v, vx[j]? = some v → w.cell? ((⟨l.b, 0, none⟩ : Addr).add j) = some v) ∧ (∀ (i : Nat) y (j : Nat) c, xs[i]? = some y → (X.E.enc u y)[j]? = some c → ∃ v, vx[i * X.E.sz u + j]? = some v ∧ Rel X.E S ρ w c v) := by
          have hsh2:nL X.E S ρ w u xs ⟨l.b,0,none⟩:=fun i y j c hi hj=>by
            have hn:l.n≠0:=by
              have:0 < xs.length:=by have:=(List.getElem?_eq_some_iff.1 hi).1; omega
              have:=Nat.mul_pos this hp
              have:=hblk.2.2.1
              omega
            obtain ⟨h1,h2,h3,h4⟩:=hblk
            obtain ⟨h5,h6,cur,hh,h7,h8⟩:=h4 hn
            obtain ⟨v,hv,hr⟩:=h8 i y j c hi hj
            exact ⟨v,by rw [bP,Nat.zero_add,cell_of_row w l.b _ cur _ (0,0) hh]; exact hv,hr⟩
          obtain ⟨vx,g1,g2,_,g4⟩:=gY hX hsh2
          exact ⟨vx,g1,g2,g4⟩
        obtain ⟨vx,g1,g2,g4⟩:=holds
        have hr:=run_append_grow (P:=P) w ty ot (X.E.tid u) ie z hu hi hz ⟨l.b,0,none⟩ xs.length cap vx (by rw [hsz]; exact g1) g2 ad ys.length cp news (by rw [hsz]; exact hnl) hnc (by omega) (by omega) (growslice_fits (by omega) (by rw [hby]; exact hb))
        exact ⟨_,_,_,hr,grown vx _ cap g1 g4⟩
theorem kD {h : az U El} {u : U} {sv : AV U El} {v : Value} {xs : List (El u)} {id : Option Nat} (hX : CtxOk P X) (hH : HRel X.E S ρ w B h) (hsr : Rel X.E S ρ w sv v) (hxs : fN h u sv = some (xs, id)) :
    ∃ old, ((v = .slice none 0 0 ∧ xs = [] ∧ old = none) ∨ ∃ l cap, v = .slice (some ⟨l.b, 0, none⟩) xs.length cap ∧ old = (if l.n = 0 then none else some l.b) ∧ cap * X.E.sz u ≤ l.n ∧ xs.length ≤ cap ∧ BlkRel X.E S ρ w B l (.rows u xs)) ∧
      (∀ b,old=some b→∃ j l,id=some j∧ac h j=some (.rows u xs)∧ρ j=some l∧l.n≠0∧l.b=b∧BlkRel X.E S ρ w B l (.rows u xs)):=by
  unfold fN at hxs
  split at hxs
  · cases hxs
    cases hsr
    exact ⟨none,.inl ⟨rfl,rfl,rfl⟩,by simp⟩
  · rename_i j
    split at hxs
    · rename_i u' xs' hg
      split at hxs
      · rename_i eu
        subst eu
        cases hxs
        obtain ⟨l,hl,hbl⟩:=hH.get _ _ hg
        cases hsr with
        | ful _ cap l' hl' e1 e2 =>
          rw [hl] at hl'; cases hl'
          refine ⟨_,.inr ⟨l,cap,by rw [hbl.2.1],rfl,by rw [← hbl.1]; exact e1,by rw [← hbl.2.1]; exact e2,hbl⟩,fun b hb => ?_⟩
          by_cases hn:l.n=0
          · rw [if_pos hn] at hb; cases hb
          · rw [if_neg hn] at hb; cases hb; exact ⟨j,l,rfl,hg,hl,hn,rfl,hbl⟩
        | fulN _ l' hl' e1 e2 =>
          rw [hl] at hl'; cases hl'
          exact ⟨none,.inl ⟨rfl,List.eq_nil_of_length_eq_zero (show xs'.length=0 by have:=hbl.2.1; omega),rfl⟩,by simp⟩
      · cases hxs
    · cases hxs
  · cases hxs
theorem kE {ty : TypeId} {s x : Operand} {k : St U El → Option (Fin U El)} (hX : CtxOk P X) (ho : o.op = .call ⟨.builtin .append, #[s, x], #[ty, ty]⟩) (hdst : o.dst = some d) (hd : d < X.nt) (hi : Inv X B S0 w0 S ρ st a w)
    (hv:ko X d ty (oget st.t s) (oget st.t x) st k=some r) {next:Act→World→Prop} {Q:Exit→Act→World→Prop}
    (hn:∀ st' a' w',StRel X B S0 w0 st' a' w'→k st'=some r→next a' w'):o.wp P a w next Q:=by
  have hsr:Rel X.E S ρ w (oget st.t s) (a.eval s):=Rel.oget fun i _=>hi.tmps i
  have hxr:Rel X.E S ρ w (oget st.t x) (a.eval x):=Rel.oget fun i _=>hi.tmps i
  unfold ko at hv
  split at hv
  · rename_i u htd
    have hu:P.underlying ty=some (.slice (X.E.tid u)):=hX.td _ _ htd
    split at hv
    · rename_i xs id ys hxs hys
      obtain ⟨hck,hk⟩:=ae hv
      simp only [Bool.and_eq_true,nle,decide_eq_true_eq] at hck
      obtain ⟨hb,hm⟩:=hck
      obtain ⟨ao,cp,hxv,hsh⟩:=gX hX hi.heap hxr hys
      have hp:=hX.u.pos u
      have hs:=kD hX hi.heap hsr hxs
      obtain ⟨old,hsv,hold⟩:=hs
      obtain ⟨v',w',l',hrun,hres⟩:=fu (ot:=o.type) hX hi.hB hi.heap.lt hu hsv hxv hsh hb hm
      have hrun':(execOp a.eval o).run P w = .ok (.value v') w':=by
        simp only [execOp,ho,resolve,invoke,builtin,List.map_toArray,List.map_cons,List.map_nil,Sem.run_bind,Sem.run_pure,Result.andThen_ok,hrun]
      unfold Oper.wp
      rw [hrun']
      show next (a.put o.dst v') w'
      rw [hdst]
      have hf : ∃ ρ1, Inv X B S0 w0 S ρ1 ((match id with | some id => st.forget id | none => st).forget d) a w ∧ ρ1 d = none ∧ (∀ j, id = some j → ρ1 j = none) ∧ (∀ j l, ρ1 j = some l → ρ j = some l) ∧
          ∀ j b,ac ((match id with | some id=>st.forget id | none=>st).forget d).h j=some b→j≠d∧id≠some j∧∃ b0,ac st.h j=some b0:=by
        cases id with
        | none =>
          refine ⟨_,hi.forget hX d,by simp [Rho.del],by simp,fun j l h => ?_,fun j b h => ?_⟩
          · unfold Rho.del at h; split at h; cases h; exact h
          · simp only [St.forget, cd, bE, Option.map_eq_some_iff] at h
            obtain ⟨b0,h0,_⟩:=h
            split at h0
            · cases h0
            · rename_i e; exact ⟨e,by simp,b0,h0⟩
        | some i =>
          refine ⟨_,(hi.forget hX i).forget hX d,by simp [Rho.del],fun j hj => ?_,fun j l h => ?_,fun j b h => ?_⟩
          · cases hj; simp [Rho.del]
          · unfold Rho.del at h; split at h; cases h; split at h; cases h; exact h
          · simp only [St.forget, cd, bE, Option.map_eq_some_iff] at h
            obtain ⟨b0,h0,_⟩:=h
            split at h0
            · cases h0
            · rename_i e
              simp only [Option.map_eq_some_iff] at h0
              obtain ⟨b1,h1,_⟩:=h0
              split at h1
              · cases h1
              · rename_i e2; exact ⟨e,by simp [Ne.symm e2],b1,h1⟩
      obtain ⟨ρ1,hinv,hρd,hρid,hρsub,hheap⟩:=hf
      generalize ((match id with | some id=>st.forget id | none=>st).forget d)=st1 at hk hinv hheap
      refine hn _ _ _ ⟨S,ρ1.set d l',?_⟩ hk
      have hSame:∀ b,S b→w'.heap[b]? = w.heap[b]? := fun b hb=>hres.block b (hi.heap.lt b hb) (fun e=>by
        obtain ⟨j,l,_,_,_,hn0,hlb,hbl⟩:=hold b e.symm
        exact (hbl.lt hn0).2.2 (by rw [hlb]; exact hb))
      have hext:∀ j l,ρ1 j=some l→(ρ1.set d l') j=some l:=fun j l h=>by
        by_cases e:j=d
        · subst e; rw [hρd] at h; cases h
        · simp [Rho.set,e,h]
      have hother:∀ j b l,ac st1.h j=some b→ρ1 j=some l→l.n≠0→some l.b≠old:=fun j b l hg hl hn0 e=>by
        obtain ⟨j',l2,hid,hg2,hl2,hn2,hlb,hbl⟩:=hold l.b e.symm
        obtain ⟨_,hne,b0,hb0⟩:=hheap j b hg
        exact hi.heap.inj j j' b0 _ l l2 hb0 hg2 (by rintro rfl; exact hne hid) (hρsub j l hl) hl2 hn0 hn2 hlb.symm
      have hbl:=hres.blk (ρ1.set d l')
      refine ⟨hinv.defers,by simp [Act.put,hinv.size],hinv.below.trans ⟨hres.os,hres.tape,hres.output,hres.size,hres.drawn,fun k hk hbk=>hres.block k hk (fun e=>hbk ?_)⟩,fun k hk=>hi.hB k (Nat.le_trans hres.size hk),hi.s0,hi.s1,hi.g0,?_,⟨fun j b hg => ?_,fun i j b b' l l2 hgi hgj hne hli hlj hn1 hn2 => ?_,fun b hb=>Nat.lt_of_lt_of_le (hi.heap.lt b hb) hres.size⟩⟩
      · obtain ⟨j, l, _, _, _, hn0, hlb, hbl⟩ := hold k e.symm
        rw [← hlb]
        exact (hbl.lt hn0).2.1
      · refine dH (d := some d) (av := .ful d) (fun e he => by cases he; rw [hinv.size]; exact hd) (fun i => (hinv.tmps i).mono (fun _ h => h) hSame hext) ?_
        have e1:(ρ1.set d l') d=some l':=by simp [Rho.set]
        rcases hres.val with ⟨cap,rfl,h1,h2⟩ | ⟨rfl,h1,h2⟩
        · exact .ful d cap l' e1 h1 h2
        · exact .fulN d l' e1 h1 h2
      · simp only [ac] at hg
        by_cases e:d=j
        · subst e
          rw [Nat.beq_refl] at hg
          cases hg
          exact ⟨l',by simp [Rho.set],hbl⟩
        · rw [ah e] at hg
          obtain ⟨l,hl,hb⟩:=hinv.heap.get j b hg
          exact ⟨l,hext j l hl,hb.mono (fun _ h=>h) hSame hext fun hn0=>⟨hres.block _ (hb.lt hn0).1 (hother j b l hg hl hn0),(hb.lt hn0).2.2⟩⟩
      · have sep : ∀ j b l, ac st1.h j = some b → ρ1 j = some l → l.n ≠ 0 → l'.n ≠ 0 → l.b ≠ l'.b := fun j b l hg hl hn0 hn' e => by
          rcases hres.at_ hn' with h | h
          · exact hother j b l hg hl hn0 (by rw [e]; exact h)
          · obtain ⟨l2, hl2, hb⟩ := hinv.heap.get j b hg
            rw [hl] at hl2; cases hl2
            have:=(hb.lt hn0).1
            omega
        simp only [ac] at hgi hgj
        by_cases ei:d=i
        · subst ei
          have:(ρ1.set d l') d=some l':=by simp [Rho.set]
          rw [this] at hli; cases hli
          rw [ah hne] at hgj
          have hlj':ρ1 j=some l2:=by simpa [Rho.set,Ne.symm hne] using hlj
          exact (sep j b' l2 hgj hlj' hn2 hn1).symm
        · rw [ah ei] at hgi
          have hli':ρ1 i=some l:=by simpa [Rho.set,Ne.symm ei] using hli
          by_cases ej:d=j
          · subst ej
            have:(ρ1.set d l') d=some l':=by simp [Rho.set]
            rw [this] at hlj; cases hlj
            exact sep i b l hgi hli' hn1 hn2
          · rw [ah ej] at hgj
            have hlj':ρ1 j=some l2:=by simpa [Rho.set,Ne.symm ej] using hlj
            exact hinv.heap.inj i j b b' l l2 hgi hgj hne hli' hlj' hn1 hn2
    · cases hv
  · cases hv
theorem lI {P:Program} (w:World) (t e ty:TypeId) (z:Value) (ht:P.underlying t=some (.slice e)) (hv:∀ w,(zeroValue e).run P w = .ok z w) (b o n c:Nat) (hn:0 < n) (cur:Array Value) (T:TypeId) (hb:w.heap[b]? = some (.cells cur T (0,0)))
    (hfit:o+(Builtin.zeroCells z.cells n).toList.length≤cur.size) (h1:∀ x∈(Builtin.zeroCells z.cells n).toList,x.oneCell'=true) :
    (Builtin.clear_ #[t] ty #[.slice (some ⟨b,o,none⟩) n c]).run P w = .ok (.tuple #[]) (w.setRow b (cur.toList.take o++(Builtin.zeroCells z.cells n).toList++cur.toList.drop (o+(Builtin.zeroCells z.cells n).toList.length)).toArray):=by
  have hst:=run_storeCells_at P b o T (Builtin.zeroCells z.cells n).toList 0 cur w hb (by simpa using hfit) h1
  simp only [Nat.add_zero] at hst
  obtain ⟨m,rfl⟩:∃ m,n=m+1:=⟨n - 1,by omega⟩
  simp only [Builtin.clear_,List.getElem?_toArray,List.getElem?_cons_zero,Sem.run_bind,run_underlying ht,Result.andThen_ok,hv,hst,Sem.run_pure]
theorem gJ (z:Array Value) (n i j:Nat) (hj:j < z.size) (hi:i < n):(Builtin.zeroCells z n).toList[i * z.size+j]? = z[j]? := by
  have hlen:i * z.size+j < n * z.size:=by
    have:=Nat.mul_le_mul_right z.size (show i+1≤n by omega)
    rw [Nat.add_mul,Nat.one_mul] at this
    omega
  have hm:(i * z.size+j)%z.size=j:=by rw [Nat.mul_comm,Nat.mul_add_mod,Nat.mod_eq_of_lt hj]
  rw [Array.getElem?_toList]
  simp [Builtin.zeroCells,hlen,hm,hj]
theorem lJ {as : Array Operand} {ts : Array TypeId} {s : Operand} {ty : TypeId} {k : St U El → Option (Fin U El)} (hX : CtxOk P X) (ho : o.op = .call ⟨.builtin .clear, #[s], #[ty]⟩) (hd : o.dst = none) (hi : Inv X B S0 w0 S ρ st a w)
    (hv:mD X ty (oget st.t s) st k=some r) {next:Act→World→Prop} {Q:Exit→Act→World→Prop}
    (hn:∀ st' a' w',StRel X B S0 w0 st' a' w'→k st'=some r→next a' w'):o.wp P a w next Q:=by
  have hs:Rel X.E S ρ w (oget st.t s) (a.eval s):=Rel.oget fun i _=>hi.tmps i
  unfold mD at hv
  split at hv
  · rename_i u id lo len htd hse
    split at hv
    · rename_i v xs hg
      obtain ⟨hck,hk⟩:=ae hv
      simp only [Bool.and_eq_true,nlt,nle,decide_eq_true_eq] at hck
      obtain ⟨rfl,hlen,hle⟩:=hck
      rw [hse] at hs
      obtain ⟨l,hl,hb⟩:=hi.heap.get _ _ hg
      have hb':=hb
      obtain ⟨c1,c2,c3,c4⟩:=hb
      have hpos:=hX.u.pos v
      have hn0:l.n≠0:=by
        have:0 < xs.length * X.E.sz v:=Nat.mul_pos (by omega) hpos
        omega
      obtain ⟨c5,c6,cur,hh,c7,c8⟩:=c4 hn0
      obtain ⟨ie,z,hi1,hsz,hby,hz,hzs,hzr⟩:=hX.u.info v
      generalize hq:a.eval s=q at hs
      cases hs with
      | ownE _ _ ao cap=>omega
      | own _ _ _ cap l' hl' e1 e2 e3 =>
        rw [hl] at hl'; cases hl'
        have hzv:∀ w,(zeroValue (X.E.tid v)).run P w = .ok z w:=fun w=>by simp [zeroValue,typeInfo,hi1,hz]
        have hzl:(Builtin.zeroCells z.cells len).toList.length=len * X.E.sz v:=by rw [Array.length_toList,size_zeroCells,hzs]
        have hz1:∀ x∈(Builtin.zeroCells z.cells len).toList,x.oneCell'=true:=fun x hx=>by
          obtain ⟨q,hq⟩:=List.getElem?_of_mem hx
          have hql:q < len * X.E.sz v:=by rw [← hzl]; exact (List.getElem?_eq_some_iff.1 hq).1
          have hqd:q / X.E.sz v < len:=Nat.div_lt_of_lt_mul (by rw [Nat.mul_comm]; exact hql)
          have hqm:q%X.E.sz v < X.E.sz v:=Nat.mod_lt _ hpos
          have:=gJ z.cells len (q / X.E.sz v) (q%X.E.sz v) (by rw [hzs]; exact hqm) hqd
          rw [hzs,show q / X.E.sz v * X.E.sz v+q%X.E.sz v=q by rw [Nat.mul_comm]; exact Nat.div_add_mod q _,hq] at this
          have hj:q%X.E.sz v < (X.E.enc v (X.E.dflt v)).length:=by rw [hX.u.len]; exact hqm
          obtain ⟨y,hy,hry⟩:=hzr _ _ (List.getElem?_eq_getElem hj)
          rw [hy] at this; cases this
          exact kC (hry (fun _=>False) (fun _=>none) w) (nK (hX.u.cell _ _ _ (List.getElem_mem hj)))
        have hfit:lo * l.s+(Builtin.zeroCells z.cells len).toList.length≤cur.size:=by
          rw [hzl,c7,c1,← Nat.add_mul]
          exact Nat.le_trans (Nat.mul_le_mul_right _ hle) c3
        have hrun:=lI (P:=P) w ty (X.E.tid v) o.type z (hX.td _ _ htd) hzv l.b (lo * l.s) len cap hlen cur _ hh hfit hz1
        have hexec:(execOp a.eval o).run P w = .ok (.value (.tuple #[])) (w.setRow l.b (cur.toList.take (lo * l.s)++(Builtin.zeroCells z.cells len).toList++cur.toList.drop (lo * l.s+(Builtin.zeroCells z.cells len).toList.length)).toArray):=by
          unfold execOp
          simp only [ho,resolve,invoke,builtin,Sem.run_bind,Sem.run_pure,Result.andThen_ok,List.map_toArray,List.map_cons,List.map_nil,hq,hrun]
        unfold Oper.wp
        rw [hexec]
        show next (a.put o.dst (.tuple #[])) _
        rw [hd]
        refine hn _ _ _ ⟨S,ρ,hi.setRow hg hl hb' hn0 hh ?_⟩ hk
        have hylen:(List.take lo xs++(List.replicate len (X.E.dflt v)++List.drop (lo+len) xs)).length=xs.length:=by simp; omega
        have hsame:∀ W:World,(∀ k,k≠l.b→W.heap[k]? = w.heap[k]?)→∀ k,S k→W.heap[k]? = w.heap[k]? := fun W hW k hk=>hW k (by rintro rfl; exact c6 hk)
        refine ⟨c1,by rw [hylen]; exact c2,by rw [hylen]; exact c3,fun _=>⟨c5,c6,_,setRow_heap w l.b cur _ _ _ hh,by rw [hzl] at hfit; simp only [List.size_toArray,List.length_append,List.length_take,List.length_drop,hzl]; rw [Array.length_toList]; omega,fun i x j c hx hc => ?_⟩⟩
        have hjl:j < X.E.sz v:=by rw [← hX.u.len v x]; exact (List.getElem?_eq_some_iff.1 hc).1
        have mul:∀ {p q:Nat},p < q→p * X.E.sz v+j < q * X.E.sz v:=fun h=>by
          have:=Nat.mul_le_mul_right (X.E.sz v) (show _+1≤_ from h)
          rw [Nat.add_mul,Nat.one_mul] at this
          omega
        have mul':∀ {p q:Nat},q≤p→q * X.E.sz v≤p * X.E.sz v+j:=fun h=>Nat.le_trans (Nat.mul_le_mul_right _ h) (Nat.le_add_right _ _)
        have hil:i < xs.length:=by rw [← hylen]; exact (List.getElem?_eq_some_iff.1 hx).1
        rw [List.getElem?_toArray,c1,hzl,dZ _ _ _ (lo * X.E.sz v) (by
          have:lo * X.E.sz v≤cur.size:=by rw [c7]; exact Nat.le_trans (Nat.mul_le_mul_right _ (show lo≤xs.length by omega)) c3
          simp; omega),hzl]
        by_cases h1:i < lo
        · rw [if_pos (mul h1), List.getElem?_take_of_lt (mul h1)]
          rw [List.getElem?_append_left (by simp; omega),List.getElem?_take_of_lt h1] at hx
          obtain ⟨y,hy,hry⟩:=c8 i x j c hx hc
          exact ⟨y,by simpa using hy,hry.mono (fun _ h=>h) (hsame _ fun k hk=>setRow_other w l.b k _ hk) (fun _ _ h=>h)⟩
        · have h1' : ¬ i * X.E.sz v + j < lo * X.E.sz v := Nat.not_lt.2 (mul' (by omega))
          rw [if_neg h1']
          rw [List.getElem?_append_right (by simp; omega)] at hx
          simp only [List.length_take,Nat.min_eq_left (show lo≤xs.length by omega)] at hx
          by_cases h2:i < lo+len
          · rw [if_pos (by rw [← Nat.add_mul]; exact mul h2)]
            rw [List.getElem?_append_left (by simp; omega),List.getElem?_replicate,if_pos (by omega)] at hx
            cases hx
            obtain ⟨y,hy,hry⟩:=hzr j c hc
            refine ⟨y,?_,hry _ _ _⟩
            have:=gJ z.cells len (i - lo) j (by rw [hzs]; exact hjl) (by omega)
            rw [hzs] at this
            rw [← hy,← this]
            congr 1
            rw [Nat.sub_mul]
            have:=Nat.mul_le_mul_right (X.E.sz v) (show lo≤i by omega)
            omega
          · rw [if_neg (by rw [← Nat.add_mul]; exact Nat.not_lt.2 (mul' (by omega)))]
            rw [List.getElem?_append_right (by simp; omega)] at hx
            simp only [List.length_replicate,List.getElem?_drop] at hx
            obtain ⟨y,hy,hry⟩:=c8 _ x j c hx hc
            refine ⟨y,?_,hry.mono (fun _ h=>h) (hsame _ fun k hk=>setRow_other w l.b k _ hk) (fun _ _ h=>h)⟩
            rw [List.getElem?_drop,← hy,Array.getElem?_toList]
            congr 1
            rw [← Nat.add_mul]
            have:=Nat.mul_le_mul_right (X.E.sz v) (show lo+len≤i by omega)
            rw [show lo+len+(i - lo - len)=i by omega]
            omega
    · cases hv
  · cases hv
theorem lK {P:Program} (w:World) (dT sT ty elem:TypeId) (g o dLen dCap:Nat) (a:Addr) (sLen sCap:Nat) (cur:Array Value) (t:TypeId) (cs:List Value) {ie:TypeInfo}
    (hu:P.underlying dT=some (.slice elem)) (hi:P.info? elem=some ie) (hg:w.heap[g]? = some (.cells cur t (0,0))) (hn:cs.length=Nat.min sLen dLen * ie.size)
    (hsrc:∀ j v,cs[j]? = some v→w.cell? (a.add j)=some v) (hfit:o+cs.length≤cur.size) (h1:∀ v∈cs,v.oneCell'=true) :
    (Builtin.copy_ #[dT,sT] ty #[.slice (some ⟨g,o,none⟩) dLen dCap,.slice (some a) sLen sCap]).run P w =
      .ok (goInt (Nat.min sLen dLen)) (w.setRow g (cur.toList.take o++cs++cur.toList.drop (o+cs.length)).toArray):=by
  have hl:=run_loadCells_list (P:=P) w a cs hsrc
  have hst:=run_storeCells_at P g o t cs 0 cur w hg (by simpa using hfit) h1
  simp [Builtin.copy_,run_underlying hu,Builtin.lenOf,Builtin.firstCells,sizeOf,typeInfo,hi,← hn,hl,hst]
theorem lL {P:Program} (w:World) (dT sT ty elem:TypeId) (da sa:Option Addr) (dLen dCap sLen sCap:Nat) {ie:TypeInfo} (hu:P.underlying dT=some (.slice elem)) (hi:P.info? elem=some ie) (hn:Nat.min sLen dLen=0) :
    (Builtin.copy_ #[dT,sT] ty #[.slice da dLen dCap,.slice sa sLen sCap]).run P w = .ok (goInt 0) w:=by
  cases da<;>cases sa<;>simp [Builtin.copy_,run_underlying hu,Builtin.lenOf,Builtin.firstCells,sizeOf,typeInfo,hi,hn,loadCells,loadCellsFrom,storeCells]
theorem Inv.same {h':az U El} (hi:Inv X B S0 w0 S ρ st a w) (hh:∀ j,ac h' j=ac st.h j):Inv X B S0 w0 S ρ ⟨st.t,h'⟩ a w :=
  ⟨hi.defers,hi.size,hi.below,hi.hB,hi.s0,hi.s1,hi.g0,hi.tmps,⟨fun j b h=>hi.heap.get j b (by rw [← hh]; exact h),fun i j b b' l l2 hgi hgj=>hi.heap.inj i j b b' l l2 (by rw [← hh]; exact hgi) (by rw [← hh]; exact hgj),hi.heap.lt⟩⟩
theorem mN {s x : Operand} {ty ty' : TypeId} {k : St U El → Option (Fin U El)} (hX : CtxOk P X) (ho : o.op = .call ⟨.builtin .copy, #[s, x], #[ty, ty']⟩) (hd : ∀ e, o.dst = some e → e < X.nt) (hi : Inv X B S0 w0 S ρ st a w)
    (hv:oT X o.dst ty (oget st.t s) (oget st.t x) st k=some r) {next:Act→World→Prop} {Q:Exit→Act→World→Prop}
    (hn:∀ st' a' w',StRel X B S0 w0 st' a' w'→k st'=some r→next a' w'):o.wp P a w next Q:=by
  have hs:Rel X.E S ρ w (oget st.t s) (a.eval s):=Rel.oget fun i _=>hi.tmps i
  have hxr:Rel X.E S ρ w (oget st.t x) (a.eval x):=Rel.oget fun i _=>hi.tmps i
  unfold oT at hv
  split at hv
  · rename_i u id lo len htd hse
    split at hv
    · rename_i v xs hg
      split at hv
      · rename_i ys hys
        obtain ⟨hck,hk⟩:=ae hv
        simp only [Bool.and_eq_true,nle,decide_eq_true_eq] at hck
        obtain ⟨rfl,hle⟩:=hck
        rw [hse] at hs
        obtain ⟨ao,cp,hxv,hsh⟩:=gX hX hi.heap hxr hys
        obtain ⟨ie,z,hi1,hsz,hby,hz,hzs,hzr⟩:=hX.u.info v
        have hu:=hX.td _ _ htd
        generalize hnn:Nat.min ys.length len=n at hk
        have hn1:n≤ys.length:=by rw [← hnn]; exact Nat.min_le_left _ _
        have hn2:n≤len:=by rw [← hnn]; exact Nat.min_le_right _ _
        have fin:∀ {cells w'},(Builtin.copy_ #[ty,ty'] o.type #[a.eval s,a.eval x]).run P w = .ok (goInt n) w'→cells=(⟨st.t,bM st.h id (.rows v (List.take lo xs++(List.take n ys++List.drop (lo+n) xs)))⟩:St U El)→Inv X B S0 w0 S ρ cells a w'→o.wp P a w next Q:=by
          intro cells w' hrun hcells hinv
          subst hcells
          have hexec:(execOp a.eval o).run P w = .ok (.value (goInt n)) w':=by
            unfold execOp
            simp only [ho,resolve,invoke,builtin,Sem.run_bind,Sem.run_pure,Result.andThen_ok,List.map_toArray,List.map_cons,List.map_nil,hrun]
          unfold Oper.wp
          rw [hexec]
          show next (a.put o.dst (goInt n)) w'
          exact hn _ _ _ ⟨S,ρ,hinv.put hd (Step.refl hinv.heap.lt) (.int _ _) (HRel.nil hinv.heap.lt _) (by simp [ac])⟩ hk
        by_cases hn0:n=0
        · subst hn0
          have hse2:∃ da dl dc,a.eval s = .slice da dl dc∧dl=len:=by
            generalize a.eval s=q at hs
            cases hs with
            | own=>exact ⟨_,_,_,rfl,rfl⟩
            | ownE=>exact ⟨_,_,_,rfl,rfl⟩
          obtain ⟨da,dl,dc,he,rfl⟩:=hse2
          refine fin (w':=w) ?_ rfl (hi.same fun j => ?_)
          · rw [he, hxv]
            exact lL w ty ty' o.type (X.E.tid v) da ao dl dc ys.length cp hu hi1 hnn
          · rw [bJ]
            by_cases e:j=id
            · subst e
              rw [if_pos rfl,hg]
              simp
            · rw [if_neg e]
        · obtain ⟨l, hl, hb⟩ := hi.heap.get _ _ hg
          have hb':=hb
          obtain ⟨c1,c2,c3,c4⟩:=hb
          have hpos:=hX.u.pos v
          have hln:l.n≠0:=by
            have:0 < xs.length * X.E.sz v:=Nat.mul_pos (by omega) hpos
            omega
          obtain ⟨c5,c6,cur,hh,c7,c8⟩:=c4 hln
          obtain ⟨ad,rfl,hshow⟩:=hsh (by rintro rfl; simp at hn1; omega)
          have hshow2:nL X.E S ρ w v (ys.take n) ad:=fun i y j c hi hj=>by
            rw [List.getElem?_take] at hi
            split at hi
            · exact hshow i y j c hi hj
            · cases hi
          obtain ⟨news,hnl,hnc,hno,hnr⟩:=gY hX hshow2
          have hnl2:news.length=n * X.E.sz v:=by rw [hnl,List.length_take,Nat.min_eq_left hn1]
          generalize hq:a.eval s=q at hs
          cases hs with
          | ownE _ _ ao cap=>omega
          | own _ _ _ cap l' hl' e1 e2 e3 =>
            rw [hl] at hl'; cases hl'
            have hfit:lo * l.s+news.length≤cur.size:=by
              rw [hnl2,c7,c1,← Nat.add_mul]
              exact Nat.le_trans (Nat.mul_le_mul_right _ (show lo+n≤xs.length by omega)) c3
            have hrun:=lK (P:=P) w ty ty' o.type (X.E.tid v) l.b (lo * l.s) len cap ad ys.length cp cur _ news hu hi1 hh (by rw [hnl2,hnn,hsz]) hnc hfit hno
            rw [hnn] at hrun
            refine fin (by rw [hq,hxv]; exact hrun) rfl (hi.setRow hg hl hb' hln hh ?_)
            have hylen:(List.take lo xs++(List.take n ys++List.drop (lo+n) xs)).length=xs.length:=by simp; omega
            have hsame:∀ W:World,(∀ k,k≠l.b→W.heap[k]? = w.heap[k]?)→∀ k,S k→W.heap[k]? = w.heap[k]? := fun W hW k hk=>hW k (by rintro rfl; exact c6 hk)
            refine ⟨c1,by rw [hylen]; exact c2,by rw [hylen]; exact c3,fun _=>⟨c5,c6,_,setRow_heap w l.b cur _ _ _ hh,by rw [hnl2] at hfit; simp only [List.size_toArray,List.length_append,List.length_take,List.length_drop,hnl2]; rw [Array.length_toList]; omega,fun i x j c hx hc => ?_⟩⟩
            have hjl:j < X.E.sz v:=by rw [← hX.u.len v x]; exact (List.getElem?_eq_some_iff.1 hc).1
            have mul:∀ {p q:Nat},p < q→p * X.E.sz v+j < q * X.E.sz v:=fun h=>by
              have:=Nat.mul_le_mul_right (X.E.sz v) (show _+1≤_ from h)
              rw [Nat.add_mul,Nat.one_mul] at this
              omega
            have mul':∀ {p q:Nat},q≤p→q * X.E.sz v≤p * X.E.sz v+j:=fun h=>Nat.le_trans (Nat.mul_le_mul_right _ h) (Nat.le_add_right _ _)
            have hil:i < xs.length:=by rw [← hylen]; exact (List.getElem?_eq_some_iff.1 hx).1
            rw [List.getElem?_toArray,c1,hnl2,dZ _ _ _ (lo * X.E.sz v) (by
              have:lo * X.E.sz v≤cur.size:=by rw [c7]; exact Nat.le_trans (Nat.mul_le_mul_right _ (show lo≤xs.length by omega)) c3
              simp; omega),hnl2]
            by_cases h1:i < lo
            · rw [if_pos (mul h1), List.getElem?_take_of_lt (mul h1)]
              rw [List.getElem?_append_left (by simp; omega),List.getElem?_take_of_lt h1] at hx
              obtain ⟨y,hy,hry⟩:=c8 i x j c hx hc
              exact ⟨y,by simpa using hy,hry.mono (fun _ h=>h) (hsame _ fun k hk=>setRow_other w l.b k _ hk) (fun _ _ h=>h)⟩
            · have h1' : ¬ i * X.E.sz v + j < lo * X.E.sz v := Nat.not_lt.2 (mul' (by omega))
              rw [if_neg h1']
              rw [List.getElem?_append_right (by simp; omega)] at hx
              simp only [List.length_take,Nat.min_eq_left (show lo≤xs.length by omega)] at hx
              by_cases h2:i < lo+n
              · rw [if_pos (by rw [← Nat.add_mul]; exact mul h2)]
                rw [List.getElem?_append_left (by simp; omega)] at hx
                obtain ⟨y,hy,hry⟩:=hnr _ x j c hx hc
                refine ⟨y,?_,hry.mono (fun _ h=>h) (hsame _ fun k hk=>setRow_other w l.b k _ hk) (fun _ _ h=>h)⟩
                rw [← hy]
                congr 1
                rw [Nat.sub_mul]
                have:=Nat.mul_le_mul_right (X.E.sz v) (show lo≤i by omega)
                omega
              · rw [if_neg (by rw [← Nat.add_mul]; exact Nat.not_lt.2 (mul' (by omega)))]
                rw [List.getElem?_append_right (by simp; omega)] at hx
                simp only [List.length_take,Nat.min_eq_left hn1,List.getElem?_drop] at hx
                obtain ⟨y,hy,hry⟩:=c8 _ x j c hx hc
                refine ⟨y,?_,hry.mono (fun _ h=>h) (hsame _ fun k hk=>setRow_other w l.b k _ hk) (fun _ _ h=>h)⟩
                rw [List.getElem?_drop,← hy,Array.getElem?_toList]
                congr 1
                rw [← Nat.add_mul]
                have:=Nat.mul_le_mul_right (X.E.sz v) (show lo+n≤i by omega)
                rw [show lo+n+(i - lo - n)=i by omega]
                omega
      · cases hv
    · cases hv
  · cases hv
end
end Go.Proofs.YtnofdcckddfooaaGreatDoor

namespace Go.Proofs.YtnofdcckddfooaaGreatDoor
set_option linter.unusedVariables false
set_option linter.unusedSectionVars false
set_option linter.unusedSimpArgs false
open Go.RowKit
section
variable {U:Type} {El:U→Type} {P:Program} {X:Ctx U El} {S S0:Nat→Prop} {ρ:Rho} {w w0:World} [DecidableEq U]
variable {a:Act} {st:St U El} {B:Bd} {r:Fin U El}
theorem Inv.learn {t':ba U El} (hi:Inv X B S0 w0 S ρ st a w) (ht:∀ i,Rel X.E S ρ w (aK t' i) (a.tmps.getD i undef)):Inv X B S0 w0 S ρ ⟨t',st.h⟩ a w :=
  ⟨hi.defers,hi.size,hi.below,hi.hB,hi.s0,hi.s1,hi.g0,ht,hi.heap⟩
theorem Inv.share {id : Nat} {l : Loc} {b0 : Blk U El} (hX : CtxOk P X) (hi : Inv X B S0 w0 S ρ st a w) (hg : ac st.h id = some b0) (hl : ρ id = some l) :
    Inv X B S0 w0 (fun b=>S b∨(l.n≠0∧b=l.b)) (ρ.del id) (st.forget id) a w:=by
  have hf:=hi.forget hX id
  obtain ⟨l0,e0,hb⟩:=hi.heap.get _ _ hg
  rw [hl] at e0; cases e0
  refine ⟨hf.defers,hf.size,hf.below,hf.hB,fun b h => .inl (hf.s0 b h),fun b h => ?_,hf.g0,fun i=>(hf.tmps i).mono (fun _ h => .inl h) (fun _ _=>rfl) (fun _ _ h=>h),⟨fun j b hgj => ?_,hf.heap.inj,fun b h => ?_⟩⟩
  · rcases h with h | ⟨hn, rfl⟩
    · exact hf.s1 b h
    · exact .inr (hb.lt hn).2.1
  · obtain ⟨l', hl', hb'⟩ := hf.heap.get j b hgj
    refine ⟨l',hl',hb'.mono (fun _ h => .inl h) (fun _ _=>rfl) (fun _ _ h=>h) fun hn=>⟨rfl,fun h => ?_⟩⟩
    rcases h with h | ⟨hn',e⟩
    · exact (hb'.lt hn).2.2 h
    · simp only [St.forget, cd, bE, Option.map_eq_some_iff] at hgj
      obtain ⟨b0,h0,_⟩:=hgj
      split at h0
      · cases h0
      · rename_i e1
        exact hi.heap.inj j id b0 _ l' l h0 hg e1 (by simpa [Rho.del,e1] using hl') hl hn hn' e
  · rcases h with h | ⟨hn, rfl⟩
    · exact hf.heap.lt b h
    · exact (hb.lt hn).1
theorem kf {id : Nat} {l : Loc} {u : U} {xs : List (El u)} {v : Value} {ρ' : Rho} (hX : CtxOk P X) (hb : BlkRel X.E S ρ w B l (.rows u xs)) (hl : ρ id = some l) (hr : Rel X.E S ρ w (.ful id) v) : Rel X.E (fun b => S b ∨ (l.n ≠ 0 ∧ b = l.b)) ρ' w (.lst u xs) v := by
  obtain ⟨h1,h2,h3,h4⟩:=hb
  cases hxs:xs with
  | nil =>
    cases hr with
    | fulN _ l' hl' _ _=>exact .lstE _ _ _
    | ful _ cap l' hl' e1 e2 =>
      rw [hl] at hl'; cases hl'
      rw [h2,hxs]
      exact .lstE _ _ _
  | cons x0 xs0 =>
    have hn:l.n≠0:=by
      have:=Nat.mul_pos (show 0 < xs.length by rw [hxs]; simp) (hX.u.pos u)
      omega
    obtain ⟨h5,h6,c,hh,h7,h8⟩:=h4 hn
    cases hr with
    | fulN _ l' hl' e1 _=>rw [hl] at hl'; cases hl'; exact absurd e1 hn
    | ful _ cap l' hl' e1 e2 =>
      rw [hl] at hl'; cases hl'
      rw [← hxs,h2] at *
      have hv:∀ i j,∃ vv,∀ x c',xs[i]? = some x→(X.E.enc u x)[j]? = some c'→c[i * X.E.sz u+j]? = some vv∧Rel X.E S ρ w c' vv:=fun i j=>by
        cases hx:xs[i]? with
        | none=>exact ⟨undef,fun x c h=>by cases h⟩
        | some x =>
          cases hc:(X.E.enc u x)[j]? with
          | none=>exact ⟨undef,fun x' c h h'=>by cases h; rw [hc] at h'; cases h'⟩
          | some c' =>
            obtain ⟨vv,h9,h10⟩:=h8 i x j c' hx hc
            exact ⟨vv,fun x' c'' h h'=>by cases h; rw [hc] at h'; cases h'; exact ⟨h9,h10⟩⟩
      refine .lst u xs l.b 0 cap (fun i j=>Classical.choose (hv i j)) (.inr ⟨hn,rfl⟩) e2 (fun i x j c' hx hc => ?_) fun i x j c' hx hc => ?_
      · rw [Nat.zero_add, cell_of_row w l.b _ c _ (0, 0) hh]
        exact (Classical.choose_spec (hv i j) x c' hx hc).1
      · exact ((Classical.choose_spec (hv i j) x c' hx hc).2.mono (fun _ h => .inl h) (fun _ _=>rfl) (fun _ _ h=>h)).cellρ hX.u (hX.u.cell u x c' (List.mem_of_getElem? hc))
theorem u9 {id:Nat} {l:Loc} {u v:U} {es:List (El u×El v)} {vv:Value} {ρ':Rho} (hX:CtxOk P X) (hb:BlkRel X.E S ρ w B l (.map u v es)) (hl:ρ id=some l) (hr:Rel X.E S ρ w (.mp id) vv):Rel X.E (fun b=>S b∨(l.n≠0∧b=l.b)) ρ' w (.fmp u v es) vv:=by
  obtain ⟨h1,h2,h3,ents,clock,h4,h5,h6⟩:=hb
  cases hr with
  | mp _ l' hl' =>
    rw [hl] at hl'; cases hl'
    exact .fmp u v es l.b ents clock (.inr ⟨by omega,rfl⟩) h4 h5 (fun i e p hi hp=>⟨(h6 i e p hi hp).1.fit.1,(h6 i e p hi hp).2.fit.1⟩)
      (fun i e p j c x hi hp hc hx=>(((h6 i e p hi hp).1.fit.2 j c x hc hx).mono (fun _ h => .inl h) (fun _ _=>rfl) (fun _ _ h=>h)).cellρ hX.u (hX.u.cell u p.1 c (List.mem_of_getElem? hc)))
      (fun i e p j c x hi hp hc hx=>(((h6 i e p hi hp).2.fit.2 j c x hc hx).mono (fun _ h => .inl h) (fun _ _=>rfl) (fun _ _ h=>h)).cellρ hX.u (hX.u.cell v p.2 c (List.mem_of_getElem? hc)))
theorem ub {id lo len : Nat} {l : Loc} {u : U} {xs : List (El u)} {v : Value} {ρ' : Rho} (hX : CtxOk P X) (hb : BlkRel X.E S ρ w B l (.rows u xs)) (hl : ρ id = some l) (hle : lo + len ≤ xs.length) (hr : Rel X.E S ρ w (.own id lo len) v) : Rel X.E (fun b => S b ∨ (l.n ≠ 0 ∧ b = l.b)) ρ' w (.lst u ((xs.drop lo).take len)) v := by
  obtain ⟨h1,h2,h3,h4⟩:=hb
  have hlen:((xs.drop lo).take len).length=len:=by simp; omega
  cases hr with
  | ownE _ _ ao cap=>rw [List.take_zero]; exact .lstE _ _ _
  | own _ _ _ cap l' hl' e1 e2 e3 =>
    rw [hl] at hl'; cases hl'
    by_cases h0:len=0
    · subst h0; rw [List.take_zero]; exact .lstE _ _ _
    · have hn : l.n ≠ 0 := by
        have:=Nat.mul_pos (show 0 < xs.length by omega) (hX.u.pos u)
        omega
      obtain ⟨h5,h6,c,hh,h7,h8⟩:=h4 hn
      have ac:∀ i x,((xs.drop lo).take len)[i]? = some x→xs[lo+i]? = some x:=fun i x h=>by
        rw [List.getElem?_take] at h
        split at h
        · rw [List.getElem?_drop] at h; exact h
        · cases h
      have hv:∀ i j,∃ vv,∀ x c',((xs.drop lo).take len)[i]? = some x→(X.E.enc u x)[j]? = some c'→c[(lo+i) * X.E.sz u+j]? = some vv∧Rel X.E S ρ w c' vv:=fun i j=>by
        cases hx:((xs.drop lo).take len)[i]? with
        | none=>exact ⟨undef,fun x c h=>by cases h⟩
        | some x =>
          cases hc:(X.E.enc u x)[j]? with
          | none=>exact ⟨undef,fun x' c h h'=>by cases h; rw [hc] at h'; cases h'⟩
          | some c' =>
            obtain ⟨vv,h9,h10⟩:=h8 (lo+i) x j c' (ac i x hx) hc
            exact ⟨vv,fun x' c'' h h'=>by cases h; rw [hc] at h'; cases h'; exact ⟨h9,h10⟩⟩
      have key:=Rel.lst (E:=X.E) (S:=fun b=>S b∨(l.n≠0∧b=l.b)) (ρ:=ρ') (w:=w) u ((xs.drop lo).take len) l.b (lo * X.E.sz u) cap (fun i j=>Classical.choose (hv i j)) (.inr ⟨hn,rfl⟩) (by rw [hlen]; exact e2) (fun i x j c' hx hc=>by
        rw [show lo * X.E.sz u+i * X.E.sz u+j=(lo+i) * X.E.sz u+j by rw [Nat.add_mul],cell_of_row w l.b _ c _ (0,0) hh]
        exact (Classical.choose_spec (hv i j) x c' hx hc).1) (fun i x j c' hx hc=>((Classical.choose_spec (hv i j) x c' hx hc).2.mono (fun _ h => .inl h) (fun _ _=>rfl) (fun _ _ h=>h)).cellρ hX.u (hX.u.cell u x c' (List.mem_of_getElem? hc)))
      rw [hlen,← h1] at key
      exact key
theorem fS {s : Nat} {u : U} {k : St U El → Option (Fin U El)} (hX : CtxOk P X) (hs : StRel X B S0 w0 st a w) (hv : ij st s u k = some r) : ∃ st', StRel X B S0 w0 st' a w ∧ k st' = some r := by
  obtain ⟨S,ρ,hi⟩:=hs
  unfold ij at hv
  split at hv
  · exact ⟨st,⟨S,ρ,hi⟩,hv⟩
  · rename_i he
    refine ⟨_,⟨S,ρ,hi.learn (t':=(s,.lst u []) :: st.t) fun i => ?_⟩,hv⟩
    simp only [aK]
    by_cases e:s=i
    · subst e
      rw [Nat.beq_refl]
      have:=hi.tmps s
      rw [he] at this
      generalize a.tmps.getD s undef=q at this ⊢
      cases this
      exact .lstE _ _ _
    · rw [ah e]; exact hi.tmps i
  · rename_i id he
    split at hv
    · rename_i v xs hg
      obtain ⟨l,hl,hb⟩:=hi.heap.get _ _ hg
      have hsh:=hi.share hX hg hl
      refine ⟨_,⟨_,_,hsh.learn (t':=(s,.lst v xs) :: (st.forget id).t) fun i => ?_⟩,hv⟩
      simp only [aK]
      by_cases e:s=i
      · subst e
        rw [Nat.beq_refl]
        have:=hi.tmps s
        rw [he] at this
        exact kf hX hb hl this
      · rw [ah e]; exact hsh.tmps i
    · cases hv
  · rename_i id lo len he
    split at hv
    · rename_i v xs hg
      obtain ⟨hck,hv⟩:=ae hv
      obtain ⟨l,hl,hb⟩:=hi.heap.get _ _ hg
      have hsh:=hi.share hX hg hl
      refine ⟨_,⟨_,_,hsh.learn (t':=(s,.lst v ((xs.drop lo).take len)) :: (st.forget id).t) fun i => ?_⟩,hv⟩
      simp only [aK]
      by_cases e:s=i
      · subst e
        rw [Nat.beq_refl]
        have:=hi.tmps s
        rw [he] at this
        exact ub hX hb hl (by simpa [nle] using hck) this
      · rw [ah e]; exact hsh.tmps i
    · cases hv
  · exact ⟨st,⟨S,ρ,hi⟩,hv⟩
  · exact ⟨st,⟨S,ρ,hi⟩,hv⟩
  · rename_i id he
    split at hv
    · rename_i u v es hg
      obtain ⟨l,hl,hb⟩:=hi.heap.get _ _ hg
      have hsh:=hi.share hX hg hl
      refine ⟨_,⟨_,_,hsh.learn (t':=(s,.fmp u v es) :: (st.forget id).t) fun i => ?_⟩,hv⟩
      simp only [aK]
      by_cases e:s=i
      · subst e
        rw [Nat.beq_refl]
        have:=hi.tmps s
        rw [he] at this
        exact u9 hX hb hl this
      · rw [ah e]; exact hsh.tmps i
    · cases hv
  · cases hv
theorem fG {s off : Nat} {u : U} {k : St U El → Option (Fin U El)} (hX : CtxOk P X) (hs : StRel X B S0 w0 st a w) (hv : gn st s off u k = some r) : ∃ st', StRel X B S0 w0 st' a w ∧ k st' = some r := by
  obtain ⟨S,ρ,hi⟩:=hs
  unfold gn at hv
  split at hv
  · rename_i cs he
    have hts:=hi.tmps s
    rw [he] at hts
    generalize hq:a.tmps.getD s undef=q at hts
    cases hts with
    | agg _ vs hlen hrel =>
      split at hv
      · exact ⟨st,⟨S,ρ,hi⟩,hv⟩
      · rename_i hc
        have hol:off < cs.length:=(List.getElem?_eq_some_iff.1 hc).1
        refine ⟨_,⟨S,ρ,hi.learn (t':=(s,.agg (cs.set off (.lst u []))) :: st.t) fun i => ?_⟩,hv⟩
        simp only [aK]
        by_cases e:s=i
        · subst e
          rw [Nat.beq_refl,hq]
          refine .agg _ vs (by simp [hlen]) fun m c v hm hv' => ?_
          by_cases em:m=off
          · subst em
            rw [List.getElem?_set_self hol] at hm
            cases hm
            have:=hrel m _ v hc hv'
            cases this
            exact .lstE _ _ _
          · rw [List.getElem?_set_ne (Ne.symm em)] at hm
            exact hrel m c v hm hv'
        · rw [ah e]; exact hi.tmps i
      · rename_i id hc
        split at hv
        · rename_i v xs hg
          have hol:off < cs.length:=(List.getElem?_eq_some_iff.1 hc).1
          obtain ⟨l,hl,hb⟩:=hi.heap.get _ _ hg
          have hsh:=hi.share hX hg hl
          refine ⟨_,⟨_,_,hsh.learn (t':=(s,.agg ((cs.map (AV.kill id)).set off (.lst v xs))) :: (st.forget id).t) fun i => ?_⟩,hv⟩
          simp only [aK]
          by_cases e:s=i
          · subst e
            rw [Nat.beq_refl,hq]
            refine .agg _ vs (by simp [hlen]) fun m c v' hm hv' => ?_
            by_cases em:m=off
            · subst em
              rw [List.getElem?_set_self (by simpa using hol)] at hm
              cases hm
              exact kf hX hb hl (hrel m _ v' hc hv')
            · rw [List.getElem?_set_ne (Ne.symm em)] at hm
              simp only [List.getElem?_map,Option.map_eq_some_iff] at hm
              obtain ⟨c0,hc0,rfl⟩:=hm
              exact ((hrel m c0 v' hc0 hv').kill hX.u id).mono (fun _ h => .inl h) (fun _ _=>rfl) (fun _ _ h=>h)
          · rw [ah e]; exact hsh.tmps i
        · exact ⟨st,⟨S,ρ,hi⟩,hv⟩
      · exact ⟨st,⟨S,ρ,hi⟩,hv⟩
  · exact ⟨st,⟨S,ρ,hi⟩,hv⟩
theorem j0 (hX : CtxOk P X) {s : Nat} : ∀ (l : List Nat) (st : St U El) (k : St U El → Option (Fin U El)), StRel X B S0 w0 st a w → dp st s l k = some r → ∃ st', StRel X B S0 w0 st' a w ∧ k st' = some r := by
  intro l
  induction l with
  | nil=>intro st k hs hv; exact ⟨st,hs,hv⟩
  | cons off l ih =>
    intro st k hs hv
    unfold dp at hv
    split at hv
    · split at hv
      · split at hv
        · obtain ⟨st1, h1, h2⟩ := fG hX hs hv
          exact ih st1 k h1 h2
        · exact ih st k hs hv
      · exact ih st k hs hv
    · exact ih st k hs hv
theorem cn (hX:CtxOk P X) {s:Nat} {k:St U El→Option (Fin U El)} (hs:StRel X B S0 w0 st a w) (hv:dq st s k=some r):∃ st',StRel X B S0 w0 st' a w∧k st'=some r:=by
  unfold dq at hv
  split at hv
  · split at hv
    · exact fS hX hs hv
    · exact ⟨st,hs,hv⟩
  · exact j0 hX _ st k hs hv
  · exact ⟨st,hs,hv⟩
theorem jc (hX:CtxOk P X):∀ (l:List (Nat×Operand)) (st:St U El) (k:St U El→Option (Fin U El)),StRel X B S0 w0 st a w→fj st l k=some r→∃ st',StRel X B S0 w0 st' a w∧k st'=some r:=by
  intro l
  induction l with
  | nil=>intro st k hs hv; exact ⟨st,hs,hv⟩
  | cons p l ih =>
    intro st k hs hv
    obtain ⟨i,o⟩:=p
    cases o with
    | tmp s =>
      obtain ⟨st1,h1,h2⟩:=cn hX hs hv
      exact ih st1 k h1 h2
    | const v=>exact ih st k hs hv
    | global g=>exact ih st k hs hv
    | func f=>exact ih st k hs hv
theorem ef {o:Oper} {k:St U El→Option (Fin U El)} (hX:CtxOk P X) (hs:StRel X B S0 w0 st a w) (hv:dF o st k=some r):∃ st',StRel X B S0 w0 st' a w∧k st'=some r:=by
  unfold dF at hv
  split at hv
  · split at hv
    · exact cn hX hs hv
    · exact ⟨st,hs,hv⟩
  · exact jc hX _ st k hs hv
  · exact cn hX hs hv
  · exact cn hX hs hv
  · exact ⟨st,hs,hv⟩
end
end Go.Proofs.YtnofdcckddfooaaGreatDoor

namespace Go.Proofs.YtnofdcckddfooaaGreatDoor
set_option linter.unusedVariables false
set_option linter.unusedSectionVars false
set_option linter.unusedSimpArgs false
open Go.RowKit
section
variable {U:Type} {El:U→Type} {P:Program} {X:Ctx U El} {S S0:Nat→Prop} {ρ:Rho} {w w0:World} [DecidableEq U]
variable {o:Oper} {a:Act} {st:St U El} {B:Bd} {d:Nat} {r:Fin U El}
theorem nN (hg : UGood P X.E) (u : U) : ∀ (n : Nat) (cs : List (AV U El)) (xs : List (El u)), j9 X.E u n cs = some xs →
    xs.length=n∧∀ (i:Nat) x (j:Nat) c,xs[i]? = some x→(X.E.enc u x)[j]? = some c→∃ c',cs[i * X.E.sz u+j]? = some c'∧(c'=c∨(c' = .nils∧∃ u',c = .lst u' [])):=by
  intro n
  induction n with
  | zero=>intro cs xs h; cases h; exact ⟨rfl,fun i x j c hx=>by simp at hx⟩
  | succ n ih =>
    intro cs xs h
    simp only [j9] at h
    split at h
    · rename_i y hy
      split at h
      · rename_i ys hys
        cases h
        obtain ⟨h1,h2⟩:=ih _ _ hys
        obtain ⟨h3,h4⟩:=hg.dec _ _ _ hy
        refine ⟨by simp [h1],fun i x j c hx hc => ?_⟩
        have hj:j < X.E.sz u:=by
          rw [← hg.len u x]
          exact (List.getElem?_eq_some_iff.1 hc).1
        cases i with
        | zero =>
          cases hx
          obtain ⟨c',e1,e2⟩:=h4 j c hc
          refine ⟨c',?_,e2⟩
          rw [List.getElem?_take_of_lt hj] at e1
          simpa using e1
        | succ i =>
          obtain ⟨c',e1,e2⟩:=h2 i x j c (by simpa using hx) hc
          refine ⟨c',?_,e2⟩
          rw [List.getElem?_drop] at e1
          rw [← e1]
          congr 1
          rw [Nat.add_mul]
          omega
      · cases h
    · cases h
theorem nO {ty : TypeId} {x : Operand} {k : St U El → Option (Fin U El)} (hX : CtxOk P X) (ho : o.op = .slice ty x none none none) (hd : o.dst = some d) (hi : Inv X B S0 w0 S ρ st a w) (hv : r5 X d ty (oget st.t x) st k = some r) {next : Act → World → Prop} {Q : Exit → Act → World → Prop}
    (hn:∀ st' a' w',StRel X B S0 w0 st' a' w'→k st'=some r→next a' w'):o.wp P a w next Q:=by
  have hxr:Rel X.E S ρ w (oget st.t x) (a.eval x):=Rel.oget fun i _=>hi.tmps i
  unfold r5 at hv
  split at hv
  · rename_i n es ea sz u id htd hau hx
    split at hv
    · rename_i tg cs hg
      obtain ⟨hck,hv1⟩:=ae hv
      simp only [Bool.and_eq_true] at hck
      obtain ⟨c1,c2,c3,c4⟩:=hck
      have c1:=Nat.eq_of_beq_eq_true c1
      have c2:=Nat.eq_of_beq_eq_true c2
      have c3:0 < n:=Nat.le_of_ble_eq_true c3
      have c4:d < X.nt:=Nat.le_of_ble_eq_true c4
      split at hv1
      · rename_i xs hxs
        rw [hx] at hxr
        generalize hq:a.eval x=q at hxr
        cases hxr with
        | ptr _ _ l hl =>
          obtain ⟨l',hl',hb⟩:=hi.heap.get _ _ hg
          rw [hl] at hl'; cases hl'
          have hb0:=hb
          obtain ⟨_,h2,h3⟩:=hb
          obtain ⟨e,hu,_,⟨inf,hinf,hsz⟩,_⟩:=hX.td _ _ htd
          obtain ⟨hlen,ac⟩:=nN hX.u u n cs xs hxs
          have hes:0 < es:=by rw [← c1]; exact hX.u.pos u
          have hn0:l.n≠0:=by
            have:=Nat.mul_pos c3 hes
            omega
          obtain ⟨h4,h5,c,ce,hh,h6,h7⟩:=h3 hn0
          have hsh:=hi.share hX hg hl
          have hrun:(execOp a.eval o).run P w = .ok (.value (.slice (some ⟨l.b,0,none⟩) n n)) w:=by
            have hn0':¬ n=0:=by omega
            simp [execOp,ho,Instr.sliceAt,run_underlying hu,Instr.sureAddr,hq,Instr.sliceBounds,cE hinf,hn0',bP]
          unfold Oper.wp
          rw [hrun]
          show next (a.put o.dst _) w
          refine hn _ _ _ ⟨fun b=>S b∨(l.n≠0∧b=l.b),ρ.del id,?_⟩ hv1
          refine ⟨by rw [hd]; exact hsh.defers,by rw [hd]; simp [Act.put,hi.size],hsh.below,hsh.hB,hsh.s0,hsh.s1,hsh.g0,?_,hsh.heap⟩
          have hv2:∀ i j,∃ vv,∀ x c',xs[i]? = some x→(X.E.enc u x)[j]? = some c'→c[i * X.E.sz u+j]? = some vv∧Rel X.E S ρ w c' vv:=fun i j=>by
            cases hxi:xs[i]? with
            | none=>exact ⟨undef,fun x c h=>by cases h⟩
            | some y =>
              cases hc:(X.E.enc u y)[j]? with
              | none=>exact ⟨undef,fun x' c h h'=>by cases h; rw [hc] at h'; cases h'⟩
              | some c' =>
                obtain ⟨c0,e1,e2⟩:=ac i y j c' hxi hc
                obtain ⟨vv,e3,e4⟩:=h7 _ _ e1
                refine ⟨vv,fun x' c'' h h' => ?_⟩
                cases h
                rw [hc] at h'
                cases h'
                refine ⟨e3,?_⟩
                rcases e2 with rfl | ⟨rfl,u',rfl⟩
                · exact e4
                · cases e4
                  exact .lstE _ _ _
          have hr:Rel X.E (fun b=>S b∨(l.n≠0∧b=l.b)) (ρ.del id) w (.lst u xs) (.slice (some ⟨l.b,0,none⟩) n n):=by
            have:=Rel.lst (E:=X.E) (S:=fun b=>S b∨(l.n≠0∧b=l.b)) (ρ:=ρ.del id) (w:=w) u xs l.b 0 n (fun i j=>Classical.choose (hv2 i j)) (.inr ⟨hn0,rfl⟩) (by omega) (fun i x j c' hx hc=>by
              rw [Nat.zero_add,cell_of_row w l.b _ c _ (0,0) hh]
              exact (Classical.choose_spec (hv2 i j) x c' hx hc).1) (fun i x j c' hx hc=>((Classical.choose_spec (hv2 i j) x c' hx hc).2.mono (fun _ h => .inl h) (fun _ _=>rfl) (fun _ _ h=>h)).cellρ hX.u (hX.u.cell u x c' (List.mem_of_getElem? hc)))
            rw [hlen] at this
            exact this
          have:=dH (d:=o.dst) (v := .slice (some ⟨l.b,0,none⟩) n n) (av := .lst u xs) (fun e he=>by rw [hi.size]; rw [hd] at he; cases he; exact c4) hsh.tmps hr
          rw [hd] at this ⊢
          exact this
      · cases hv1
    · cases hv
  · cases hv
end
end Go.Proofs.YtnofdcckddfooaaGreatDoor

namespace Go.Proofs.YtnofdcckddfooaaGreatDoor
set_option linter.unusedVariables false
set_option linter.unusedSectionVars false
set_option linter.unusedSimpArgs false
open Go.RowKit
section
variable {U:Type} {El:U→Type} {P:Program} {X:Ctx U El} {S S0:Nat→Prop} {ρ:Rho} {w w0:World} [DecidableEq U]
variable {o:Oper} {a:Act} {st:St U El} {B:Bd} {d:Nat} {r:Fin U El}
theorem dX {k:St U El→Option (Fin U El)} (hX:CtxOk P X) (hi:Inv X B S0 w0 S ρ st a w) (hv:iZ X o st k=some r) {next:Act→World→Prop} {Q:Exit→Act→World→Prop}
    (hn:∀ st' a' w',StRel X B S0 w0 st' a' w'→k st'=some r→next a' w'):o.wp P a w next Q:=by
  unfold iZ at hv
  dsimp only at hv
  obtain ⟨hck,hv1⟩:=ae hv
  have hi0:=hi.forgets hX (aU o (o.dst.getD 999))
  obtain ⟨out,hk,hdone⟩:=fq (B:=B) (H:=(st.forgets (aU o (o.dst.getD 999))).h) hX hv1 (fun i _=>hi0.tmps i) hi0.heap (fun _ _ h=>h) (fun j hj=>eW _ _ j (.inr hj)) (hi0.g0 _ hi0.below)
  refine hdone next Q fun v w' S' ρ' hst hr hN hids hρ=>hn _ _ _ ⟨S',ρ',hi0.put (fun e he => ?_) hst hr hN (fun id b hg=>eW _ _ id (.inr (hids id b hg)))⟩ hk
  rw [he] at hck
  exact Nat.le_of_ble_eq_true hck
def dm (P : Program) (X : Ctx U El) (g : FuncId) (sp : Nat → List (AV U El) → St U El → (AV U El → St U El → Option (Fin U El)) → Option (Fin U El)) : Prop :=
  (∀ as w,(callFunc g as).run P w = .ok (.enter g as) w) ∧
  ∀ {B : Bd} {S0 : Nat → Prop} {w0 : World} {S : Nat → Prop} {ρ : Rho} {st : St U El} {a : Act} {w : World} {d : Nat} {args : List (AV U El)} {vs : Array Value} {k : AV U El → St U El → Option (Fin U El)} {r : Fin U El},
    Inv X B S0 w0 S ρ st a w→dW X.E S ρ w args vs→sp d args st k=some r →
    Calls P g vs w fun e w'=>∃ v res st' S' ρ',e = .returned v∧k res st'=some r∧Inv X B S0 w0 S' ρ' st' a w'∧Rel X.E S' ρ' w' res v
def MOk (P:Program) (X:Ctx U El):Prop:=∀ g sp,X.mspec g=some sp→dm P X g sp
theorem mO {n:Nat} {eq:Bool} {k:Bool→Option (Fin U El)} (h:ii n eq k=some r):(0 < n∧k (!eq)=some r)∨(n=0∧∀ b,k b=some r):=by
  unfold ii at h
  cases hn:nlt 0 n with
  | true=>rw [hn] at h; exact .inl ⟨of_decide_eq_true hn,h⟩
  | false =>
    rw [hn] at h
    obtain ⟨h1,h2⟩:=rY h
    exact .inr ⟨by have:¬ 0 < n:=of_decide_eq_false hn; omega,fun b=>by cases b; exact h2; exact h1⟩
theorem nP {t e:TypeId} (d cap:Nat) (hu:P.underlying t=some (.slice e)):(Op.equalIn (d+1) t (.slice none 0 cap) (.slice none 0 0)).run P w = .ok true w:=by
  simp [Op.equalIn,run_underlying hu]
theorem pb {x:AV U El} {v:Value} {n:Nat} (hi:Inv X B S0 w0 S ρ st a w) (hr:Rel X.E S ρ w x v) (h:mE st.h x=some n):∃ ao cap,v = .slice ao n cap∧(0 < n→∃ a,ao=some a):=by
  unfold mE at h
  split at h
  · cases h
    cases hr with
    | lstE=>exact ⟨_,_,rfl,fun h=>absurd h (by simp)⟩
    | lst=>exact ⟨_,_,rfl,fun _=>⟨_,rfl⟩⟩
  · rename_i id
    split at h
    · rename_i u xs hg
      cases h
      obtain ⟨l,hl,h1,h2,h3,h4⟩:=hi.heap.get _ _ hg
      cases hr with
      | ful _ cap l' hl' e1 e2=>rw [hl] at hl'; cases hl'; exact ⟨_,cap,by rw [h2],fun _=>⟨_,rfl⟩⟩
      | fulN _ l' hl' e1 e2=>rw [hl] at hl'; cases hl'; rw [e2] at h2; exact ⟨none,0,by rw [← h2],fun h=>by omega⟩
    · cases h
  · cases h
theorem gK {k : St U El → Option (Fin U El)} {op : BinOp} {ty yt : TypeId} {x y : Operand} {n d : Nat} {eq : Bool} (hX : CtxOk P X) (ho : o.op = .binOp op ty x y yt) (hop : op = if eq then .eql else .neq) (hi : Inv X B S0 w0 S ρ st a w) (hy : oget st.t y = .nils) (hl : mE st.h (oget st.t x) = some n) (hd : o.dst = some d) (hdn : d < X.nt)
    (hb:fM X ty y (.nils:AV U El)=true) (hv:ii n eq (fun b=>k ⟨(d,.bool b) :: st.t,st.h⟩)=some r) {next:Act→World→Prop} {Q:Exit→Act→World→Prop} (hn:∀ st' a' w',StRel X B S0 w0 st' a' w'→k st'=some r→next a' w'):o.wp P a w next Q:=by
  have hxr:Rel X.E S ρ w (oget st.t x) (a.eval x):=Rel.oget fun i _=>hi.tmps i
  have hyr:Rel X.E S ρ w (oget st.t y) (a.eval y):=Rel.oget fun i _=>hi.tmps i
  obtain ⟨ao,cap,hxv,hne⟩:=pb hi hxr hl
  rw [hy] at hyr
  generalize hqy:a.eval y=q at hyr
  cases hyr
  unfold fM at hb
  simp only at hb
  split at hb
  case h_2=>cases hb
  rename_i u htd
  have hu:P.underlying ty=some (.slice (X.E.tid u)):=hX.td _ _ htd
  have hgd:(eqGuard op ty x y (.slice ao n cap) (.slice none 0 0)).run P w = .ok () w:=by cases op<;>rfl
  have fin:∀ b:Bool,(binOp op ty (.slice ao n cap) (.slice none 0 0)).run P w = .ok (.bool b) w→k ⟨(d,.bool b) :: st.t,st.h⟩=some r→o.wp P a w next Q:=fun b hrun hk=>by
    unfold Oper.wp
    have:(execOp a.eval o).run P w = .ok (.value (.bool b)) w:=by simp [execOp,ho,hxv,hqy,hgd,hrun]
    rw [this]
    show next (a.put o.dst (.bool b)) w
    refine hn _ _ _ ⟨S,ρ,?_⟩ hk
    refine ⟨by rw [hd]; exact hi.defers,by rw [hd]; simp [Act.put,hi.size],hi.below,hi.hB,hi.s0,hi.s1,hi.g0,?_,hi.heap⟩
    have:=dH (d:=o.dst) (v := .bool b) (av := .bool b) (fun e he=>by rw [hi.size]; rw [hd] at he; cases he; exact hdn) hi.tmps (.bool b)
    rw [hd] at this ⊢
    exact this
  have hb2:∃ b0:Bool,(binOp op ty (.slice ao n cap) (.slice none 0 0)).run P w = .ok (.bool b0) w∧(0 < n→b0 = !eq):=by
    subst hop
    cases ao with
    | none =>
      have hn0:n=0:=by
        rcases Nat.eq_zero_or_pos n with h | h
        · exact h
        · obtain ⟨_,h⟩:=hne h; cases h
      subst hn0
      cases eq
      · exact ⟨_,cL rfl (nP _ cap hu),fun h=>by omega⟩
      · exact ⟨_,cK rfl (nP _ cap hu),fun h=>by omega⟩
    | some ao =>
      cases eq
      · exact ⟨_,cL rfl (ke _ ao n cap hu),fun _=>rfl⟩
      · exact ⟨_,cK rfl (ke _ ao n cap hu),fun _=>rfl⟩
  obtain ⟨b0,hrun,hb0⟩:=hb2
  rcases mO hv with ⟨h1,h2⟩ | ⟨_,h2⟩
  · exact fin b0 hrun (by rw [hb0 h1]; exact h2)
  · exact fin b0 hrun (h2 b0)
theorem cF {k:St U El→Option (Fin U El)} (hX:CtxOk P X) (hM:MOk P X) (hi:Inv X B S0 w0 S ρ st a w) (hv:fi X o st k=some r) {next:Act→World→Prop} {Q:Exit→Act→World→Prop}
    (hn:∀ st' a' w',StRel X B S0 w0 st' a' w'→k st'=some r→next a' w'):o.wp P a w next Q:=by
  unfold fi at hv
  split at hv
  · rename_i ty p v ho
    split at hv
    · rename_i hd; exact lH hX ho hi hv (fun e he=>by rw [hd] at he; cases he) hn
    · cases hv
  · rename_i op ty x y yt ho
    split at hv
    · rename_i n d hy hl hd
      obtain ⟨hck,hv1⟩:=ae hv
      simp only [Bool.and_eq_true] at hck
      exact gK (eq:=true) hX ho rfl hi hy hl hd (Nat.le_of_ble_eq_true hck.2) hck.1 hv1 hn
    · rename_i n d hy hl hd
      obtain ⟨hck,hv1⟩:=ae hv
      simp only [Bool.and_eq_true] at hck
      exact gK (eq:=false) hX ho rfl hi hy hl hd (Nat.le_of_ble_eq_true hck.2) hck.1 hv1 hn
    · exact dX hX hi hv hn
  · rename_i ty x ho
    split at hv
    · rename_i htd hd; exact nO hX ho hd hi hv hn
    · exact dX hX hi hv hn
  · rename_i ty m i v ho
    split at hv
    · rename_i hd; exact fR hX (.inl ho) hi hv hd fun st' w' _ hinv hk=>hn st' a w' ⟨S,ρ,hinv⟩ hk
    · cases hv
  · rename_i ty m i v ho
    split at hv
    · rename_i hd; exact fR hX (.inr ho) hi hv hd fun st' w' _ hinv hk=>hn st' a w' ⟨S,ρ,hinv⟩ hk
    · cases hv
  · rename_i as ts ho
    split at hv
    · rename_i s x ty ty' d has hts hd
      obtain ⟨hck,hv1⟩:=ae hv
      simp only [Bool.and_eq_true] at hck
      obtain rfl:=Nat.eq_of_beq_eq_true hck.1
      have ha:as=#[s,x]:=by apply Array.ext'; simpa using has
      have ht:ts=#[ty,ty]:=by apply Array.ext'; simpa using hts
      subst ha ht
      exact kE hX ho hd (Nat.le_of_ble_eq_true hck.2) hi hv1 hn
    · cases hv
  · rename_i as ts ho
    split at hv
    · rename_i s ty has hts hd
      have ha:as=#[s]:=by apply Array.ext'; simpa using has
      have ht:ts=#[ty]:=by apply Array.ext'; simpa using hts
      subst ha ht
      exact lJ (as:=#[s]) (ts:=#[ty]) hX ho hd hi hv hn
    · cases hv
  · rename_i as ts ho
    split at hv
    · rename_i s x ty ty' has hts
      obtain ⟨hck,hv1⟩:=ae hv
      have ha:as=#[s,x]:=by apply Array.ext'; simpa using has
      have ht:ts=#[ty,ty']:=by apply Array.ext'; simpa using hts
      subst ha ht
      exact mN hX ho (fun e he=>by rw [he] at hck; exact Nat.le_of_ble_eq_true hck) hi hv1 hn
    · cases hv
  · rename_i f as ts ho
    have hf:Rel X.E S ρ w (oget st.t f) (a.eval f):=Rel.oget fun i _=>hi.tmps i
    split at hv
    · rename_i g first caps hfe
      split at hv
      · rename_i sp hsp
        obtain ⟨hck,hv1⟩:=ae hv
        obtain ⟨hcall,hspec⟩:=hM g sp hsp
        rw [hfe] at hf
        generalize hq:a.eval f=q at hf
        cases hf with
        | fn _ _ _ vf vc hlf hlc hrf hrc =>
          have hrun:(execOp a.eval o).run P w = .ok (.enter g (vf++as.map a.eval++vc)) w:=by
            simp [execOp,ho,resolve,Deferred.ofValue,hq,invoke,hcall]
          have hraw:dW X.E S ρ w (first++as.toList.map (oget st.t)++caps) (vf++as.map a.eval++vc):=by
            refine ⟨by simp [hlf,hlc],fun i c v hc hv => ?_⟩
            have hv':(vf.toList++as.toList.map a.eval++vc.toList)[i]? = some v:=by
              rw [← Array.getElem?_toList] at hv; simpa using hv
            rw [List.getElem?_append] at hc hv'
            split at hc
            · rename_i h1
              rw [if_pos (by simpa [hlf] using h1)] at hv'
              rw [List.getElem?_append] at hc hv'
              split at hc
              · rename_i h2
                rw [if_pos (by simpa [hlf] using h2)] at hv'
                exact hrf i c v hc (by simpa using hv')
              · rename_i h2
                rw [if_neg (by simpa [hlf] using h2)] at hv'
                simp only [List.getElem?_map,Option.map_eq_some_iff,Array.length_toList,hlf] at hc hv'
                obtain ⟨x,hx,rfl⟩:=hc
                obtain ⟨y,hy,rfl⟩:=hv'
                rw [hx] at hy; cases hy
                exact Rel.oget fun i _=>hi.tmps i
            · rename_i h1
              rw [if_neg (by simpa [hlf] using h1)] at hv'
              simp only [List.length_append,List.length_map,Array.length_toList,hlf] at hc hv'
              exact hrc _ c v hc (by simpa using hv')
          unfold Oper.wp
          rw [hrun]
          show Calls P g _ w _
          refine (hspec hi hraw hv1).mono ?_
          rintro e w' ⟨v,res,st',S',ρ',rfl,hk,hi',hr'⟩
          show next (a.put o.dst v) w'
          refine hn _ _ _ ⟨S',ρ',?_⟩ hk
          have hlt:∀ e,o.dst=some e→e < X.nt:=fun e he=>by
            rw [he] at hck; exact Nat.le_of_ble_eq_true hck
          refine ⟨by cases o.dst<;>exact hi'.defers,by cases o.dst<;>simp [Act.put,hi'.size],hi'.below,hi'.hB,hi'.s0,hi'.s1,hi'.g0,?_,hi'.heap⟩
          have:=dH (d:=o.dst) (v:=v) (av:=res) (fun e he=>by rw [hi'.size]; exact hlt e he) hi'.tmps hr'
          cases hdd:o.dst<;>rw [hdd] at this<;>exact this
      · exact dX hX hi hv hn
    · cases hv
  · exact dX hX hi hv hn
theorem StRel.refine {g:Nat} {b:Bool} (hs:StRel X B S0 w0 st a w) (hg:aK st.t g = .bool b):StRel X B S0 w0 ⟨(g,.bool b) :: st.t,st.h⟩ a w:=by
  obtain ⟨S,ρ,hi⟩:=hs
  refine ⟨S,ρ,hi.defers,hi.size,hi.below,hi.hB,hi.s0,hi.s1,hi.g0,fun i => ?_,hi.heap⟩
  simp only [aK]
  by_cases e:g=i
  · subst e; rw [Nat.beq_refl]; have:=hi.tmps g; rw [hg] at this; exact this
  · rw [ah e]; exact hi.tmps i
theorem fT {t:ba U El} {g:Nat} {k:ba U El→Bool→Option (Fin U El)} (h:kp t g k=some r):∃ b,aK t g = .bool b∧k ((g,.bool b) :: t) b=some r:=by
  unfold kp at h
  split at h
  · rename_i b hb
    cases b
    · exact ⟨false,hb,h⟩
    · exact ⟨true,hb,h⟩
  · cases h
theorem fv {t:ba U El} {g:Nat} {want:Bool} {k:ba U El→Bool→Option (Fin U El)} (h:gm t g want k=some r):(∃ b,aK t g = .bool b∧k ((g,.bool b) :: t) b=some r)∨(aK t g = .tup []∧k t (!want)=some r):=by
  unfold gm at h
  split at h
  · rename_i b hb
    cases b
    · exact .inl ⟨false,hb,h⟩
    · exact .inl ⟨true,hb,h⟩
  · rename_i hb; exact .inr ⟨hb,h⟩
  · cases h
theorem dE {o:Oper} {t:ba U El} {k:ba U El→Option (Fin U El)} (h:b8 o t k=some r):∃ t',k t'=some r∧(t'=t∨∃ g b,aK t g = .bool b∧t'=(g,.bool b) :: t):=by
  unfold b8 at h
  split at h
  · obtain ⟨b, h1, h2⟩ := fT h
    exact ⟨_,h2,.inr ⟨_,b,h1,rfl⟩⟩
  · exact ⟨t,h,.inl rfl⟩
theorem re {ops:Array Oper} {tmps:Array Value} {j g:Nat} {b:Bool} (hd:(ops.toList.map (·.dst))[j]? = some (some g)) (hv:tmps.getD g undef = .bool b):yielded ops tmps j=some b:=by
  unfold yielded
  have h1:(ops[j]?).bind (·.dst)=some g:=by
    simp only [List.getElem?_map,Array.getElem?_toList,Option.map_eq_some_iff] at hd
    obtain ⟨o,ho,hdst⟩:=hd
    simp [ho,hdst]
  have h2:tmps[g]? = some (.bool b):=by
    rw [Array.getD_eq_getD_getElem?] at hv
    cases e:tmps[g]? with
    | none=>rw [e] at hv; simp [undef] at hv
    | some v=>rw [e] at hv; simp at hv; rw [hv]
  rw [h1]
  simp [h2]
theorem gZ {ops:Array Oper} {o:Oper} {j g:Nat} {want b:Bool} (hgd:o.guard=some (j,want)) (hd:(match (ops.toList.map (·.dst))[j]? with | some d=>d | none=>none)=some g) {a:Act} (hv:a.tmps.getD g undef = .bool b) :
    Region.wanted o (yielded ops a.tmps)=(!(Bool.xor b want)):=by
  have hd':(ops.toList.map (·.dst))[j]? = some (some g):=by
    split at hd
    · rename_i e; rw [e,hd]
    · cases hd
  unfold Region.wanted
  rw [hgd]
  simp only [re hd' hv]
  cases b<;>cases want<;>rfl
theorem fU {ops:Array Oper} {o:Oper} {j g:Nat} {want:Bool} (hgd:o.guard=some (j,want)) (hd:(match (ops.toList.map (·.dst))[j]? with | some d=>d | none=>none)=some g) {a:Act} (hv:a.tmps.getD g undef = .tuple #[]) :
    Region.wanted o (yielded ops a.tmps)=false:=by
  have hd':(ops.toList.map (·.dst))[j]? = some (some g):=by
    split at hd
    · rename_i e; rw [e,hd]
    · cases hd
  have h1:(ops[j]?).bind (·.dst)=some g:=by
    simp only [List.getElem?_map,Array.getElem?_toList,Option.map_eq_some_iff] at hd'
    obtain ⟨o,ho,hdst⟩:=hd'
    simp [ho,hdst]
  have hy:yielded ops a.tmps j=none:=by
    unfold yielded
    rw [h1]
    rw [Array.getD_eq_getD_getElem?] at hv
    cases e:a.tmps[g]? with
    | none=>simp [e]
    | some v=>rw [e] at hv; simp at hv; simp [e,hv]
  unfold Region.wanted
  rw [hgd]
  simp only [hy]
  rfl
theorem jd {v:Value} {E:Univ U El} (h:Rel E S ρ w (.tup []) v):v = .tuple #[]:=by
  cases h with
  | tup _ vs hl _ =>
    have:vs=#[]:=Array.eq_empty_of_size_eq_zero (by simpa using hl)
    rw [this]
theorem gw {E:Univ U El}:Rel E S ρ w (.tup []:AV U El) undef := .tup [] #[] rfl (by simp)
theorem mP {k : St U El → Option (Fin U El)} {ops : Array Oper} {Q : Exit → Act → World → Prop} (hX : CtxOk P X) (hM : MOk P X) (hN : ∀ st' a' w', StRel X B S0 w0 st' a' w' → k st' = some r → Q .normal a' w') :
    ∀ (os:List Oper) (j:Nat) (st:St U El) (a:Act) (w:World),ops.toList.drop j=os→StRel X B S0 w0 st a w→(∀ o∈os,∀ e,o.dst=some e→e < X.nt)→dt X (ops.toList.map (·.dst)) os st k=some r→wpOps P ops Q (List.range' j os.length) a w:=by
  intro os
  induction os with
  | nil=>intro j st a w hd hs _ hv; exact hN st a w hs hv
  | cons o os ih =>
    intro j st a w hd hs hdst hv
    have ho:ops[j]? = some o:=by
      have:(ops.toList.drop j)[0]? = some o:=by rw [hd]; rfl
      rw [List.getElem?_drop] at this
      simpa using this
    have hd':ops.toList.drop (j+1)=os:=by
      rw [← List.drop_drop,hd]; rfl
    simp only [List.length_cons,List.range'_succ]
    rw [wpOps_cons]
    unfold wpOp
    rw [ho]
    simp only [dt] at hv
    have hdo:∀ e,o.dst=some e→e < X.nt:=hdst o (by simp)
    have next:∀ st' a' w',StRel X B S0 w0 st' a' w'→dt X (ops.toList.map (·.dst)) os st' k=some r→wpOps P ops Q (List.range' (j+1) os.length) a' w' :=
      fun st' a' w' hs' hv'=>ih (j+1) st' a' w' hd' hs' (fun o ho=>hdst o (by simp [ho])) hv'
    have doit:∀ (t:ba U El),StRel X B S0 w0 ⟨t,st.h⟩ a w→b8 o t (fun t=>dF o ⟨t,st.h⟩ fun st1=>fi X o st1 fun st'=>dt X (ops.toList.map (·.dst)) os st' k)=some r→o.wp P a w (wpOps P ops Q (List.range' (j+1) os.length)) Q:=by
      intro t hst hw
      obtain ⟨t',hk,hor⟩:=dE hw
      have hst':StRel X B S0 w0 ⟨t',st.h⟩ a w:=by
        rcases hor with rfl | ⟨g,b,hg,rfl⟩
        · exact hst
        · exact hst.refine hg
      obtain ⟨st2,⟨S,ρ,hi⟩,hk2⟩:=ef hX hst' hk
      exact cF hX hM hi hk2 next
    unfold eE at hv
    cases hgd:o.guard with
    | none =>
      rw [hgd] at hv
      simp only at hv
      have hw:Region.wanted o (yielded ops a.tmps)=true:=by simp [Region.wanted,hgd]
      simp only [hw,if_true]
      exact .inl (doit st.t hs hv)
    | some jw =>
      obtain ⟨gj,want⟩:=jw
      rw [hgd] at hv
      simp only at hv
      split at hv
      · rename_i h; cases h
      · rename_i g want' heq
        simp only [Option.some.injEq,Prod.mk.injEq] at heq
        obtain ⟨hdg,rfl⟩:=heq
        have skip:∀ (t:ba U El),StRel X B S0 w0 ⟨t,st.h⟩ a w→dt X (ops.toList.map (·.dst)) os ⟨match o.dst with | some d=>(d,.tup []) :: t | none=>t,st.h⟩ k=some r→wpOps P ops Q (List.range' (j+1) os.length) (a.put o.dst undef) w:=by
          intro t hs2 hv'
          refine next _ _ _ ?_ hv'
          obtain ⟨S,ρ,hi2⟩:=hs2
          refine ⟨S,ρ,by cases o.dst<;>exact hi2.defers,by cases o.dst<;>simp [Act.put,hi2.size],hi2.below,hi2.hB,hi2.s0,hi2.s1,hi2.g0,?_,hi2.heap⟩
          have:=dH (d:=o.dst) (v:=undef) (av:=AV.tup []) (fun e he=>by rw [hi2.size]; exact hdo e he) hi2.tmps gw
          cases hdd:o.dst<;>rw [hdd] at this<;>exact this
        rcases fv hv with ⟨b,hb,hv'⟩ | ⟨hb,hv'⟩
        · have hs2 := hs.refine hb
          obtain ⟨S,ρ,hi⟩:=hs
          have hvb:a.tmps.getD g undef = .bool b:=by
            have:=hi.tmps g
            rw [hb] at this
            generalize a.tmps.getD g undef=q at this
            cases this; rfl
          have hw:=gZ hgd hdg hvb
          cases hx:Bool.xor b want with
          | true =>
            rw [hx] at hv' hw
            simp only [cond] at hv'
            simp only [hw,Bool.not_true,Bool.false_eq_true,if_false]
            exact skip _ hs2 hv'
          | false =>
            rw [hx] at hv' hw
            simp only [cond] at hv'
            simp only [hw,Bool.not_false,if_true]
            exact .inl (doit _ hs2 hv')
        · have hvu : a.tmps.getD g undef = .tuple #[] := by
            obtain ⟨S,ρ,hi⟩:=hs
            have:=hi.tmps g
            rw [hb] at this
            exact jd this
          have hw:=fU hgd hdg hvu
          have hx:Bool.xor (!want) want=true:=by cases want<;>rfl
          rw [hx] at hv'
          simp only [cond] at hv'
          simp only [hw,Bool.false_eq_true,if_false]
          exact skip _ hs hv'
      · cases hv
theorem mQ {k:St U El→Option (Fin U El)} {id:Nat} {ops:Array Oper} {Q:Exit→Act→World→Prop} (hX:CtxOk P X) (hM:MOk P X) (hs:StRel X B S0 w0 st a w) (hN:∀ st' a' w',StRel X B S0 w0 st' a' w'→k st'=some r→Q .normal a' w')
    (hdst:∀ o∈ops.toList,∀ e,o.dst=some e→e < X.nt) (hv:dt X (ops.toList.map (·.dst)) ops.toList st k=some r):(Code.region id ops false).wp P Q a w:=by
  refine wp_region ?_
  have:=mP (ops:=ops) hX hM hN ops.toList 0 st a w rfl hs hdst hv
  rwa [Array.length_toList,← List.range_eq_range'] at this
end
end Go.Proofs.YtnofdcckddfooaaGreatDoor

namespace Go.Proofs.YtnofdcckddfooaaGreatDoor
set_option linter.unusedVariables false
set_option linter.unusedSectionVars false
set_option linter.unusedSimpArgs false
open Go.RowKit
section
variable {U:Type} {El:U→Type} {P:Program} {X:Ctx U El} [DecidableEq U]
variable {o:Oper} {t:ba U El} {h:az U El} {d:Nat} {r:Fin U El}
def Det {α:Type} (f:(α→Option (Fin U El))→Option (Fin U El)):Prop:=∃ oo:Option α,∀ k,f k=oo.bind k
theorem bh {α:Type} (x:α):Det (U:=U) (El:=El) (fun k=>k x):=⟨some x,fun _=>rfl⟩
theorem ai {α:Type}:Det (U:=U) (El:=El) (fun (_:α→Option (Fin U El))=>none):=⟨none,fun _=>rfl⟩
theorem a7 {α:Type} {f:(α→Option (Fin U El))→Option (Fin U El)} (b:Bool) (h:Det f):Det (fun k=>chk b (f k)):=by
  cases b
  · exact ⟨none,fun _=>rfl⟩
  · exact h
theorem kF {α β:Type} {f:(α→Option (Fin U El))→Option (Fin U El)} (g:α→(β→Option (Fin U El))→Option (Fin U El)) (h:Det f) (hg:∀ x,Det (g x)):Det (fun k=>f fun x=>g x k):=by
  obtain ⟨oo,ho⟩:=h
  cases oo with
  | none=>exact ⟨none,fun k=>ho _⟩
  | some x =>
    obtain ⟨o2,h2⟩:=hg x
    exact ⟨o2,fun k=>(ho _).trans (h2 k)⟩
theorem Det.k {α:Type} {f:(α→Option (Fin U El))→Option (Fin U El)} (h:Det f) {k:α→Option (Fin U El)} (hv:f k=some r):∃ x,k x=some r∧∀ k',f k'=k' x:=by
  obtain ⟨oo,ho⟩:=h
  cases oo with
  | none=>rw [ho] at hv; cases hv
  | some x=>exact ⟨x,by rw [ho] at hv; exact hv,fun k'=>ho k'⟩
theorem pd {α:Type} {g:Nat→(α→Option (Fin U El))→Option (Fin U El)} (i:Int) (hg:∀ q,Det (g q)):∀ m j,Det (fun k=>iY i j m fun q=>g q k):=by
  intro m
  induction m with
  | zero=>intro j; exact ai
  | succ m ih =>
    intro j
    simp only [iY]
    cases (i == Int.ofNat j) with
    | true=>exact hg j
    | false=>exact ih (j+1)
theorem mR {α:Type} {g:Nat→(α→Option (Fin U El))→Option (Fin U El)} (n:Nat) (i:Int) (hg:∀ q,Det (g q)):Det (fun k=>ixA n i fun q=>g q k):=by
  unfold ixA
  cases Nat.ble n 8 with
  | true=>exact pd i hg n 0
  | false=>exact a7 _ (hg _)
theorem g7 (cs:List (AV U El)) (off sz:Nat) (ag:Bool):Det (cW cs off sz ag):=by
  unfold cW
  cases ag with
  | true=>exact a7 _ (bh _)
  | false =>
    simp only [cond]
    cases cs[off]? with
    | none=>exact ai
    | some c=>exact bh c
theorem sr (p:AV U El):Det (fun (k:List (AV U El)×Nat→Option (Fin U El))=>nn X h p fun cs off=>k (cs,off)):=by
  unfold nn
  cases p<;>try exact ai
  case ptr id off =>
    dsimp only
    cases ac h id with
    | none=>exact ai
    | some b =>
      cases b with
      | rows u xs=>exact ai
      | box tg cs=>exact bh (cs,off)
      | map u v es=>exact ai
      | amap u ks cs=>exact ai
      | bld T j=>exact ai
  case row id i off =>
    dsimp only
    cases ac h id with
    | none=>exact ai
    | some b =>
      cases b with
      | rows u xs=>exact a7 _ (bh (_,off))
      | box tg cs=>exact ai
      | map u v es=>exact ai
      | amap u ks cs=>exact ai
      | bld T j=>exact ai
  case pel u xs i off=>exact bh (_,off)
  case pcs cs off=>exact bh (cs,off)
theorem pe (op : BinOp) (ts : List Nat) (x y : AV U El) : Det (iX op ts x y) := by
  cases x <;> cases y <;> first
    | exact ai
    | (cases op<;>unfold iX<;>dsimp only<;>first
        | exact ai
        | exact bh _
        | exact a7 _ (bh _)
        | exact a7 _ (a7 _ (bh _))
        | (refine a7 _ ?_; simp only [km]; first | exact bh _ | exact ai)
        | (cases ts.isEmpty<;>simp only [cond]<;>first | exact ai | (generalize bo ts _ _=q; cases q<;>first | exact ai | exact bh _)))
theorem qD {f:(AV U El→Option (Fin U El))→Option (Fin U El)} (h:Det f):Det (fun (k:Out U El→Option (Fin U El))=>f fun v=>k ⟨v,[]⟩) :=
  kF (fun (v:AV U El) (k:Out U El→Option (Fin U El))=>k ⟨v,[]⟩) h (fun v=>bh _)
theorem kG (hs : ∀ f vs, Det (fun (k : AV U El × az U El → Option (Fin U El)) => X.spec f vs fun r e => k (r, e))) : Det (aZ X o t h d) := by
  unfold aZ
  cases o.op<;>try exact ai
  case move x=>exact bh _
  case assign x=>exact bh _
  case pick c a b =>
    dsimp only
    cases oget t c<;>first | exact ai | (rename_i b; cases b<;>exact bh _)
  case alloc e =>
    have old:Det (fun (k:Out U El→Option (Fin U El))=>match jY X.zeros e with
      | some z => match cellsOf (constAV z) with
        | some cs=>k ⟨.ptr d 0,[(d,.box 0 cs)]⟩
        | none=>none
      | none=>none):=by
      cases jY X.zeros e with
      | none=>exact ai
      | some z =>
        dsimp only
        cases cellsOf (constAV z:AV U El)<;>first | exact ai | exact bh _
    dsimp only
    cases aV X.tds e with
    | none=>exact old
    | some td=>cases td<;>first | exact old | exact a7 _ (bh _)
  case box e x =>
    dsimp only
    cases cellsOf (oget t x)<;>first | exact ai | exact bh _
  case build ty ps =>
    dsimp only
    cases aV X.tds ty with
    | none=>exact ai
    | some td =>
      cases td<;>try exact ai
      · dsimp only
        generalize oS t _ _ ps.toList=q
        cases q<;>first | exact ai | exact a7 _ (bh _)
      · dsimp only
        generalize cm t _ 0 0 _ ps.toList=q
        cases q<;>first | exact ai | exact a7 _ (bh _)
  case buildSlice ty n ps =>
    dsimp only
    cases aV X.tds ty with
    | none=>exact ai
    | some td =>
      cases td<;>try exact ai
      · dsimp only
        refine a7 _ (a7 _ ?_)
        generalize gk X.E _ t 0 ps.toList=q
        cases q<;>first | exact ai | exact bh _
  case load ty p =>
    dsimp only
    cases aV X.tds ty with
    | none=>exact ai
    | some td =>
      dsimp only
      cases jF td with
      | none=>exact ai
      | some q =>
        obtain ⟨sz,ag⟩:=q
        dsimp only
        refine kF (f:=fun (k:List (AV U El)×Nat→Option (Fin U El))=>nn X h (oget t p) fun cs off=>k (cs,off)) (fun q (k:Out U El→Option (Fin U El))=>cW q.1 q.2 sz ag fun v=>k ⟨v,[]⟩) (sr _) (fun q => ?_)
        exact qD (g7 _ _ _ _)
  case nilCheck x =>
    dsimp only
    cases oget t x<;>first | exact ai | exact bh _
  case binOp op ty x y yt =>
    dsimp only
    exact a7 _ (qD (pe _ _ _ _))
  case unOp u ty x =>
    dsimp only
    cases u<;>cases oget t x<;>first | exact ai | exact bh _
  case makeMap ty rs =>
    cases rs with
    | some y=>exact ai
    | none =>
      dsimp only
      cases aV X.tds ty with
      | none=>exact ai
      | some td=>cases td<;>first | exact ai | exact bh _
  case lookup ty m ix ok =>
    dsimp only
    cases aV X.tds ty with
    | none=>exact ai
    | some td =>
      cases td <;> cases oget t m <;> dsimp only <;> first
        | exact ai
        | (refine a7 _ ?_
           generalize jW X.E _ (oget t ix)=q
           cases q<;>first | exact ai | exact bh _)
        | (cases ac h _ with
           | none=>exact ai
           | some b =>
             cases b<;>dsimp only<;>first
               | exact ai
               | (refine a7 _ ?_
                  generalize jW X.E _ (oget t ix)=q
                  cases q<;>first | exact ai | exact bh _))
  case convert s ty x =>
    dsimp only
    cases aV X.tds s with
    | none=>exact ai
    | some _ =>
      cases aV X.tds ty with
      | none=>exact ai
      | some td=>cases td<;>cases oget t x<;>first | exact ai | exact bh _
  case makeFunc fn as bs =>
    cases fn<;>first | exact ai | exact bh _
  case makeSlice ty n c =>
    dsimp only
    cases aV X.tds ty with
    | none=>exact ai
    | some td =>
      cases td <;> cases oget t n <;> cases oget t c <;> first
        | exact ai
        | (dsimp only
           cases Nat.blt 0 (X.E.boxS ty) with
           | false=>exact a7 _ (bh _)
           | true =>
             refine a7 _ ?_
             cases jY X.zeros (X.E.tid _) with
             | none=>exact ai
             | some z =>
               dsimp only
               generalize cellsOf (constAV z:AV U El)=q
               cases q with
               | none=>exact ai
               | some q =>
                 match q with
                 | []=>exact ai
                 | [c]=>exact bh _
                 | _ :: _ :: _=>exact ai)
  case slice ty x lo hi mx =>
    cases mx with
    | some m=>exact ai
    | none =>
      dsimp only
      cases aV X.tds ty with
      | none=>exact ai
      | some td =>
        cases td <;> cases oget t x <;> dsimp only <;> first
          | exact ai
          | ((repeat' split)<;>first | exact ai | exact a7 _ (bh _) | exact a7 _ (a7 _ (bh _)))
          | (generalize (match lo with | some o=>oget t o | none=>AV.int IntKind.i64 0)=q1
             generalize (match hi with | some o=>oget t o | none=>AV.int IntKind.i64 _)=q2
             cases q1<;>cases q2<;>first | exact ai | exact a7 _ (bh _) | exact a7 _ (a7 _ (bh _)))
          | (cases ac h _ with
             | none=>exact ai
             | some b =>
               cases b with
               | box tg cs=>exact ai
               | map u v es=>exact ai
               | amap u ks cs=>exact ai
               | bld T j=>exact ai
               | rows u xs =>
                 dsimp only
                 generalize (match lo with | some o=>oget t o | none=>AV.int IntKind.i64 0)=q1
                 generalize (match hi with | some o=>oget t o | none=>AV.int IntKind.i64 _)=q2
                 cases q1<;>cases q2<;>first | exact ai | exact a7 _ (bh _) | exact a7 _ (a7 _ (bh _)))
  case fieldAddr s p f =>
    dsimp only
    cases aV X.tds s with
    | none=>exact ai
    | some td =>
      cases td<;>try exact ai
      dsimp only
      generalize (_:List (Nat×Nat×Bool))[f]? = q
      cases q with
      | none=>exact ai
      | some q=>obtain ⟨a,b,c⟩:=q; dsimp only; cases oget t p<;>first | exact ai | exact bh _
  case field s x f =>
    dsimp only
    cases aV X.tds s with
    | none=>exact ai
    | some td =>
      cases td<;>try exact ai
      dsimp only
      generalize (_:List (Nat×Nat×Bool))[f]? = q
      cases q with
      | none=>exact ai
      | some q =>
        obtain ⟨a,b,c⟩:=q; dsimp only
        cases oget t x<;>first | exact ai | exact qD (g7 _ _ _ _)
  case indexAddr ty x ix =>
    dsimp only
    cases aV X.tds ty with
    | none=>exact ai
    | some td =>
      cases td<;>cases oget t ix<;>try exact ai
      · dsimp only
        cases oget t x<;>dsimp only<;>first
          | exact ai
          | exact a7 _ (a7 _ (bh _))
          | (cases ac h _ with
             | none=>exact ai
             | some b=>cases b<;>first | exact ai | exact a7 _ (a7 _ (bh _)) | exact a7 _ (mR _ _ fun _=>bh _))
      · dsimp only
        cases oget t x<;>dsimp only<;>first | exact ai | exact mR _ _ fun _=>bh _
  case index ty x ix =>
    dsimp only
    cases aV X.tds ty with
    | none=>exact ai
    | some td =>
      cases td<;>cases oget t ix<;>try exact ai
      · dsimp only
        cases oget t x<;>dsimp only<;>first | exact ai | exact a7 _ (bh _)
      · dsimp only
        cases oget t x<;>dsimp only<;>first | exact ai | exact mR _ _ fun _=>qD (g7 _ _ _ _)
  case extract x i =>
    dsimp only
    cases oget t x<;>try exact ai
    dsimp only
    generalize (_:List (AV U El))[i]? = q
    cases q<;>first | exact ai | exact bh _
  case call c =>
    obtain ⟨callee,as,ts⟩:=c
    cases callee with
    | value f =>
      dsimp only
      cases oget t f with
      | fn g first caps =>
        dsimp only
        generalize iW X h (first++as.toList.map (oget t)++caps) _=q
        cases q with
        | none=>exact ai
        | some vs =>
          dsimp only
          exact kF (f:=fun (k:AV U El×az U El→Option (Fin U El))=>X.spec g vs fun r e=>k (r,e))
            (fun q (k:Out U El→Option (Fin U El))=>chk (AV.resG AV.cell q.1&&gH q.2&&((AV.resG AV.cellF q.1&&ig X.E q.2)||(first++as.toList.map (oget t)++caps).all AV.plain)) (k ⟨gl d q.1,eD d q.2⟩)) (hs _ _) (fun q=>a7 _ (bh _))
      | _=>exact ai
    | invoke x m=>exact ai
    | builtin b =>
      cases b<;>try exact ai
      case len =>
        dsimp only
        rcases as.toList with _ | ⟨x,_ | ⟨y,l⟩⟩<;>try exact ai
        rcases ts.toList with _ | ⟨ty,l⟩<;>try exact ai
        dsimp only
        cases lenOf h (oget t x)<;>first | exact ai | exact a7 _ (bh _)
      case max =>
        dsimp only
        rcases as.toList with _ | ⟨x,_ | ⟨y,_ | ⟨z,l⟩⟩⟩<;>try exact ai
        dsimp only
        cases oget t x<;>cases oget t y<;>first | exact ai | exact bh _
      case min =>
        dsimp only
        rcases as.toList with _ | ⟨x,_ | ⟨y,_ | ⟨z,l⟩⟩⟩<;>try exact ai
        dsimp only
        cases oget t x<;>cases oget t y<;>first | exact ai | exact bh _
end
end Go.Proofs.YtnofdcckddfooaaGreatDoor
