/- slices.Reverse at []api.Point: the kit's shelf's contract laid at this program, and as a contract of the lift. -/
import Derived.Test.YtcabnkclelgoeaaVA
import Derived.Test.YtcabnkclelgoeaaLS
import Derived.Shelf.SlicesQ.Reverse
namespace Go.Proofs.Ytcabnkclelgoeaa
set_option linter.unusedSectionVars false
set_option linter.unusedSimpArgs false
set_option linter.unusedVariables false
open Go.RowKit Go.Shelf Go.Sort
def revLay_ren:Go.Shelf.Ren:=⟨fun | 35=>57 | n=>n,fun | 0=>0 | 3=>3 | 4=>4 | 22=>33 | 23=>23 | n=>n,fun n=>n⟩
theorem revLay:Go.Proofs.SlLaysE0.n35 Try.prog revLay_ren:={
  mixed:=by kernel_rfl
  f35:=⟨Try.f57.name,by decide,Try.func57.trans (congrArg some (by kernel_rfl))⟩
  t0:=Try.underlying0
  a0:=Try.isAgg0
  z0:=Try.sizeOf0
  v0:=Try.zeroValue0
  t3:=Try.underlying3
  a3:=Try.isAgg3
  z3:=Try.sizeOf3
  v3:=Try.zeroValue3
  t4:=Try.underlying4
  a4:=Try.isAgg4
  z4:=Try.sizeOf4
  v4:=Try.zeroValue4
  t22:=Try.underlying33
  a22:=Try.isAgg33
  z22:=Try.sizeOf33
  v22:=Try.zeroValue33
}
noncomputable def revSp:SpM U El:=fun d args st k=>match args with
  | [.ful id] => match hget st.h id with
    | some (.rows .pt xs)=>chk (nle (List.length (α:=Pt) xs) 100000) (k (.tup []) ⟨st.t,hset st.h id (.rows .pt (List.reverse (α:=Pt) xs))⟩)
    | _=>none
  | _=>none
theorem cell_oneR {Eu:Univ U El} {S:Nat→Prop} {ρ:Rho} {w:World} {c:AV U El} {v:Value} (hc:c.cell=true) (hr:Rel Eu S ρ w c v):v.oneCell'=true:=by
  cases hr<;>first | rfl | (simp [AV.cell] at hc; done)
def Cs:Type:={ vs:List Value // vs.length=2∧∀ v∈vs,v.oneCell'=true }
instance:Inhabited Cs:=⟨⟨[.bool false,.bool false],rfl,by simp [Value.oneCell']⟩⟩
set_option maxHeartbeats 1000000 in
theorem revOk {X : Ctx U El} (hE : X.E = E) (hX : CtxOk Try.prog X) : SpMOk Try.prog X 57 revSp := by
  refine ⟨Try.call57,?_⟩
  intro B S0 w0 S ρ st a w d args vs k r hi hr hv
  unfold revSp at hv
  split at hv
  · rename_i id
    split at hv
    · rename_i xs0 hg
      obtain ⟨xs,hxs⟩:∃ xs:List Pt,xs=xs0:=⟨_,rfl⟩
      subst hxs
      obtain ⟨hck,hk⟩:=chk_some hv
      have hlen:=nleI hck
      have hsz2:X.E.sz .pt=2:=by rw [hE]; rfl
      have htid:X.E.tid .pt=23:=by rw [hE]; rfl
      have henl:∀ x   : Pt,(X.E.enc .pt x).length=2:=fun x=>by rw [hE]; rfl
      obtain ⟨v1,rfl,r1⟩:∃ v1,vs=#[v1]∧Rel X.E S ρ w (.ful id) v1:=by
        obtain ⟨h1,h2⟩:=hr
        match vs,h1,h2 with
        | ⟨[v1]⟩,_,h2=>exact ⟨v1,rfl,h2 0 _ v1 rfl rfl⟩
      obtain ⟨l,hl1,hbl⟩:=hi.heap.get _ _ hg
      have hbl':=hbl
      obtain ⟨c1,c2,c3,c4⟩:=hbl
      rw [hsz2] at c1 c3 c4
      have hpl:l.ln=xs.length:=c2
      by_cases hz:xs.length=0
      · have e0 : xs = [] := List.eq_nil_of_length_eq_zero hz
        subst e0
        obtain ⟨p,cap,rfl⟩:∃ p cap,v1 = .slice p 0 cap:=by
          cases r1 with
          | fulN _ l' hl' _ _=>exact ⟨_,_,rfl⟩
          | ful _ cap l' hl' e1 e2 =>
            rw [hl1] at hl'; cases hl'
            exact ⟨_,cap,by rw [c2]; rfl⟩
        refine (AnyQ.slices_Reverse_empty revLay p cap w).mono ?_
        rintro e w' ⟨rfl,rfl⟩
        refine ⟨_,_,_,S,ρ,rfl,hk,?_,.tup _ _ rfl (by simp)⟩
        refine ⟨hi.defers,hi.size,hi.below,hi.hB,hi.s0,hi.s1,hi.g0,hi.tmps,hi.heap.congr fun j => ?_⟩
        simp only [List.reverse_nil,hget_set]
        split
        · rename_i e; subst e; rw [hg]; rfl
        · rfl
      · have hn0 : l.n ≠ 0 := by omega
        obtain ⟨c5,c6,cur,hh,c7,c8⟩:=c4 hn0
        cases r1 with
        | fulN _ l' hl' e1 e2=>rw [hl1] at hl'; cases hl'; exact absurd e1 hn0
        | ful _ cap l' hl' e1 e2 =>
          rw [hl1] at hl'; cases hl'
          rw [c2]
          have c8':∀ (i:Nat) (hil:i < xs.length) (j:Nat),j < 2→∃ c v,(X.E.enc .pt xs[i])[j]? = some c∧cur[i * 2+j]? = some v∧Rel X.E S ρ w c v∧v.oneCell'=true:=fun i hil j hj=>by
            have hjl:j < (X.E.enc .pt xs[i]).length:=by rw [henl]; exact hj
            obtain ⟨v,hv,hr⟩:=c8 i xs[i] j _ (List.getElem?_eq_getElem hil) (List.getElem?_eq_getElem hjl)
            refine ⟨_,v,List.getElem?_eq_getElem hjl,hv,hr,?_⟩
            exact cell_oneR (hX.u.cell .pt xs[i] _ (List.getElem_mem hjl)) hr
          let mk : (i : Nat) → i < xs.length → Cs := fun i hil => ⟨[cur[i * 2 + 0]!, cur[i * 2 + 1]!], rfl, fun v hv => by
            have g:∀ j,j < 2→cur[i * 2+j]!.oneCell'=true:=fun j hj=>by
              obtain ⟨c,v',_,h2,_,h4⟩:=c8' i hil j hj
              rw [Array.getElem!_eq_getD,Array.getD_eq_getD_getElem?,h2]
              exact h4
            simp only [List.mem_cons,List.not_mem_nil,or_false] at hv
            rcases hv with rfl | rfl
            · exact g 0 (by omega)
            · exact g 1 (by omega)⟩
          let enc:Cs→List Value:=fun x=>x.1
          let d:Array Cs:=Array.ofFn (n:=xs.length) fun i=>mk i.1 i.2
          have hds:d.size=xs.length:=by simp [d]
          have hd:∀ (i:Nat) (hil:i < xs.length),d[i]! = mk i hil:=fun i hil=>by
            rw [getElem!_pos d i (by rw [hds]; exact hil)]
            simp [d]
          have hmk:∀ (i:Nat) (hil:i < xs.length) (q:Nat),q < 2→(enc (mk i hil))[q]! = cur[i * 2+q]! := fun i hil q hq=>by
            match q,hq with
            | 0,_=>rfl
            | 1,_=>rfl
          have hcur:∀ (i:Nat) (hil:i < xs.length) (q:Nat),q < 2→cur[i * 2+q]? = some cur[i * 2+q]! := fun i hil q hq=>by
            obtain ⟨c,v',_,h2,_,_⟩:=c8' i hil q hq
            rw [Array.getElem!_eq_getD,Array.getD_eq_getD_getElem?,h2]
            rfl
          have split2:∀ j,j < xs.length * 2→∃ i q,i < xs.length∧q < 2∧j=i * 2+q∧j / 2=i∧j%2=q:=fun j hj=>⟨j / 2,j%2,by omega,by omega,by omega,rfl,rfl⟩
          have hblk:l.b < w.heap.size:=(hbl'.lt hn0).1
          have hcells:∀ j,j < xs.length * 2→cur[j]? = some (flatK enc 2 d)[j]! := fun j hj=>by
            obtain ⟨i,q,h1,h2,h3,h4,h5⟩:=split2 j hj
            rw [get_flatK _ _ _ _ (by rw [hds]; exact hj),h4,h5,hd i h1,hmk i h1 q h2,h3]
            exact hcur i h1 q h2
          have hH:HoldsK enc 2 w l.b 0 d:=fun j hj=>by
            rw [size_flatK,hds] at hj
            obtain ⟨g1,g2⟩:=cell_at (o:=0+j) hh
            refine ⟨?_,g2⟩
            rw [g1,Nat.zero_add,hcells j hj]
            rfl
          have hput:∀ (n:Nat) (dk:Array Cs),dk.size=xs.length →
              SameAt (fun k=>k=l.b) w (putRowK enc 2 (Sort.ahead w n) l.b 0 dk)∧∃ cur',(putRowK enc 2 (Sort.ahead w n) l.b 0 dk).heap[l.b]? = some (.cells cur' (X.E.tid .pt) (0,0))∧cur'.size=cur.size∧∀ j,j < xs.length * 2→cur'[j]? = some (flatK enc 2 dk)[j]! := fun n dk hdk=>by
            have hheap:(putRowK enc 2 (Sort.ahead w n) l.b 0 dk).heap=w.heap.modify l.b (onCells (putCells _root_.id 0 (flatK enc 2 dk))):=rfl
            refine ⟨⟨rfl,rfl,rfl,?_,?_,fun k hk hkb => ?_⟩,putCells _root_.id 0 (flatK enc 2 dk) cur,?_,?_,fun j hj => ?_⟩
            · rw [hheap]; simp
            · intro _; show w.drawn≤w.drawn+n; omega
            · rw [hheap,Array.getElem?_modify,if_neg (Ne.symm hkb)]
            · rw [hheap, Array.getElem?_modify, if_pos rfl, hh]
              rfl
            · simp [putCells]
            · have hjc : j < cur.size := by
                have:=hcells j hj
                exact (Array.getElem?_eq_some_iff.1 this).1
              simp only [putCells,Array.getElem?_mapIdx,Array.getElem?_eq_getElem hjc,Option.map_some]
              rw [if_pos (by simp [hdk]; omega)]
              rfl
          have hcall:=AnyQ.slices_Reverse revLay 2 Try.isAgg23 Try.sizeOf23 enc (fun x=>x.2.1) (fun x=>x.2.2) l.b 0 cap d w hH (by rw [hds]; omega)
          rw [hds] at hcall
          refine hcall.mono ?_
          rintro e w' ⟨rfl,n,rfl⟩
          obtain ⟨hs,cur',hh',hsz',hcl'⟩:=hput n d.reverse (by simp [hds])
          have hlen':(List.reverse xs).length=xs.length:=List.length_reverse
          have hsame:∀ k,S k→(putRowK enc 2 (Sort.ahead w n) l.b 0 d.reverse).heap[k]? = w.heap[k]? := fun k hk'=>hs.block k (hi.heap.lt k hk') (by rintro rfl; exact c6 hk')
          refine ⟨_,_,_,S,ρ,rfl,hk,hi.rewrite hg hl1 hn0 hs ⟨by rw [hsz2]; exact c1,by show l.ln=(List.reverse (α:=Pt) xs).length; rw [hlen']; exact c2,by show (List.reverse (α:=Pt) xs).length * X.E.sz .pt≤l.n; rw [hlen',hsz2]; exact c3,fun _=>⟨c5,c6,cur',hh',by rw [hsz']; exact c7,fun i x j c hx hc => ?_⟩⟩,.tup _ _ rfl (by simp)⟩
          have hil:i < xs.length:=by rw [← hlen']; exact (List.getElem?_eq_some_iff.1 hx).1
          have hjl:j < 2:=by rw [← henl x]; exact (List.getElem?_eq_some_iff.1 hc).1
          rw [hsz2]
          have hx':x=xs[xs.length - 1 - i]:=by
            have hx2:(List.reverse (α:=Pt) xs)[i]? = some x:=hx
            rw [List.getElem?_eq_getElem (by rw [hlen']; exact hil),List.getElem_reverse] at hx2
            exact (Option.some.inj hx2).symm
          have hr':xs.length - 1 - i < xs.length:=by omega
          obtain ⟨c',v',q1,q2,q3,_⟩:=c8' (xs.length - 1 - i) hr' j hjl
          rw [← hx',hc] at q1
          cases q1
          refine ⟨v',?_,q3.mono (fun _ h=>h) hsame (fun _ _ h=>h)⟩
          rw [hcl' _ (by omega),get_flatK _ _ _ _ (by simp [hds]; omega),show (i * 2+j) / 2=i by omega,show (i * 2+j)%2=j by omega]
          have hdr:d.reverse[i]! = d[xs.length - 1 - i]! := by
            rw [getElem!_pos d.reverse i (by simp [hds]; exact hil),getElem!_pos d _ (by rw [hds]; exact hr'),Array.getElem_reverse]
            congr 1
            rw [hds]
          rw [hdr,hd _ hr',hmk _ hr' j hjl,Array.getElem!_eq_getD,Array.getD_eq_getD_getElem?,q2]
          rfl
    · cases hv
  · cases hv
end Go.Proofs.Ytcabnkclelgoeaa
