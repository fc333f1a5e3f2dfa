/- slices.Reverse at []int: the kit's shelf's contract laid at this program (by lay.py), and as a contract of the lift. -/
import Derived.Test.YthdklallcljhlaaSI
import Derived.Shelf.Slices.Reverse
namespace Go.Proofs.Ythdklallcljhlaa
set_option linter.unusedSectionVars false
set_option linter.unusedSimpArgs false
set_option linter.unusedVariables false
open Go.Shelf Go.Sort Go.RowKit
def revIntLay_ren:Go.Shelf.Ren:=⟨fun | 112=>58 | n=>n,fun | 0=>0 | 3=>3 | 4=>4 | 28=>46 | n=>n,fun n=>n⟩
theorem revIntLay:Go.Proofs.Lays.n112 Try.prog revIntLay_ren:={
  mixed:=by kernel_rfl
  f112:=Try.func58.trans (congrArg some (by kernel_rfl))
  t0:=Try.underlying0
  a0:=Try.isAgg0
  z0:=Try.sizeOf0
  v0:=Try.zeroValue0
  t3:=Try.underlying3
  a3:=Try.isAgg3
  z3:=Try.sizeOf3
  v3:=Try.zeroValue3
  t4:=Try.underlying4
  a4:=Try.isAgg4
  z4:=Try.sizeOf4
  v4:=Try.zeroValue4
  t28:=Try.underlying46
  a28:=Try.isAgg46
  z28:=Try.sizeOf46
  v28:=Try.zeroValue46
}
noncomputable def revSp:SpM U El:=fun d args st k=>match args with
  | [.ful id] => match hget st.h id with
    | some (.rows .int xs)=>chk (nle (List.length (α:=Int) xs) 100000) (k (.tup []) ⟨st.t,hset st.h id (.rows .int (List.reverse (α:=Int) xs))⟩)
    | _=>none
  | _=>none
set_option maxHeartbeats 1000000 in
theorem revOk {X : Ctx U El} (hE : X.E = E) (hX : CtxOk Try.prog X) : SpMOk Try.prog X 58 revSp := by
  refine ⟨Try.call58,?_⟩
  intro B S0 w0 S ρ st a w d args vs k r hi hr hv
  unfold revSp at hv
  split at hv
  · rename_i id
    split at hv
    · rename_i xs0 hg
      obtain ⟨xs,hxs⟩:∃ xs:List Int,xs=xs0:=⟨_,rfl⟩
      subst hxs
      obtain ⟨hck,hk⟩:=chk_some hv
      have hlen:=nleI hck
      obtain ⟨v1,rfl,r1⟩:∃ v1,vs=#[v1]∧Rel X.E S ρ w (.ful id) v1:=by
        obtain ⟨h1,h2⟩:=hr
        match vs,h1,h2 with
        | ⟨[v1]⟩,_,h2=>exact ⟨v1,rfl,h2 0 _ v1 rfl rfl⟩
      by_cases hz:List.length (α:=Int) xs=0
      · have e0 : xs = [] := List.eq_nil_of_length_eq_zero hz
        subst e0
        obtain ⟨p,cap,rfl⟩:∃ p cap,v1 = .slice p 0 cap:=by
          cases r1 with
          | fulN _ l' hl' _ _=>exact ⟨_,_,rfl⟩
          | ful _ cap l' hl' e1 e2 =>
            obtain ⟨l,hl1,c1,c2,_⟩:=hi.heap.get _ _ hg
            rw [hl1] at hl'; cases hl'
            exact ⟨_,cap,by rw [c2]; rfl⟩
        refine (Any.slices_Reverse_int_empty revIntLay p cap w).mono ?_
        rintro e w' ⟨rfl,rfl⟩
        have hk':k (.tup []) ⟨st.t,hset st.h id (.rows .int (List.reverse (α:=Int) []))⟩=some r:=hk
        rw [List.reverse_nil] at hk'
        rw [hset_self hg] at hk'
        exact ⟨_,_,st,S,ρ,rfl,hk',hi,.tup _ _ rfl (by simp)⟩
      have hpos:0 < List.length (α:=Int) xs:=by omega
      have hsz:X.E.sz .int=1:=by rw [hE]; rfl
      have henc:∀ x:Int,X.E.enc .int x=[.int .i64 x]:=fun x=>by rw [hE]; rfl
      obtain ⟨l,hl1,hbl⟩:=hi.heap.get _ _ hg
      have hbl':=hbl
      obtain ⟨c1,c2,c3,c4⟩:=hbl
      have c2':l.ln=List.length (α:=Int) xs:=c2
      have c3':List.length (α:=Int) xs * 1≤l.n:=by rw [← hsz]; exact c3
      have hn0:l.n≠0:=by omega
      obtain ⟨c5,c6,cur,hh,c7,c8⟩:=c4 hn0
      have hcell:∀ (i:Nat) (x:Int),xs[i]? = some x→cur[i]? = some (.int .i64 x):=fun i x hx=>by
        obtain ⟨v,hv1,hr1⟩:=c8 i x 0 (.int .i64 x) hx (by rw [henc]; rfl)
        rw [hsz,Nat.mul_one,Nat.add_zero] at hv1
        cases hr1
        exact hv1
      have htake:cur.toList.take (List.length (α:=Int) xs)=xs.map (Value.int .i64):=by
        apply List.ext_getElem?
        intro i
        by_cases hil:i < List.length (α:=Int) xs
        · rw [List.getElem?_take_of_lt hil, Array.getElem?_toList, hcell i xs[i] (List.getElem?_eq_getElem hil)]
          simp [hil]
        · rw [List.getElem?_take_eq_none (by omega),List.getElem?_eq_none (by simp; omega)]
      have hblk:l.b < w.heap.size:=(hbl'.lt hn0).1
      cases r1 with
      | fulN _ l' hl' e1 _=>rw [hl1] at hl'; cases hl'; exact absurd e1 hn0
      | ful _ cap l' hl' e1 e2 =>
        rw [hl1] at hl'; cases hl'
        rw [c2']
        refine (Any.slices_Reverse_int revIntLay l.b 0 cap xs w (holds_of_blockI hh htake) (by omega)).mono ?_
        rintro e w' ⟨rfl,n,rfl⟩
        have ew:putRow (Value.int .i64) (Sort.ahead w n) l.b 0 (List.reverse (α:=Int) xs).toArray=grow (putRow (Value.int .i64) (Sort.ahead w n) l.b 0 (List.reverse (α:=Int) xs).toArray) #[]  := (fun W:World=>(by cases W; simp [grow]:W=grow W #[])) _
        rw [ew]
        have hg':=grownBy_sortedI (w:=w) (g:=l.b) (n:=n) (os:=#[]) (List.reverse (α:=Int) xs).toArray
        have hs:SameAt (fun k=>k=l.b) w (grow (putRow (Value.int .i64) (Sort.ahead w n) l.b 0 (List.reverse (α:=Int) xs).toArray) #[]):=⟨rfl,rfl,rfl,hg'.size,Nat.le_add_right _ _,fun k hk hkb=>hg'.block k hk (fun e=>hkb (by cases e; rfl))⟩
        have hlen':(List.reverse (α:=Int) xs).length=List.length (α:=Int) xs:=List.length_reverse
        have hcs:List.length (α:=Int) xs≤cur.size:=by omega
        have htk:=take_putCellsI cur (List.reverse (α:=Int) xs) (by omega)
        refine ⟨_,_,_,S,ρ,rfl,hk,hi.rewrite hg hl1 hn0 hs ⟨c1,?_,?_,fun _=>⟨c5,c6,_,heap_sortedI (List.reverse (α:=Int) xs).toArray hh,by simp [putCells,c7],fun i x j c hx hc => ?_⟩⟩,.tup _ _ rfl (by simp)⟩
        · show l.ln = (List.reverse (α := Int) xs).length
          rw [hlen',c2']
        · show (List.reverse (α := Int) xs).length * X.E.sz .int ≤ l.n
          rw [hlen',hsz]; exact c3'
        · have hc' : ([.int .i64 x] : List (AV U El))[j]? = some c := (congrArg (fun q : List (AV U El) => q[j]?) (henc x)).symm.trans hc
          match j,hc' with
          | 0, hc' =>
            cases hc'
            refine ⟨.int .i64 x,?_,.int _ _⟩
            rw [hsz,Nat.mul_one,Nat.add_zero]
            have hil:i < (List.reverse (α:=Int) xs).length:=(List.getElem?_eq_some_iff.1 hx).1
            have h1:((putCells (Value.int .i64) 0 (List.reverse (α:=Int) xs).toArray cur).toList.take (List.reverse (α:=Int) xs).length)[i]? = ((List.reverse (α:=Int) xs).map (Value.int .i64))[i]? := by rw [htk]
            rw [List.getElem?_take_of_lt hil,Array.getElem?_toList] at h1
            rw [h1,List.getElem?_map]
            exact congrArg (Option.map (Value.int .i64)) hx
    · cases hv
  · cases hv
end Go.Proofs.Ythdklallcljhlaa
