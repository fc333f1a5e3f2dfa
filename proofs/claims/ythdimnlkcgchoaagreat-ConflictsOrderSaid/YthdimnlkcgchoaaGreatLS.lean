import Derived.Test.YthdimnlkcgchoaaGreatLP
import Derived.Shelf.SlSortCmp.NoneTotal
namespace Go.Proofs.YthdimnlkcgchoaaGreat
set_option linter.all false
open Go.RowKit Go.Shelf Go.Sort
section
variable {U:Type} {El:U→Type} {P:Program} {X:Ctx U El} {S S0:Nat→Prop} {ρ:Rho} {w w0:World} [DecidableEq U] [Drw]
variable {a:Act} {st:St U El} {B:Bd} {d:Nat} {r:Fin U El}
def AV.val:AV U El→Value
 | .bool b=>.bool b
 | .int k n=>.int k n
 | .str s=>.string ⟨s.toArray⟩
 | _=>undef
theorem Inv.rewrite {id:Nat} {l:Loc} {u:U} {xs ys:List (El u)} {w':World} (hi:Inv X B S0 w0 S ρ st a w) (hg:hget st.h id=some (.rows u xs)) (hl:ρ id=some l) (hn:l.n≠0) (hs:SameAt (fun k=>k=l.b) w w')
  (hc:BlkRel X.E S ρ w' B l (.rows u ys)):Inv X B S0 w0 S ρ ⟨st.t,hset st.h id (.rows u ys)⟩ a w':=by
 obtain ⟨l0,e0,hb⟩:=hi.heap.get _ _ hg
 rw [hl] at e0; cases e0
 obtain ⟨h1,h2,h3⟩:=hb.lt hn
 have hsame:∀ k,S k→w'.heap[k]? = w.heap[k]?:=fun k hk=>hs.block k (hi.heap.lt k hk) (by rintro rfl; exact h3 hk)
 refine ⟨hi.defers,hi.size,hi.below.trans ⟨hs.os,hs.tape,hs.output,hs.size,hs.drawn,fun k hk hbk=>hs.block k hk (by rintro rfl; exact hbk h2)⟩,fun k hk=>hi.hB k (Nat.le_trans hs.size hk),hi.s0,hi.s1,hi.g0,fun i=>(hi.tmps i).mono (fun _ h=>h) hsame (fun _ _ h=>h),⟨fun j b' hj=>?_,fun i j b1 b2 l1 l2 hgi hgj hne hli hlj hn1 hn2=>?_,fun k hk=>Nat.lt_of_lt_of_le (hi.heap.lt k hk) hs.size⟩⟩
 ·rw [hget_set] at hj
  by_cases e:j=id
  ·subst e
   rw [if_pos rfl,hg] at hj
   cases hj
   exact ⟨l,hl,hc⟩
  ·rw [if_neg e] at hj
   obtain ⟨l',hl',hb'⟩:=hi.heap.get j b' hj
   refine ⟨l',hl',hb'.mono (fun _ h=>h) hsame (fun _ _ h=>h) fun hn'=>⟨hs.block _ (hb'.lt hn').1 ?_,(hb'.lt hn').2.2⟩⟩
   exact hi.heap.inj j id b' _ l' l hj hg e hl' hl hn' hn
 ·have k:∀ j b',hget (hset st.h id (.rows u ys)) j=some b' → ∃ b0,hget st.h j=some b0:=fun j b' h=>by
   rw [hget_set] at h
   split at h
   ·rename_i e; subst e; exact ⟨_,hg⟩
   ·exact ⟨b',h⟩
  obtain ⟨b1',hb1⟩:=k i b1 hgi
  obtain ⟨b2',hb2⟩:=k j b2 hgj
  exact hi.heap.inj i j b1' b2' l1 l2 hb1 hb2 hne hli hlj hn1 hn2
theorem cell_at {b o:Nat} {c:Array Value} {e:TypeId} (h:w.heap[b]? = some (.cells c e (0,0))):w.cell? ⟨b,o,none⟩=c[o]? ∧ w.frozen? ⟨b,o,none⟩=false:=by
 constructor
 ·simp [World.cell?,h]
 ·simp [World.frozen?,h]
end
end Go.Proofs.YthdimnlkcgchoaaGreat
