import Derived.Test.YthdimnlkcgchoaaGreatVM
import Derived.Test.YthdimnlkcgchoaaGreatLS
import Derived.Shelf.Slices.In.SortNone
import Derived.Shelf.Sort.Plain
import Derived.Sort.OwnSortedInts
namespace Go.Proofs.YthdimnlkcgchoaaGreat
set_option linter.all false
open Go.Shelf Go.Sort Go.RowKit
def sortIntLay_ren:Go.Shelf.Ren:=⟨fun | 125=>147 | 128=>171 | 129=>172 | 189=>141 | 215=>196 | 216=>184 | 257=>159 | 294=>178 | 295=>179 | 296=>180 | 297=>181 | 298=>182 | 299=>183 | 300=>185 | 301=>186 | 328=>193 | 329=>188 | 330=>189 | 331=>194 | 332=>195 | 343=>198 | n=>n,fun | 0=>0 | 3=>3 | 4=>4 | 5=>5 | 9=>9 | 28=>29 | 46=>178 | 51=>132 | 53=>196 | 131=>152 | 182=>187 | 183=>188 | 218=>204 | 222=>208 | 228=>212 | 229=>213 | n=>n,fun n=>n⟩
theorem sortIntLay:Go.Proofs.Lays.n189 Tryz.prog sortIntLay_ren:={
 mixed:=by kernel_rfl
 f125:=Tryz.func147.trans (congrArg some (by kernel_rfl))
 f128:=Tryz.func171.trans (congrArg some (by kernel_rfl))
 f129:=Tryz.func172.trans (congrArg some (by kernel_rfl))
 f189:=Tryz.func141.trans (congrArg some (by kernel_rfl))
 f215:=Tryz.func196.trans (congrArg some (by kernel_rfl))
 f216:=Tryz.func184.trans (congrArg some (by kernel_rfl))
 f257:=Tryz.func159.trans (congrArg some (by kernel_rfl))
 f294:=Tryz.func178.trans (congrArg some (by kernel_rfl))
 f295:=Tryz.func179.trans (congrArg some (by kernel_rfl))
 f296:=Tryz.func180.trans (congrArg some (by kernel_rfl))
 f297:=Tryz.func181.trans (congrArg some (by kernel_rfl))
 f298:=Tryz.func182.trans (congrArg some (by kernel_rfl))
 f299:=Tryz.func183.trans (congrArg some (by kernel_rfl))
 f300:=Tryz.func185.trans (congrArg some (by kernel_rfl))
 f301:=Tryz.func186.trans (congrArg some (by kernel_rfl))
 f328:=Tryz.func193.trans (congrArg some (by kernel_rfl))
 f329:=Tryz.func188.trans (congrArg some (by kernel_rfl))
 f330:=Tryz.func189.trans (congrArg some (by kernel_rfl))
 f331:=Tryz.func194.trans (congrArg some (by kernel_rfl))
 f332:=Tryz.func195.trans (congrArg some (by kernel_rfl))
 f343:=Tryz.func198.trans (congrArg some (by kernel_rfl))
 t0:=Tryz.underlying0
 a0:=Tryz.isAgg0
 z0:=Tryz.sizeOf0
 v0:=Tryz.zeroValue0
 t3:=Tryz.underlying3
 a3:=Tryz.isAgg3
 z3:=Tryz.sizeOf3
 v3:=Tryz.zeroValue3
 t4:=Tryz.underlying4
 a4:=Tryz.isAgg4
 z4:=Tryz.sizeOf4
 v4:=Tryz.zeroValue4
 t5:=Tryz.underlying5
 a5:=Tryz.isAgg5
 z5:=Tryz.sizeOf5
 v5:=Tryz.zeroValue5
 t9:=Tryz.underlying9
 a9:=Tryz.isAgg9
 z9:=Tryz.sizeOf9
 v9:=Tryz.zeroValue9
 t28:=Tryz.underlying29
 a28:=Tryz.isAgg29
 z28:=Tryz.sizeOf29
 v28:=Tryz.zeroValue29
 t46:=Tryz.underlying178
 a46:=Tryz.isAgg178
 z46:=Tryz.sizeOf178
 v46:=Tryz.zeroValue178
 t51:=Tryz.underlying132
 a51:=Tryz.isAgg132
 z51:=Tryz.sizeOf132
 v51:=Tryz.zeroValue132
 t53:=Tryz.underlying196
 a53:=Tryz.isAgg196
 z53:=Tryz.sizeOf196
 v53:=Tryz.zeroValue196
 t131:=Tryz.underlying152
 a131:=Tryz.isAgg152
 z131:=Tryz.sizeOf152
 v131:=Tryz.zeroValue152
 t182:=Tryz.underlying187
 a182:=Tryz.isAgg187
 z182:=Tryz.sizeOf187
 v182:=Tryz.zeroValue187
 t183:=Tryz.underlying188
 a183:=Tryz.isAgg188
 z183:=Tryz.sizeOf188
 v183:=Tryz.zeroValue188
 t218:=Tryz.underlying204
 a218:=Tryz.isAgg204
 z218:=Tryz.sizeOf204
 v218:=Tryz.zeroValue204
 t222:=Tryz.underlying208
 a222:=Tryz.isAgg208
 z222:=Tryz.sizeOf208
 v222:=Tryz.zeroValue208
 t228:=Tryz.underlying212
 a228:=Tryz.isAgg212
 z228:=Tryz.sizeOf212
 v228:=Tryz.zeroValue212
 t229:=Tryz.underlying213
 a229:=Tryz.isAgg213
 z229:=Tryz.sizeOf213
 v229:=Tryz.zeroValue213
}
noncomputable def sortI (xs:List Int):List Int:=xs.mergeSort fun x y=>decide (x≤y)
noncomputable def sortISp:SpM U El:=fun d args st k=>match args with
  | [.ful id] => match hget st.h id with
    | some (.rows .int xs)=>chk (nle (List.length (α:=Int) xs) 100000) (k (.tup []) ⟨st.t,hset st.h id (.rows .int (sortI xs))⟩)
    | _=>none
  | _=>none
theorem hset_self {id:Nat} {b:Blk U El}:∀ {h:Heap U El},hget h id=some b→hset h id b=h:=by
  intro h
  induction h with
  | nil=>intro hg; cases hg
  | cons p h ih =>
    obtain ⟨j,c⟩:=p
    intro hg
    simp only [hget] at hg
    simp only [hset]
    cases e:Nat.beq j id with
    | true=>rw [e] at hg; cases hg; rfl
    | false=>rw [e] at hg; rw [cond_false,ih hg]
theorem sortI_nil:sortI []=[]:=by simp [sortI]
set_option maxHeartbeats 1000000 in
theorem sortIOk {X : Ctx U El} (hE : X.E = E) (hX : CtxOk Tryz.prog X) : SpMOk Tryz.prog X 141 sortISp := by
  refine ⟨Tryz.call141,?_⟩
  intro B S0 w0 S ρ st a w d args vs k r hi hr hv
  unfold sortISp at hv
  split at hv
  · rename_i id
    split at hv
    · rename_i xs0 hg
      obtain ⟨xs,hxs⟩:∃ xs:List Int,xs=xs0:=⟨_,rfl⟩
      subst hxs
      obtain ⟨hck,hk⟩:=chk_some hv
      have hlen:=nleI hck
      obtain ⟨v1,rfl,r1⟩:∃ v1,vs=#[v1]∧Rel X.E S ρ w (.ful id) v1:=by
        obtain ⟨h1,h2⟩:=hr
        match vs,h1,h2 with
        | ⟨[v1]⟩,_,h2=>exact ⟨v1,rfl,h2 0 _ v1 rfl rfl⟩
      by_cases hz:List.length (α:=Int) xs=0
      · have e0 : xs = [] := List.eq_nil_of_length_eq_zero hz
        subst e0
        obtain ⟨p,cap,rfl⟩:∃ p cap,v1 = .slice p 0 cap:=by
          cases r1 with
          | fulN _ l' hl' _ _=>exact ⟨_,_,rfl⟩
          | ful _ cap l' hl' e1 e2 =>
            obtain ⟨l,hl1,c1,c2,_⟩:=hi.heap.get _ _ hg
            rw [hl1] at hl'; cases hl'
            exact ⟨_,cap,by rw [c2]; rfl⟩
        refine (Any.slices_Sort_int_none sortIntLay p cap w).mono ?_
        rintro e w' ⟨rfl,rfl⟩
        have hk':k (.tup []) ⟨st.t,hset st.h id (.rows .int (sortI []))⟩=some r:=hk
        rw [sortI_nil] at hk'
        rw [hset_self hg] at hk'
        exact ⟨_,_,st,S,ρ,rfl,hk',hi,.tup _ _ rfl (by simp)⟩
      have hpos:0 < List.length (α:=Int) xs:=by omega
      have hsz:X.E.sz .int=1:=by rw [hE]; rfl
      have henc:∀ x:Int,X.E.enc .int x=[.int .i64 x]:=fun x=>by rw [hE]; rfl
      obtain ⟨l,hl1,hbl⟩:=hi.heap.get _ _ hg
      have hbl':=hbl
      obtain ⟨c1,c2,c3,c4⟩:=hbl
      have c2':l.ln=List.length (α:=Int) xs:=c2
      have c3':List.length (α:=Int) xs * 1≤l.n:=by rw [← hsz]; exact c3
      have hn0:l.n≠0:=by omega
      obtain ⟨c5,c6,cur,hh,c7,c8⟩:=c4 hn0
      have hcell:∀ (i:Nat) (x:Int),xs[i]? = some x→cur[i]? = some (.int .i64 x):=fun i x hx=>by
        obtain ⟨v,hv1,hr1⟩:=c8 i x 0 (.int .i64 x) hx (by rw [henc]; rfl)
        rw [hsz,Nat.mul_one,Nat.add_zero] at hv1
        cases hr1
        exact hv1
      have htake:cur.toList.take (List.length (α:=Int) xs)=xs.map (Value.int .i64):=by
        apply List.ext_getElem?
        intro i
        by_cases hil:i < List.length (α:=Int) xs
        · rw [List.getElem?_take_of_lt hil, Array.getElem?_toList, hcell i xs[i] (List.getElem?_eq_getElem hil)]
          simp [hil]
        · rw [List.getElem?_take_eq_none (by omega),List.getElem?_eq_none (by simp; omega)]
      have hblk:l.b < w.heap.size:=(hbl'.lt hn0).1
      cases r1 with
      | fulN _ l' hl' e1 _=>rw [hl1] at hl'; cases hl'; exact absurd e1 hn0
      | ful _ cap l' hl' e1 e2 =>
        rw [hl1] at hl'; cases hl'
        rw [c2']
        refine (Any.slices_Sort_int sortIntLay l.b 0 cap xs w (holds_of_blockI hh htake) hblk (by omega)).mono ?_
        rintro e w' ⟨rfl,n,os,rfl⟩
        have hg':=grownBy_sortedI (w:=w) (g:=l.b) (n:=n) (os:=os) (sortI xs).toArray
        have hs:SameAt (fun k=>k=l.b) w (grow (putRow (Value.int .i64) (Sort.ahead w n) l.b 0 (sortI xs).toArray) os):=⟨rfl,rfl,rfl,hg'.size,fun _=>Nat.le_add_right _ _,fun k hk hkb=>hg'.block k hk (fun e=>hkb (by cases e; rfl))⟩
        have hlen':(sortI xs).length=List.length (α:=Int) xs:=List.length_mergeSort _
        have hcs:List.length (α:=Int) xs≤cur.size:=by omega
        have htk:=take_putCellsI cur (sortI xs) (by omega)
        refine ⟨_,_,_,S,ρ,rfl,hk,hi.rewrite hg hl1 hn0 hs ⟨c1,?_,?_,fun _=>⟨c5,c6,_,heap_sortedI (sortI xs).toArray hh,by simp [putCells,c7],fun i x j c hx hc=>?_⟩⟩,.tup _ _ rfl (by simp)⟩
        · show l.ln = (sortI xs).length
          rw [hlen',c2']
        · show (sortI xs).length * X.E.sz .int ≤ l.n
          rw [hlen',hsz]; exact c3'
        · have hc' : ([.int .i64 x] : List (AV U El))[j]? = some c := (congrArg (fun q : List (AV U El) => q[j]?) (henc x)).symm.trans hc
          match j,hc' with
          | 0, hc' =>
            cases hc'
            refine ⟨.int .i64 x,?_,.int _ _⟩
            rw [hsz,Nat.mul_one,Nat.add_zero]
            have hil:i < (sortI xs).length:=(List.getElem?_eq_some_iff.1 hx).1
            have h1:((putCells (Value.int .i64) 0 (sortI xs).toArray cur).toList.take (sortI xs).length)[i]? = ((sortI xs).map (Value.int .i64))[i]?:=by rw [htk]
            rw [List.getElem?_take_of_lt hil,Array.getElem?_toList] at h1
            rw [h1,List.getElem?_map]
            exact congrArg (Option.map (Value.int .i64)) hx
    · cases hv
  · cases hv
end Go.Proofs.YthdimnlkcgchoaaGreat
