/- slices.Sort at []int: the kit's shelf's contract laid at this program (by lay.py), and as a contract of the lift. -/
import Derived.Test.YthdklallcljhlaaVA
import Derived.Test.YthdklallcljhlaaLS
import Derived.Shelf.Slices.In.SortNone
import Derived.Shelf.Sort.Plain
import Derived.Sort.OwnSortedInts
namespace Go.Proofs.Ythdklallcljhlaa
set_option linter.unusedSectionVars false
set_option linter.unusedSimpArgs false
set_option linter.unusedVariables false
open Go.Shelf Go.Sort Go.RowKit
def sortIntLay_ren:Go.Shelf.Ren:=⟨fun | 125=>83 | 128=>93 | 129=>94 | 189=>74 | 215=>73 | 216=>90 | 257=>82 | 294=>84 | 295=>85 | 296=>86 | 297=>87 | 298=>88 | 299=>89 | 300=>91 | 301=>92 | 328=>95 | 329=>96 | 330=>97 | 331=>98 | 332=>99 | 343=>100 | n=>n,fun | 0=>0 | 3=>3 | 4=>4 | 5=>5 | 9=>9 | 28=>46 | 46=>104 | 51=>114 | 53=>116 | 131=>111 | 182=>106 | 183=>107 | 218=>117 | 222=>121 | 228=>123 | 229=>29 | n=>n,fun n=>n⟩
theorem jL:Go.Proofs.Lays.n189 Try.prog sortIntLay_ren:={
  mixed:=by kernel_rfl
  f125:=Try.func83.trans (congrArg some (by kernel_rfl))
  f128:=Try.func93.trans (congrArg some (by kernel_rfl))
  f129:=Try.func94.trans (congrArg some (by kernel_rfl))
  f189:=Try.func74.trans (congrArg some (by kernel_rfl))
  f215:=Try.func73.trans (congrArg some (by kernel_rfl))
  f216:=Try.func90.trans (congrArg some (by kernel_rfl))
  f257:=Try.func82.trans (congrArg some (by kernel_rfl))
  f294:=Try.func84.trans (congrArg some (by kernel_rfl))
  f295:=Try.func85.trans (congrArg some (by kernel_rfl))
  f296:=Try.func86.trans (congrArg some (by kernel_rfl))
  f297:=Try.func87.trans (congrArg some (by kernel_rfl))
  f298:=Try.func88.trans (congrArg some (by kernel_rfl))
  f299:=Try.func89.trans (congrArg some (by kernel_rfl))
  f300:=Try.func91.trans (congrArg some (by kernel_rfl))
  f301:=Try.func92.trans (congrArg some (by kernel_rfl))
  f328:=Try.func95.trans (congrArg some (by kernel_rfl))
  f329:=Try.func96.trans (congrArg some (by kernel_rfl))
  f330:=Try.func97.trans (congrArg some (by kernel_rfl))
  f331:=Try.func98.trans (congrArg some (by kernel_rfl))
  f332:=Try.func99.trans (congrArg some (by kernel_rfl))
  f343:=Try.func100.trans (congrArg some (by kernel_rfl))
  t0:=Try.underlying0
  a0:=Try.isAgg0
  z0:=Try.sizeOf0
  v0:=Try.zeroValue0
  t3:=Try.underlying3
  a3:=Try.isAgg3
  z3:=Try.sizeOf3
  v3:=Try.zeroValue3
  t4:=Try.underlying4
  a4:=Try.isAgg4
  z4:=Try.sizeOf4
  v4:=Try.zeroValue4
  t5:=Try.underlying5
  a5:=Try.isAgg5
  z5:=Try.sizeOf5
  v5:=Try.zeroValue5
  t9:=Try.underlying9
  a9:=Try.isAgg9
  z9:=Try.sizeOf9
  v9:=Try.zeroValue9
  t28:=Try.underlying46
  a28:=Try.isAgg46
  z28:=Try.sizeOf46
  v28:=Try.zeroValue46
  t46:=Try.underlying104
  a46:=Try.isAgg104
  z46:=Try.sizeOf104
  v46:=Try.zeroValue104
  t51:=Try.underlying114
  a51:=Try.isAgg114
  z51:=Try.sizeOf114
  v51:=Try.zeroValue114
  t53:=Try.underlying116
  a53:=Try.isAgg116
  z53:=Try.sizeOf116
  v53:=Try.zeroValue116
  t131:=Try.underlying111
  a131:=Try.isAgg111
  z131:=Try.sizeOf111
  v131:=Try.zeroValue111
  t182:=Try.underlying106
  a182:=Try.isAgg106
  z182:=Try.sizeOf106
  v182:=Try.zeroValue106
  t183:=Try.underlying107
  a183:=Try.isAgg107
  z183:=Try.sizeOf107
  v183:=Try.zeroValue107
  t218:=Try.underlying117
  a218:=Try.isAgg117
  z218:=Try.sizeOf117
  v218:=Try.zeroValue117
  t222:=Try.underlying121
  a222:=Try.isAgg121
  z222:=Try.sizeOf121
  v222:=Try.zeroValue121
  t228:=Try.underlying123
  a228:=Try.isAgg123
  z228:=Try.sizeOf123
  v228:=Try.zeroValue123
  t229:=Try.underlying29
  a229:=Try.isAgg29
  z229:=Try.sizeOf29
  v229:=Try.zeroValue29
}
noncomputable def sortI (xs:List Int):List Int:=xs.mergeSort fun x y=>decide (x≤y)
noncomputable def sortISp:SpM U El:=fun d args st k=>match args with
  | [.ful id] => match af st.h id with
    | some (.rows .int xs)=>chk (nle (List.length (α:=Int) xs) 100000) (k (.tup []) ⟨st.t,br st.h id (.rows .int (sortI xs))⟩)
    | _=>none
  | _=>none
theorem oT {id:Nat} {b:Blk U El}:∀ {h:ar U El},af h id=some b→br h id b=h:=by
  intro h
  induction h with
  | nil=>intro hg; cases hg
  | cons p h ih =>
    obtain ⟨j,c⟩:=p
    intro hg
    simp only [af] at hg
    simp only [br]
    cases e:Nat.beq j id with
    | true=>rw [e] at hg; cases hg; rfl
    | false=>rw [e] at hg; rw [cond_false,ih hg]
theorem oU:sortI []=[]:=by simp [sortI]
set_option maxHeartbeats 1000000 in
theorem nY {X : Ctx U El} (hE : X.E = E) (hX : CtxOk Try.prog X) : eJ Try.prog X 74 sortISp := by
  refine ⟨Try.call74,?_⟩
  intro B S0 w0 S ρ st a w d args vs k r hi hr hv
  unfold sortISp at hv
  split at hv
  · rename_i id
    split at hv
    · rename_i xs0 hg
      obtain ⟨xs,hxs⟩:∃ xs:List Int,xs=xs0:=⟨_,rfl⟩
      subst hxs
      obtain ⟨hck,hk⟩:=ab hv
      have hlen:=cn hck
      obtain ⟨v1,rfl,r1⟩:∃ v1,vs=#[v1]∧Rel X.E S ρ w (.ful id) v1:=by
        obtain ⟨h1,h2⟩:=hr
        match vs,h1,h2 with
        | ⟨[v1]⟩,_,h2=>exact ⟨v1,rfl,h2 0 _ v1 rfl rfl⟩
      by_cases hz:List.length (α:=Int) xs=0
      · have e0 : xs = [] := List.eq_nil_of_length_eq_zero hz
        subst e0
        obtain ⟨p,cap,rfl⟩:∃ p cap,v1 = .slice p 0 cap:=by
          cases r1 with
          | fulN _ l' hl' _ _=>exact ⟨_,_,rfl⟩
          | ful _ cap l' hl' e1 e2 =>
            obtain ⟨l,hl1,c1,c2,_⟩:=hi.heap.get _ _ hg
            rw [hl1] at hl'; cases hl'
            exact ⟨_,cap,by rw [c2]; rfl⟩
        refine (Any.slices_Sort_int_none jL p cap w).mono ?_
        rintro e w' ⟨rfl,rfl⟩
        have hk':k (.tup []) ⟨st.t,br st.h id (.rows .int (sortI []))⟩=some r:=hk
        rw [oU] at hk'
        rw [oT hg] at hk'
        exact ⟨_,_,st,S,ρ,rfl,hk',hi,.tup _ _ rfl (by simp)⟩
      have hpos:0 < List.length (α:=Int) xs:=by omega
      have hsz:X.E.sz .int=1:=by rw [hE]; rfl
      have henc:∀ x:Int,X.E.enc .int x=[.int .i64 x]:=fun x=>by rw [hE]; rfl
      obtain ⟨l,hl1,hbl⟩:=hi.heap.get _ _ hg
      have hbl':=hbl
      obtain ⟨c1,c2,c3,c4⟩:=hbl
      have c2':l.ln=List.length (α:=Int) xs:=c2
      have c3':List.length (α:=Int) xs * 1≤l.n:=by rw [← hsz]; exact c3
      have hn0:l.n≠0:=by omega
      obtain ⟨c5,c6,cur,hh,c7,c8⟩:=c4 hn0
      have hcell:∀ (i:Nat) (x:Int),xs[i]? = some x→cur[i]? = some (.int .i64 x):=fun i x hx=>by
        obtain ⟨v,hv1,hr1⟩:=c8 i x 0 (.int .i64 x) hx (by rw [henc]; rfl)
        rw [hsz,Nat.mul_one,Nat.add_zero] at hv1
        cases hr1
        exact hv1
      have htake:cur.toList.take (List.length (α:=Int) xs)=xs.map (Value.int .i64):=by
        apply List.ext_getElem?
        intro i
        by_cases hil:i < List.length (α:=Int) xs
        · rw [List.getElem?_take_of_lt hil, Array.getElem?_toList, hcell i xs[i] (List.getElem?_eq_getElem hil)]
          simp [hil]
        · rw [List.getElem?_take_eq_none (by omega),List.getElem?_eq_none (by simp; omega)]
      have hblk:l.b < w.heap.size:=(hbl'.lt hn0).1
      cases r1 with
      | fulN _ l' hl' e1 _=>rw [hl1] at hl'; cases hl'; exact absurd e1 hn0
      | ful _ cap l' hl' e1 e2 =>
        rw [hl1] at hl'; cases hl'
        rw [c2']
        refine (Any.slices_Sort_int jL l.b 0 cap xs w (holds_of_blockI hh htake) hblk (by omega)).mono ?_
        rintro e w' ⟨rfl,n,os,rfl⟩
        have hg':=grownBy_sortedI (w:=w) (g:=l.b) (n:=n) (os:=os) (sortI xs).toArray
        have hs:SameAt (fun k=>k=l.b) w (grow (putRow (Value.int .i64) (Sort.ahead w n) l.b 0 (sortI xs).toArray) os):=⟨rfl,rfl,rfl,hg'.size,Nat.le_add_right _ _,fun k hk hkb=>hg'.block k hk (fun e=>hkb (by cases e; rfl))⟩
        have hlen':(sortI xs).length=List.length (α:=Int) xs:=List.length_mergeSort _
        have hcs:List.length (α:=Int) xs≤cur.size:=by omega
        have htk:=take_putCellsI cur (sortI xs) (by omega)
        refine ⟨_,_,_,S,ρ,rfl,hk,hi.rewrite hg hl1 hn0 hs ⟨c1,?_,?_,fun _=>⟨c5,c6,_,heap_sortedI (sortI xs).toArray hh,by simp [putCells,c7],fun i x j c hx hc => ?_⟩⟩,.tup _ _ rfl (by simp)⟩
        · show l.ln = (sortI xs).length
          rw [hlen',c2']
        · show (sortI xs).length * X.E.sz .int ≤ l.n
          rw [hlen',hsz]; exact c3'
        · have hc' : ([.int .i64 x] : List (AV U El))[j]? = some c := (congrArg (fun q : List (AV U El) => q[j]?) (henc x)).symm.trans hc
          match j,hc' with
          | 0, hc' =>
            cases hc'
            refine ⟨.int .i64 x,?_,.int _ _⟩
            rw [hsz,Nat.mul_one,Nat.add_zero]
            have hil:i < (sortI xs).length:=(List.getElem?_eq_some_iff.1 hx).1
            have h1:((putCells (Value.int .i64) 0 (sortI xs).toArray cur).toList.take (sortI xs).length)[i]? = ((sortI xs).map (Value.int .i64))[i]? := by rw [htk]
            rw [List.getElem?_take_of_lt hil,Array.getElem?_toList] at h1
            rw [h1,List.getElem?_map]
            exact congrArg (Option.map (Value.int .i64)) hx
    · cases hv
  · cases hv
end Go.Proofs.Ythdklallcljhlaa
