/- slices.Sort at []string: the kit's shelf's contract laid at this program (by lay.py), and as a contract of the lift. -/
import Derived.Test.YtlkfbblapimhoaaGreatDoorVA
import Derived.Test.YtlkfbblapimhoaaGreatDoorLS
import Derived.Shelf.Slices.In.SortNone
import Derived.Shelf.Sort.Plain
import Derived.Sort.OwnSortedInts
import Derived.Sort.OwnSorted
namespace Go.Proofs.YtlkfbblapimhoaaGreatDoor
set_option linter.unusedSectionVars false
set_option linter.unusedSimpArgs false
set_option linter.unusedVariables false
open Go.Shelf Go.Sort Go.RowKit
def sortStrLay_ren:Go.Shelf.Ren:=⟨fun | 125=>110 | 128=>146 | 129=>147 | 190=>65 | 258=>109 | 302=>137 | 303=>138 | 304=>139 | 305=>140 | 306=>141 | 307=>142 | 308=>143 | 309=>144 | 310=>145 | 329=>161 | 330=>162 | 333=>160 | 334=>163 | 335=>164 | 336=>165 | 344=>175 | n=>n,fun | 0=>0 | 3=>3 | 4=>4 | 5=>5 | 9=>9 | 31=>53 | 46=>178 | 51=>199 | 53=>201 | 131=>120 | 182=>192 | 183=>193 | 218=>207 | 222=>211 | 228=>223 | 229=>160 | n=>n,fun n=>n⟩
theorem sortStrLay:Go.Proofs.Lays.n190 Tryz.prog sortStrLay_ren:={
  mixed:=by kernel_rfl
  f125:=Tryz.func110.trans (congrArg some (by kernel_rfl))
  f128:=Tryz.func146.trans (congrArg some (by kernel_rfl))
  f129:=Tryz.func147.trans (congrArg some (by kernel_rfl))
  f190:=Tryz.func65.trans (congrArg some (by kernel_rfl))
  f258:=Tryz.func109.trans (congrArg some (by kernel_rfl))
  f302:=Tryz.func137.trans (congrArg some (by kernel_rfl))
  f303:=Tryz.func138.trans (congrArg some (by kernel_rfl))
  f304:=Tryz.func139.trans (congrArg some (by kernel_rfl))
  f305:=Tryz.func140.trans (congrArg some (by kernel_rfl))
  f306:=Tryz.func141.trans (congrArg some (by kernel_rfl))
  f307:=Tryz.func142.trans (congrArg some (by kernel_rfl))
  f308:=Tryz.func143.trans (congrArg some (by kernel_rfl))
  f309:=Tryz.func144.trans (congrArg some (by kernel_rfl))
  f310:=Tryz.func145.trans (congrArg some (by kernel_rfl))
  f329:=Tryz.func161.trans (congrArg some (by kernel_rfl))
  f330:=Tryz.func162.trans (congrArg some (by kernel_rfl))
  f333:=Tryz.func160.trans (congrArg some (by kernel_rfl))
  f334:=Tryz.func163.trans (congrArg some (by kernel_rfl))
  f335:=Tryz.func164.trans (congrArg some (by kernel_rfl))
  f336:=Tryz.func165.trans (congrArg some (by kernel_rfl))
  f344:=Tryz.func175.trans (congrArg some (by kernel_rfl))
  t0:=Tryz.underlying0
  a0:=Tryz.isAgg0
  z0:=Tryz.sizeOf0
  v0:=Tryz.zeroValue0
  t3:=Tryz.underlying3
  a3:=Tryz.isAgg3
  z3:=Tryz.sizeOf3
  v3:=Tryz.zeroValue3
  t4:=Tryz.underlying4
  a4:=Tryz.isAgg4
  z4:=Tryz.sizeOf4
  v4:=Tryz.zeroValue4
  t5:=Tryz.underlying5
  a5:=Tryz.isAgg5
  z5:=Tryz.sizeOf5
  v5:=Tryz.zeroValue5
  t9:=Tryz.underlying9
  a9:=Tryz.isAgg9
  z9:=Tryz.sizeOf9
  v9:=Tryz.zeroValue9
  t31:=Tryz.underlying53
  a31:=Tryz.isAgg53
  z31:=Tryz.sizeOf53
  v31:=Tryz.zeroValue53
  t46:=Tryz.underlying178
  a46:=Tryz.isAgg178
  z46:=Tryz.sizeOf178
  v46:=Tryz.zeroValue178
  t51:=Tryz.underlying199
  a51:=Tryz.isAgg199
  z51:=Tryz.sizeOf199
  v51:=Tryz.zeroValue199
  t53:=Tryz.underlying201
  a53:=Tryz.isAgg201
  z53:=Tryz.sizeOf201
  v53:=Tryz.zeroValue201
  t131:=Tryz.underlying120
  a131:=Tryz.isAgg120
  z131:=Tryz.sizeOf120
  v131:=Tryz.zeroValue120
  t182:=Tryz.underlying192
  a182:=Tryz.isAgg192
  z182:=Tryz.sizeOf192
  v182:=Tryz.zeroValue192
  t183:=Tryz.underlying193
  a183:=Tryz.isAgg193
  z183:=Tryz.sizeOf193
  v183:=Tryz.zeroValue193
  t218:=Tryz.underlying207
  a218:=Tryz.isAgg207
  z218:=Tryz.sizeOf207
  v218:=Tryz.zeroValue207
  t222:=Tryz.underlying211
  a222:=Tryz.isAgg211
  z222:=Tryz.sizeOf211
  v222:=Tryz.zeroValue211
  t228:=Tryz.underlying223
  a228:=Tryz.isAgg223
  z228:=Tryz.sizeOf223
  v228:=Tryz.zeroValue223
  t229:=Tryz.underlying160
  a229:=Tryz.isAgg160
  z229:=Tryz.sizeOf160
  v229:=Tryz.zeroValue160
}
theorem hset_self {id:Nat} {b:Blk U El}:∀ {h:Heap U El},hget h id=some b→hset h id b=h:=by
  intro h
  induction h with
  | nil=>intro hg; cases hg
  | cons p h ih =>
    obtain ⟨j,c⟩:=p
    intro hg
    simp only [hget] at hg
    simp only [hset]
    cases e:Nat.beq j id with
    | true=>rw [e] at hg; cases hg; rfl
    | false=>rw [e] at hg; rw [cond_false,ih hg]
noncomputable def sortS (xs:List (List UInt8)):List (List UInt8):=xs.mergeSort fun x y=>decide (x≤y)
noncomputable def sortSSp:SpM U El:=fun d args st k=>match args with
  | [.ful id] => match hget st.h id with
    | some (.rows .str xs)=>chk (nle (List.length (α:=List UInt8) xs) 100000) (k (.tup []) ⟨st.t,hset st.h id (.rows .str (sortS xs))⟩)
    | _=>none
  | _=>none
theorem sortS_nil:sortS []=[]:=by simp [sortS]
set_option maxHeartbeats 1000000 in
theorem sortSOk {X : Ctx U El} (hE : X.E = E) (hX : CtxOk Tryz.prog X) : SpMOk Tryz.prog X 65 sortSSp := by
  refine ⟨Tryz.call65,?_⟩
  intro B S0 w0 S ρ st a w d args vs k r hi hr hv
  unfold sortSSp at hv
  split at hv
  · rename_i id
    split at hv
    · rename_i xs0 hg
      obtain ⟨xs,hxs⟩:∃ xs:List (List UInt8),xs=xs0:=⟨_,rfl⟩
      subst hxs
      obtain ⟨hck,hk⟩:=chk_some hv
      have hlen:=nleI hck
      obtain ⟨v1,rfl,r1⟩:∃ v1,vs=#[v1]∧Rel X.E S ρ w (.ful id) v1:=by
        obtain ⟨h1,h2⟩:=hr
        match vs,h1,h2 with
        | ⟨[v1]⟩,_,h2=>exact ⟨v1,rfl,h2 0 _ v1 rfl rfl⟩
      by_cases hz:List.length (α:=List UInt8) xs=0
      · have e0 : xs = [] := List.eq_nil_of_length_eq_zero hz
        subst e0
        obtain ⟨p,cap,rfl⟩:∃ p cap,v1 = .slice p 0 cap:=by
          cases r1 with
          | fulN _ l' hl' _ _=>exact ⟨_,_,rfl⟩
          | ful _ cap l' hl' e1 e2 =>
            obtain ⟨l,hl1,c1,c2,_⟩:=hi.heap.get _ _ hg
            rw [hl1] at hl'; cases hl'
            exact ⟨_,cap,by rw [c2]; rfl⟩
        refine (Any.slices_Sort_string_none sortStrLay p cap w).mono ?_
        rintro e w' ⟨rfl,rfl⟩
        have hk':k (.tup []) ⟨st.t,hset st.h id (.rows .str (sortS []))⟩=some r:=hk
        rw [sortS_nil] at hk'
        rw [hset_self hg] at hk'
        exact ⟨_,_,st,S,ρ,rfl,hk',hi,.tup _ _ rfl (by simp)⟩
      have hpos:0 < List.length (α:=List UInt8) xs:=by omega
      have hsz:X.E.sz .str=1:=by rw [hE]; rfl
      have henc:∀ x:List UInt8,X.E.enc .str x=[.str x]:=fun x=>by rw [hE]; rfl
      obtain ⟨l,hl1,hbl⟩:=hi.heap.get _ _ hg
      have hbl':=hbl
      obtain ⟨c1,c2,c3,c4⟩:=hbl
      have c2':l.ln=List.length (α:=List UInt8) xs:=c2
      have c3':List.length (α:=List UInt8) xs * 1≤l.n:=by rw [← hsz]; exact c3
      have hn0:l.n≠0:=by omega
      obtain ⟨c5,c6,cur,hh,c7,c8⟩:=c4 hn0
      have hcell:∀ (i:Nat) (x:List UInt8),xs[i]? = some x→cur[i]? = some (encStr x):=fun i x hx=>by
        obtain ⟨v,hv1,hr1⟩:=c8 i x 0 (.str x) hx (by rw [henc]; rfl)
        rw [hsz,Nat.mul_one,Nat.add_zero] at hv1
        cases hr1
        exact hv1
      have htake:cur.toList.take (List.length (α:=List UInt8) xs)=xs.map encStr:=by
        apply List.ext_getElem?
        intro i
        by_cases hil:i < List.length (α:=List UInt8) xs
        · rw [List.getElem?_take_of_lt hil, Array.getElem?_toList, hcell i xs[i] (List.getElem?_eq_getElem hil)]
          simp [hil]
        · rw [List.getElem?_take_eq_none (by omega),List.getElem?_eq_none (by simp; omega)]
      have hblk:l.b < w.heap.size:=(hbl'.lt hn0).1
      cases r1 with
      | fulN _ l' hl' e1 _=>rw [hl1] at hl'; cases hl'; exact absurd e1 hn0
      | ful _ cap l' hl' e1 e2 =>
        rw [hl1] at hl'; cases hl'
        rw [c2']
        refine (Any.slices_Sort_string sortStrLay l.b 0 cap xs w (holds_of_block hh htake) hblk (by omega)).mono ?_
        rintro e w' ⟨rfl,n,os,rfl⟩
        have hg':=grownBy_sorted (w:=w) (g:=l.b) (n:=n) (os:=os) (sortS xs).toArray
        have hs:SameAt (fun k=>k=l.b) w (grow (putRow encStr (Sort.ahead w n) l.b 0 (sortS xs).toArray) os):=⟨rfl,rfl,rfl,hg'.size,fun _=>Nat.le_add_right _ _,fun k hk hkb=>hg'.block k hk (fun e=>hkb (by cases e; rfl))⟩
        have hlen':(sortS xs).length=List.length (α:=List UInt8) xs:=List.length_mergeSort _
        have hcs:List.length (α:=List UInt8) xs≤cur.size:=by omega
        have htk:=take_putCells cur (sortS xs) (by omega)
        refine ⟨_,_,_,S,ρ,rfl,hk,hi.rewrite hg hl1 hn0 hs ⟨c1,?_,?_,fun _=>⟨c5,c6,_,heap_sorted (sortS xs).toArray hh,by simp [putCells,c7],fun i x j c hx hc => ?_⟩⟩,.tup _ _ rfl (by simp)⟩
        · show l.ln = (sortS xs).length
          rw [hlen',c2']
        · show (sortS xs).length * X.E.sz .str ≤ l.n
          rw [hlen',hsz]; exact c3'
        · have hc' : ([.str x] : List (AV U El))[j]? = some c := (congrArg (fun q : List (AV U El) => q[j]?) (henc x)).symm.trans hc
          match j,hc' with
          | 0, hc' =>
            cases hc'
            refine ⟨encStr x,?_,.str _⟩
            rw [hsz,Nat.mul_one,Nat.add_zero]
            have hil:i < (sortS xs).length:=(List.getElem?_eq_some_iff.1 hx).1
            have h1:((putCells encStr 0 (sortS xs).toArray cur).toList.take (sortS xs).length)[i]? = ((sortS xs).map encStr)[i]? := by rw [htk]
            rw [List.getElem?_take_of_lt hil,Array.getElem?_toList] at h1
            rw [h1,List.getElem?_map]
            exact congrArg (Option.map encStr) hx
    · cases hv
  · cases hv
end Go.Proofs.YtlkfbblapimhoaaGreatDoor
