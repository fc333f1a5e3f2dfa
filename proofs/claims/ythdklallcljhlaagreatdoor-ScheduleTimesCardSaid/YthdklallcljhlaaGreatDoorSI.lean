/- slices.Sort at []int: the kit's shelf's contract laid at this program (by lay.py), and as a contract of the lift. -/
import Derived.Test.YthdklallcljhlaaGreatDoorVA
import Derived.Test.YthdklallcljhlaaGreatDoorLSG
import Derived.Shelf.Slices.In.SortNone
import Derived.Shelf.Sort.Plain
import Derived.Sort.OwnSortedInts
namespace Go.Proofs.YthdklallcljhlaaGreatDoor
set_option linter.unusedSectionVars false
set_option linter.unusedSimpArgs false
set_option linter.unusedVariables false
open Go.Shelf Go.Sort Go.RowKit
def sortIntLay_ren:Go.Shelf.Ren:=⟨fun | 125=>70 | 128=>102 | 129=>103 | 189=>89 | 215=>71 | 216=>151 | 257=>126 | 294=>145 | 295=>146 | 296=>147 | 297=>148 | 298=>149 | 299=>150 | 300=>152 | 301=>153 | 328=>161 | 329=>129 | 330=>130 | 331=>162 | 332=>163 | 343=>166 | n=>n,fun | 0=>0 | 3=>3 | 4=>4 | 5=>5 | 9=>9 | 28=>47 | 46=>109 | 51=>130 | 53=>132 | 131=>127 | 182=>122 | 183=>123 | 218=>149 | 222=>153 | 228=>168 | 229=>35 | n=>n,fun n=>n⟩
theorem jI:Go.Proofs.Lays.n189 Tryz.prog sortIntLay_ren:={
  mixed:=by kernel_rfl
  f125:=Tryz.func70.trans (congrArg some (by kernel_rfl))
  f128:=Tryz.func102.trans (congrArg some (by kernel_rfl))
  f129:=Tryz.func103.trans (congrArg some (by kernel_rfl))
  f189:=Tryz.func89.trans (congrArg some (by kernel_rfl))
  f215:=Tryz.func71.trans (congrArg some (by kernel_rfl))
  f216:=Tryz.func151.trans (congrArg some (by kernel_rfl))
  f257:=Tryz.func126.trans (congrArg some (by kernel_rfl))
  f294:=Tryz.func145.trans (congrArg some (by kernel_rfl))
  f295:=Tryz.func146.trans (congrArg some (by kernel_rfl))
  f296:=Tryz.func147.trans (congrArg some (by kernel_rfl))
  f297:=Tryz.func148.trans (congrArg some (by kernel_rfl))
  f298:=Tryz.func149.trans (congrArg some (by kernel_rfl))
  f299:=Tryz.func150.trans (congrArg some (by kernel_rfl))
  f300:=Tryz.func152.trans (congrArg some (by kernel_rfl))
  f301:=Tryz.func153.trans (congrArg some (by kernel_rfl))
  f328:=Tryz.func161.trans (congrArg some (by kernel_rfl))
  f329:=Tryz.func129.trans (congrArg some (by kernel_rfl))
  f330:=Tryz.func130.trans (congrArg some (by kernel_rfl))
  f331:=Tryz.func162.trans (congrArg some (by kernel_rfl))
  f332:=Tryz.func163.trans (congrArg some (by kernel_rfl))
  f343:=Tryz.func166.trans (congrArg some (by kernel_rfl))
  t0:=Tryz.underlying0
  a0:=Tryz.isAgg0
  z0:=Tryz.sizeOf0
  v0:=Tryz.zeroValue0
  t3:=Tryz.underlying3
  a3:=Tryz.isAgg3
  z3:=Tryz.sizeOf3
  v3:=Tryz.zeroValue3
  t4:=Tryz.underlying4
  a4:=Tryz.isAgg4
  z4:=Tryz.sizeOf4
  v4:=Tryz.zeroValue4
  t5:=Tryz.underlying5
  a5:=Tryz.isAgg5
  z5:=Tryz.sizeOf5
  v5:=Tryz.zeroValue5
  t9:=Tryz.underlying9
  a9:=Tryz.isAgg9
  z9:=Tryz.sizeOf9
  v9:=Tryz.zeroValue9
  t28:=Tryz.underlying47
  a28:=Tryz.isAgg47
  z28:=Tryz.sizeOf47
  v28:=Tryz.zeroValue47
  t46:=Tryz.underlying109
  a46:=Tryz.isAgg109
  z46:=Tryz.sizeOf109
  v46:=Tryz.zeroValue109
  t51:=Tryz.underlying130
  a51:=Tryz.isAgg130
  z51:=Tryz.sizeOf130
  v51:=Tryz.zeroValue130
  t53:=Tryz.underlying132
  a53:=Tryz.isAgg132
  z53:=Tryz.sizeOf132
  v53:=Tryz.zeroValue132
  t131:=Tryz.underlying127
  a131:=Tryz.isAgg127
  z131:=Tryz.sizeOf127
  v131:=Tryz.zeroValue127
  t182:=Tryz.underlying122
  a182:=Tryz.isAgg122
  z182:=Tryz.sizeOf122
  v182:=Tryz.zeroValue122
  t183:=Tryz.underlying123
  a183:=Tryz.isAgg123
  z183:=Tryz.sizeOf123
  v183:=Tryz.zeroValue123
  t218:=Tryz.underlying149
  a218:=Tryz.isAgg149
  z218:=Tryz.sizeOf149
  v218:=Tryz.zeroValue149
  t222:=Tryz.underlying153
  a222:=Tryz.isAgg153
  z222:=Tryz.sizeOf153
  v222:=Tryz.zeroValue153
  t228:=Tryz.underlying168
  a228:=Tryz.isAgg168
  z228:=Tryz.sizeOf168
  v228:=Tryz.zeroValue168
  t229:=Tryz.underlying35
  a229:=Tryz.isAgg35
  z229:=Tryz.sizeOf35
  v229:=Tryz.zeroValue35
}
noncomputable def sortI (xs:List Int):List Int:=xs.mergeSort fun x y=>decide (x≤y)
noncomputable def sortISp:SpM U El:=fun d args st k=>match args with
  | [.ful id] => match aa st.h id with
    | some (.rows .int xs)=>chk (nle (List.length (α:=Int) xs) 100000) (k (.tup []) ⟨st.t,a6 st.h id (.rows .int (sortI xs))⟩)
    | _=>none
  | _=>none
theorem pb {id:Nat} {b:Blk U El}:∀ {h:am U El},aa h id=some b→a6 h id b=h:=by
  intro h
  induction h with
  | nil=>intro hg; cases hg
  | cons p h ih =>
    obtain ⟨j,c⟩:=p
    intro hg
    simp only [aa] at hg
    simp only [a6]
    cases e:Nat.beq j id with
    | true=>rw [e] at hg; cases hg; rfl
    | false=>rw [e] at hg; rw [cond_false,ih hg]
theorem pc:sortI []=[]:=by simp [sortI]
set_option maxHeartbeats 1000000 in
theorem rn {X : Ctx U El} (hE : X.E = E) (hX : CtxOk Tryz.prog X) : ck Tryz.prog X 89 sortISp := by
  refine ⟨Tryz.call89,?_⟩
  intro B S0 w0 S ρ st a w d args vs k r hi hr hv
  unfold sortISp at hv
  split at hv
  · rename_i id
    split at hv
    · rename_i xs0 hg
      obtain ⟨xs,hxs⟩:∃ xs:List Int,xs=xs0:=⟨_,rfl⟩
      subst hxs
      obtain ⟨hck,hk⟩:=ab hv
      have hlen:=du hck
      obtain ⟨v1,rfl,r1⟩:∃ v1,vs=#[v1]∧Rel X.E S ρ w (.ful id) v1:=by
        obtain ⟨h1,h2⟩:=hr
        match vs,h1,h2 with
        | ⟨[v1]⟩,_,h2=>exact ⟨v1,rfl,h2 0 _ v1 rfl rfl⟩
      by_cases hz:List.length (α:=Int) xs=0
      · have e0 : xs = [] := List.eq_nil_of_length_eq_zero hz
        subst e0
        obtain ⟨p,cap,rfl⟩:∃ p cap,v1 = .slice p 0 cap:=by
          cases r1 with
          | fulN _ l' hl' _ _=>exact ⟨_,_,rfl⟩
          | ful _ cap l' hl' e1 e2 =>
            obtain ⟨l,hl1,c1,c2,_⟩:=hi.heap.get _ _ hg
            rw [hl1] at hl'; cases hl'
            exact ⟨_,cap,by rw [c2]; rfl⟩
        refine (Any.slices_Sort_int_none jI p cap w).mono ?_
        rintro e w' ⟨rfl,rfl⟩
        have hk':k (.tup []) ⟨st.t,a6 st.h id (.rows .int (sortI []))⟩=some r:=hk
        rw [pc] at hk'
        rw [pb hg] at hk'
        exact ⟨_,_,st,S,ρ,rfl,hk',hi,.tup _ _ rfl (by simp)⟩
      have hpos:0 < List.length (α:=Int) xs:=by omega
      have hsz:X.E.sz .int=1:=by rw [hE]; rfl
      have henc:∀ x:Int,X.E.enc .int x=[.int .i64 x]:=fun x=>by rw [hE]; rfl
      obtain ⟨l,hl1,hbl⟩:=hi.heap.get _ _ hg
      have hbl':=hbl
      obtain ⟨c1,c2,c3,c4⟩:=hbl
      have c2':l.ln=List.length (α:=Int) xs:=c2
      have c3':List.length (α:=Int) xs * 1≤l.n:=by rw [← hsz]; exact c3
      have hn0:l.n≠0:=by omega
      obtain ⟨c5,c6,cur,hh,c7,c8⟩:=c4 hn0
      have hcell:∀ (i:Nat) (x:Int),xs[i]? = some x→cur[i]? = some (.int .i64 x):=fun i x hx=>by
        obtain ⟨v,hv1,hr1⟩:=c8 i x 0 (.int .i64 x) hx (by rw [henc]; rfl)
        rw [hsz,Nat.mul_one,Nat.add_zero] at hv1
        cases hr1
        exact hv1
      have htake:cur.toList.take (List.length (α:=Int) xs)=xs.map (Value.int .i64):=by
        apply List.ext_getElem?
        intro i
        by_cases hil:i < List.length (α:=Int) xs
        · rw [List.getElem?_take_of_lt hil, Array.getElem?_toList, hcell i xs[i] (List.getElem?_eq_getElem hil)]
          simp [hil]
        · rw [List.getElem?_take_eq_none (by omega),List.getElem?_eq_none (by simp; omega)]
      have hblk:l.b < w.heap.size:=(hbl'.lt hn0).1
      cases r1 with
      | fulN _ l' hl' e1 _=>rw [hl1] at hl'; cases hl'; exact absurd e1 hn0
      | ful _ cap l' hl' e1 e2 =>
        rw [hl1] at hl'; cases hl'
        rw [c2']
        refine (Any.slices_Sort_int jI l.b 0 cap xs w (holds_of_blockI hh htake) hblk (by omega)).mono ?_
        rintro e w' ⟨rfl,n,os,rfl⟩
        have hg':=grownBy_sortedI (w:=w) (g:=l.b) (n:=n) (os:=os) (sortI xs).toArray
        have hs:SameAt (fun k=>k=l.b) w (grow (putRow (Value.int .i64) (Sort.ahead w n) l.b 0 (sortI xs).toArray) os):=⟨rfl,rfl,rfl,hg'.size,Nat.le_add_right _ _,fun k hk hkb=>hg'.block k hk (fun e=>hkb (by cases e; rfl))⟩
        have hlen':(sortI xs).length=List.length (α:=Int) xs:=List.length_mergeSort _
        have hcs:List.length (α:=Int) xs≤cur.size:=by omega
        have htk:=take_putCellsI cur (sortI xs) (by omega)
        refine ⟨_,_,_,S,ρ,rfl,hk,hi.rewrite hg hl1 hn0 hs ⟨c1,?_,?_,fun _=>⟨c5,c6,_,heap_sortedI (sortI xs).toArray hh,by simp [putCells,c7],fun i x j c hx hc => ?_⟩⟩,.tup _ _ rfl (by simp)⟩
        · show l.ln = (sortI xs).length
          rw [hlen',c2']
        · show (sortI xs).length * X.E.sz .int ≤ l.n
          rw [hlen',hsz]; exact c3'
        · have hc' : ([.int .i64 x] : List (AV U El))[j]? = some c := (congrArg (fun q : List (AV U El) => q[j]?) (henc x)).symm.trans hc
          match j,hc' with
          | 0, hc' =>
            cases hc'
            refine ⟨.int .i64 x,?_,.int _ _⟩
            rw [hsz,Nat.mul_one,Nat.add_zero]
            have hil:i < (sortI xs).length:=(List.getElem?_eq_some_iff.1 hx).1
            have h1:((putCells (Value.int .i64) 0 (sortI xs).toArray cur).toList.take (sortI xs).length)[i]? = ((sortI xs).map (Value.int .i64))[i]? := by rw [htk]
            rw [List.getElem?_take_of_lt hil,Array.getElem?_toList] at h1
            rw [h1,List.getElem?_map]
            exact congrArg (Option.map (Value.int .i64)) hx
    · cases hv
  · cases hv
end Go.Proofs.YthdklallcljhlaaGreatDoor
