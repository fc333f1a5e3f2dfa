import Derived.Test.YthdimnlkcgchoaaGreatVA
import Derived.Test.YthdimnlkcgchoaaGreatLS
import Derived.Shelf.SlicesQ.Reverse
import Derived.Test.YthdimnlkcgchoaaGreatFT
namespace Go.Proofs.YthdimnlkcgchoaaGreat
set_option linter.all false
open Go.RowKit Go.Shelf Go.Sort
def revLay_ren:Go.Shelf.Ren:=⟨fun | 35=>31 | n=>n,fun | 0=>0 | 3=>3 | 4=>4 | 22=>22 | 23=>49 | n=>n,fun n=>n⟩
theorem revLay:Go.Proofs.SlLaysE0.n35 Tryz.prog revLay_ren:={
 mixed:=by kernel_rfl
 f35:=⟨Tryz.f31.name,by decide,Tryz.func31.trans (congrArg some (by kernel_rfl))⟩
 t0:=Tryz.underlying0
 a0:=Tryz.isAgg0
 z0:=Tryz.sizeOf0
 v0:=Tryz.zeroValue0
 t3:=Tryz.underlying3
 a3:=Tryz.isAgg3
 z3:=Tryz.sizeOf3
 v3:=Tryz.zeroValue3
 t4:=Tryz.underlying4
 a4:=Tryz.isAgg4
 z4:=Tryz.sizeOf4
 v4:=Tryz.zeroValue4
 t22:=Tryz.underlying22
 a22:=Tryz.isAgg22
 z22:=Tryz.sizeOf22
 v22:=Tryz.zeroValue22
}
noncomputable def revSp:SpM U El:=fun d args st k=>match args with
  | [.ful id] => match hget st.h id with
    | some (.rows .rule xs)=>chk (nle (List.length (α:=Rule) xs) 100000) (k (.tup []) ⟨st.t,hset st.h id (.rows .rule (List.reverse (α:=Rule) xs))⟩)
    | _=>none
  | _=>none
theorem cell_oneR {Eu:Univ U El} {S:Nat→Prop} {ρ:Rho} {w:World} {c:AV U El} {v:Value} (hc:c.cell=true) (hr:Rel Eu S ρ w c v):v.oneCell'=true:=by
 cases hr<;>first | rfl | (simp [AV.cell] at hc; done)
def Cs:Type:={ vs:List Value // vs.length=4∧∀ v∈vs,v.oneCell'=true }
instance:Inhabited Cs:=⟨⟨[.bool false,.bool false,.bool false,.bool false],rfl,by simp [Value.oneCell']⟩⟩
set_option maxHeartbeats 1000000 in
theorem revOk {X : Ctx U El} (hE : X.E = E) (hX : CtxOk Tryz.prog X) : SpMOk Tryz.prog X 31 revSp := by
  refine ⟨Tryz.call31,?_⟩
  intro B S0 w0 S ρ st a w d args vs k r hi hr hv
  unfold revSp at hv
  split at hv
  · rename_i id
    split at hv
    · rename_i xs0 hg
      obtain ⟨xs,hxs⟩:∃ xs:List Rule,xs=xs0:=⟨_,rfl⟩
      subst hxs
      obtain ⟨hck,hk⟩:=chk_some hv
      have hlen:=nleI hck
      have hsz4:X.E.sz .rule=4:=by rw [hE]; rfl
      have htid:X.E.tid .rule=49:=by rw [hE]; rfl
      have henl:∀ x:Rule,(X.E.enc .rule x).length=4:=fun x=>by rw [hE]; rfl
      obtain ⟨v1,rfl,r1⟩:∃ v1,vs=#[v1]∧Rel X.E S ρ w (.ful id) v1:=by
        obtain ⟨h1,h2⟩:=hr
        match vs,h1,h2 with
        | ⟨[v1]⟩,_,h2=>exact ⟨v1,rfl,h2 0 _ v1 rfl rfl⟩
      obtain ⟨l,hl1,hbl⟩:=hi.heap.get _ _ hg
      have hbl':=hbl
      obtain ⟨c1,c2,c3,c4⟩:=hbl
      rw [hsz4] at c1 c3 c4
      have hpl:l.ln=xs.length:=c2
      by_cases hz:xs.length=0
      · have e0 : xs = [] := List.eq_nil_of_length_eq_zero hz
        subst e0
        obtain ⟨p,cap,rfl⟩:∃ p cap,v1 = .slice p 0 cap:=by
          cases r1 with
          | fulN _ l' hl' _ _=>exact ⟨_,_,rfl⟩
          | ful _ cap l' hl' e1 e2 =>
            rw [hl1] at hl'; cases hl'
            exact ⟨_,cap,by rw [c2]; rfl⟩
        refine (AnyQ.slices_Reverse_empty revLay p cap w).mono ?_
        rintro e w' ⟨rfl,rfl⟩
        refine ⟨_,_,_,S,ρ,rfl,hk,?_,.tup _ _ rfl (by simp)⟩
        refine ⟨hi.defers,hi.size,hi.below,hi.hB,hi.s0,hi.s1,hi.g0,hi.tmps,hi.heap.congr fun j=>?_⟩
        simp only [List.reverse_nil,hget_set]
        split
        · rename_i e; subst e; rw [hg]; rfl
        · rfl
      · have hn0 : l.n ≠ 0 := by omega
        obtain ⟨c5,c6,cur,hh,c7,c8⟩:=c4 hn0
        cases r1 with
        | fulN _ l' hl' e1 e2=>rw [hl1] at hl'; cases hl'; exact absurd e1 hn0
        | ful _ cap l' hl' e1 e2 =>
          rw [hl1] at hl'; cases hl'
          rw [c2]
          have c8':∀ (i:Nat) (hil:i < xs.length) (j:Nat),j < 4→∃ c v,(X.E.enc .rule xs[i])[j]? = some c∧cur[i * 4+j]? = some v∧Rel X.E S ρ w c v∧v.oneCell'=true:=fun i hil j hj=>by
            have hjl:j < (X.E.enc .rule xs[i]).length:=by rw [henl]; exact hj
            obtain ⟨v,hv,hr⟩:=c8 i xs[i] j _ (List.getElem?_eq_getElem hil) (List.getElem?_eq_getElem hjl)
            refine ⟨_,v,List.getElem?_eq_getElem hjl,hv,hr,?_⟩
            exact cell_oneR (hX.u.cell .rule xs[i] _ (List.getElem_mem hjl)) hr
          let mk : (i : Nat) → i < xs.length → Cs := fun i hil => ⟨[cur[i * 4 + 0]!, cur[i * 4 + 1]!, cur[i * 4 + 2]!, cur[i * 4 + 3]!], rfl, fun v hv => by
            have g:∀ j,j < 4→cur[i * 4+j]!.oneCell'=true:=fun j hj=>by
              obtain ⟨c,v',_,h2,_,h4⟩:=c8' i hil j hj
              rw [Array.getElem!_eq_getD,Array.getD_eq_getD_getElem?,h2]
              exact h4
            simp only [List.mem_cons,List.not_mem_nil,or_false] at hv
            rcases hv with rfl | rfl | rfl | rfl
            · exact g 0 (by omega)
            · exact g 1 (by omega)
            · exact g 2 (by omega)
            · exact g 3 (by omega)⟩
          let enc:Cs→List Value:=fun x=>x.1
          let d:Array Cs:=Array.ofFn (n:=xs.length) fun i=>mk i.1 i.2
          have hds:d.size=xs.length:=by simp [d]
          have hd:∀ (i:Nat) (hil:i < xs.length),d[i]! = mk i hil:=fun i hil=>by
            rw [getElem!_pos d i (by rw [hds]; exact hil)]
            simp [d]
          have hmk:∀ (i:Nat) (hil:i < xs.length) (q:Nat),q < 4→(enc (mk i hil))[q]! = cur[i * 4+q]! := fun i hil q hq=>by
            match q,hq with
            | 0,_=>rfl
            | 1,_=>rfl
            | 2,_=>rfl
            | 3,_=>rfl
          have hcur:∀ (i:Nat) (hil:i < xs.length) (q:Nat),q < 4→cur[i * 4+q]? = some cur[i * 4+q]! := fun i hil q hq=>by
            obtain ⟨c,v',_,h2,_,_⟩:=c8' i hil q hq
            rw [Array.getElem!_eq_getD,Array.getD_eq_getD_getElem?,h2]
            rfl
          have split4:∀ j,j < xs.length * 4→∃ i q,i < xs.length∧q < 4∧j=i * 4+q∧j / 4=i∧j%4=q:=fun j hj=>⟨j / 4,j%4,by omega,by omega,by omega,rfl,rfl⟩
          have hblk:l.b < w.heap.size:=(hbl'.lt hn0).1
          have hcells:∀ j,j < xs.length * 4→cur[j]? = some (flatK enc 4 d)[j]! := fun j hj=>by
            obtain ⟨i,q,h1,h2,h3,h4,h5⟩:=split4 j hj
            rw [get_flatK _ _ _ _ (by rw [hds]; exact hj),h4,h5,hd i h1,hmk i h1 q h2,h3]
            exact hcur i h1 q h2
          have hH:HoldsK enc 4 w l.b 0 d:=fun j hj=>by
            rw [size_flatK,hds] at hj
            obtain ⟨g1,g2⟩:=cell_at (o:=0+j) hh
            refine ⟨?_,g2⟩
            rw [g1,Nat.zero_add,hcells j hj]
            rfl
          have hput:∀ (n:Nat) (dk:Array Cs),dk.size=xs.length →
              SameAt (fun k=>k=l.b) w (putRowK enc 4 (Sort.ahead w n) l.b 0 dk)∧∃ cur',(putRowK enc 4 (Sort.ahead w n) l.b 0 dk).heap[l.b]? = some (.cells cur' (X.E.tid .rule) (0,0))∧cur'.size=cur.size∧∀ j,j < xs.length * 4→cur'[j]? = some (flatK enc 4 dk)[j]!:=fun n dk hdk=>by
            have hheap:(putRowK enc 4 (Sort.ahead w n) l.b 0 dk).heap=w.heap.modify l.b (onCells (putCells _root_.id 0 (flatK enc 4 dk))):=rfl
            refine ⟨⟨rfl,rfl,rfl,?_,?_,fun k hk hkb=>?_⟩,putCells _root_.id 0 (flatK enc 4 dk) cur,?_,?_,fun j hj=>?_⟩
            · rw [hheap]; simp
            · exact fun _=>(by show w.drawn≤w.drawn+n; omega)
            · rw [hheap,Array.getElem?_modify,if_neg (Ne.symm hkb)]
            · rw [hheap, Array.getElem?_modify, if_pos rfl, hh]
              rfl
            · simp [putCells]
            · have hjc : j < cur.size := by
                have:=hcells j hj
                exact (Array.getElem?_eq_some_iff.1 this).1
              simp only [putCells,Array.getElem?_mapIdx,Array.getElem?_eq_getElem hjc,Option.map_some]
              rw [if_pos (by simp [hdk]; omega)]
              rfl
          have hcall:=AnyQ.slices_Reverse revLay 4 Tryz.isAgg49 Tryz.sizeOf49 enc (fun x=>x.2.1) (fun x=>x.2.2) l.b 0 cap d w hH (by rw [hds]; omega)
          rw [hds] at hcall
          refine hcall.mono ?_
          rintro e w' ⟨rfl,n,rfl⟩
          obtain ⟨hs,cur',hh',hsz',hcl'⟩:=hput n d.reverse (by simp [hds])
          have hlen':(List.reverse xs).length=xs.length:=List.length_reverse
          have hsame:∀ k,S k→(putRowK enc 4 (Sort.ahead w n) l.b 0 d.reverse).heap[k]? = w.heap[k]?:=fun k hk'=>hs.block k (hi.heap.lt k hk') (by rintro rfl; exact c6 hk')
          refine ⟨_,_,_,S,ρ,rfl,hk,hi.rewrite hg hl1 hn0 hs ⟨by rw [hsz4]; exact c1,by show l.ln=(List.reverse (α:=Rule) xs).length; rw [hlen']; exact c2,by show (List.reverse (α:=Rule) xs).length * X.E.sz .rule≤l.n; rw [hlen',hsz4]; exact c3,fun _=>⟨c5,c6,cur',hh',by rw [hsz']; exact c7,fun i x j c hx hc=>?_⟩⟩,.tup _ _ rfl (by simp)⟩
          have hil:i < xs.length:=by rw [← hlen']; exact (List.getElem?_eq_some_iff.1 hx).1
          have hjl:j < 4:=by rw [← henl x]; exact (List.getElem?_eq_some_iff.1 hc).1
          rw [hsz4]
          have hx':x=xs[xs.length - 1 - i]:=by
            have hx2:(List.reverse (α:=Rule) xs)[i]? = some x:=hx
            rw [List.getElem?_eq_getElem (by rw [hlen']; exact hil),List.getElem_reverse] at hx2
            exact (Option.some.inj hx2).symm
          have hr':xs.length - 1 - i < xs.length:=by omega
          obtain ⟨c',v',q1,q2,q3,_⟩:=c8' (xs.length - 1 - i) hr' j hjl
          rw [← hx',hc] at q1
          cases q1
          refine ⟨v',?_,q3.mono (fun _ h=>h) hsame (fun _ _ h=>h)⟩
          rw [hcl' _ (by omega),get_flatK _ _ _ _ (by simp [hds]; omega),show (i * 4+j) / 4=i by omega,show (i * 4+j)%4=j by omega]
          have hdr:d.reverse[i]! = d[xs.length - 1 - i]! := by
            rw [getElem!_pos d.reverse i (by simp [hds]; exact hil),getElem!_pos d _ (by rw [hds]; exact hr'),Array.getElem_reverse]
            congr 1
            rw [hds]
          rw [hdr,hd _ hr',hmk _ hr' j hjl,Array.getElem!_eq_getD,Array.getD_eq_getD_getElem?,q2]
          rfl
    · cases hv
  · cases hv
end Go.Proofs.YthdimnlkcgchoaaGreat
namespace Go.Proofs.YthdimnlkcgchoaaGreat
set_option linter.all false
set_option maxRecDepth 100000
namespace cloneR
noncomputable def bd:Code:=(Tryz.f30.body).getD .skip
noncomputable def X:Ctx U El:=⟨E,tds,zeros,eqs,specOf [],100000,8,dspecOf [],fun _=>none,fun _=>none⟩
noncomputable def nmR:Norm U:=⟨[(2,.rule)],[2],[2],[],[],[],[]⟩
noncomputable def RR:Kont U El:=fun st=>normK nmR st (retFin [2] [2])
noncomputable def fr0 (l:List Rule):St U El:=⟨[(0,(.lst .rule l))],[]⟩
noncomputable def sh0 (l:List Rule):R :=
 condB (nlt 0 (List.length l)) (chk (nle ((List.length ([]:List Rule)+List.length l) * 64) 140737488355328&&nle (List.length ([]:List Rule)+List.length l) 9223372036854775807) (some ((.ful 0),[(0,.rows .rule (([]:List Rule)++l))]))) (amb (some ((.ful 0),[(0,.rows .rule ([]:List Rule))])) (chk (nle ((List.length ([]:List Rule)+List.length l) * 64) 140737488355328&&nle (List.length ([]:List Rule)+List.length l) 9223372036854775807) (some ((.ful 0),[(0,.rows .rule (([]:List Rule)++l))]))))
theorem P0 (l):exec X (cdp [] bd) .d (fr0 l) RR (fun _ _=>none) RR=sh0 l:=by kernel_rfl
noncomputable def f0 (l:List Rule):R:=sh0 l
theorem T0 (l):exec X bd .d (fr0 l) RR (fun _ _=>none) RR=f0 l:=by
 refine (P0 l).trans ?_
 show _=sh0 l
 rfl
theorem run (l):runFn X bd .d nmR [2] [2] [(.lst .rule l)]=f0 l:=T0 l
theorem f0_eq (l:List Rule) (h:(nle (List.length l) 90000)=true):f0 l=some (.ful 0,[(0,.rows .rule l)]):=by
 have hl:=nleI h
 show sh0 l=_
 unfold sh0
 have e1:nle ((List.length ([]:List Rule)+List.length l) * 64) 140737488355328=true:=nleT (by simp; omega)
 have e2:nle (List.length ([]:List Rule)+List.length l) 9223372036854775807=true:=nleT (by simp; omega)
 rw [e1,e2]
 cases l with
 | nil=>exact amb_same _
 | cons x l=>rfl
theorem ok:CtxOk Tryz.prog X:=ctxOk tab spN dpN
theorem okM:MOk Tryz.prog X:=fun g sp h=>by cases h
theorem spec (l:List Rule) (h:(nle (List.length l) 90000)=true):CallSpec Tryz.prog E 30 [(.lst .rule l)] (.ful 0) [(0,.rows .rule (l))] :=
 rfs ok okM Tryz.call30 Tryz.func30 ((run l).trans (f0_eq l h))
noncomputable def sp:Sp U El:=fun args k=>match args with
 | [.lst .rule l]=>chk (nle (List.length l) 90000) (k (.ful 0) [(0,.rows .rule (l))])
 | _=>none
theorem spOk:SpOk Tryz.prog E 30 sp:=⟨fun vs=>by unfold sp;split;exact det_c _ _ _;exact ⟨none,fun _=>rfl⟩,fun vs k r h=>by unfold sp at h;split at h;(obtain ⟨h1,h2⟩:=chk_some h;exact ⟨_,_,spec _ h1,h2⟩);cases h⟩
end cloneR
noncomputable def offB (bb:List Int) (l2:List Rule) (x:Int):Bool:=!(List.any bb (eqInt (IntKind.wrap .i64 ((IntKind.wrap .i64 ((Int.ofNat l2.length) - 1)) - x))))
namespace co1
noncomputable def bd:Code:=(Tryz.f36.body).getD .skip
noncomputable def X:Ctx U El:=⟨E,tds,zeros,eqs,specOf [(37,hasI.sp)],100000,13,dspecOf [],fun _=>none,fun _=>none⟩
noncomputable def nmR:Norm U:=⟨[],[4],[],[],[],[],[]⟩
noncomputable def RR:Kont U El:=fun st=>normK nmR st (retFin [4] [])
noncomputable def fr0 (x:Int) (bb:List Int) (l2:List Rule):St U El:=⟨[(0,(.int .i64 x)),(1,(.pcs [(.lst .int bb)] 0)),(2,(.pcs [(.lst .rule l2)] 0))],[]⟩
noncomputable def sh0 (x:Int) (bb:List Int) (l2:List Rule):R :=
 chk (nle (List.length bb) 90000) (some ((.bool (!(List.any bb (eqInt (IntKind.wrap .i64 ((IntKind.wrap .i64 ((Int.ofNat (List.length l2)) - (1:Int))) - x)))))),[]))
theorem P0 (x bb l2):exec X (cdp [] bd) .d (fr0 x bb l2) RR (fun _ _=>none) RR=sh0 x bb l2:=by kernel_rfl
noncomputable def f0 (x:Int) (bb:List Int) (l2:List Rule):R:=sh0 x bb l2
theorem T0 (x bb l2):exec X bd .d (fr0 x bb l2) RR (fun _ _=>none) RR=f0 x bb l2:=by
 refine (P0 x bb l2).trans ?_
 show _=sh0 x bb l2
 rfl
theorem run (x bb l2):runFn X bd .d nmR [4] [] [(.int .i64 x),(.pcs [(.lst .int bb)] 0),(.pcs [(.lst .rule l2)] 0)]=f0 x bb l2:=T0 x bb l2
theorem f0_eq (x:Int) (bb:List Int) (l2:List Rule) (h:(smallI bb x)=true):f0 x bb l2=outB (offB bb l2 x):=by
 show sh0 x bb l2=_
 unfold sh0
 have:nle (List.length bb) 90000=true:=h
 rw [this]
 rfl
theorem ok:CtxOk Tryz.prog X:=ctxOk tab (spC hasI.spOk spN) dpN
theorem okM:MOk Tryz.prog X:=fun g sp h=>by cases h
theorem spec (x:Int) (bb:List Int) (l2:List Rule) (h:((smallI bb) x)=true):CallSpec Tryz.prog E 36 [(.int .i64 x),(.pcs [(.lst .int bb)] 0),(.pcs [(.lst .rule l2)] 0)] (.bool ((offB bb l2) x)) [] :=
 rfs ok okM Tryz.call36 Tryz.func36 ((run x bb l2).trans (f0_eq x bb l2 h))
noncomputable def sp:Sp U El:=fun args k=>match args with
 | [.int .i64 x,.pcs [.lst .int bb] 0,.pcs [.lst .rule l2] 0]=>chk ((smallI bb) x) (k (.bool ((offB bb l2) x)) [])
 | _=>none
theorem spOk:SpOk Tryz.prog E 36 sp:=⟨fun vs=>by unfold sp;split;exact det_c _ _ _;exact ⟨none,fun _=>rfl⟩,fun vs k r h=>by unfold sp at h;split at h;(obtain ⟨h1,h2⟩:=chk_some h;exact ⟨_,_,spec _ _ _ h1,h2⟩);cases h⟩
end co1
namespace co1X
noncomputable def bd:Code:=(Tryz.f80.body).getD .skip
noncomputable def X:Ctx U El:=⟨E,tds,zeros,eqs,specOf [(36,co1.sp)],100000,19,dspecOf [],fun _=>none,fun _=>none⟩
noncomputable def nmR:Norm U:=⟨[],[4],[],[],[],[],[]⟩
noncomputable def RR:Kont U El:=fun st=>normK nmR st (retFin [4] [])
noncomputable def nm1:Norm U:=⟨[],[],[],[],[],[],[]⟩
noncomputable def nm2:Norm U:=⟨[],[0,1,7,8],[],[],[],[],[]⟩
abbrev Y1:=R
abbrev Y2:=(List Int)→(List Int)→(List Rule)→Int→Int→R
noncomputable def fr0 (l:List Int) (bb:List Int) (l2:List Rule):St U El:=⟨[(0,(.lst .int l)),(1,(.fn 36 [] [(.pcs [(.lst .int bb)] 0),(.pcs [(.lst .rule l2)] 0)]))],[]⟩
noncomputable def fr1:St U El:=⟨[],[]⟩
noncomputable def fr2 (s0:List Int) (f1c_0:List Int) (f1c_0_1:List Rule) (x7:Int) (x8:Int):St U El:=⟨[(0,(.lst .int s0)),(1,(.fn 36 [] [(.pcs [(.lst .int f1c_0)] 0),(.pcs [(.lst .rule f1c_0_1)] 0)])),(7,(.int .i64 x7)),(8,(.int .i64 x8))],[]⟩
noncomputable def sh0 (l:List Int) (bb:List Int) (l2:List Rule) (k2:Y2):R :=
 k2 l bb l2 (Int.ofNat (List.length l)) (0:Int)
noncomputable def sh1:R :=
 some ((.int .i64 (-1:Int)),[])
noncomputable def sh2 (s0:List Int) (f1c_0:List Int) (f1c_0_1:List Rule) (x7:Int) (x8:Int) (k1:Y1) (k2:Y2):R :=
 condB (ilt x8 x7) (chk (inb x8 (List.length s0)) (chk ((smallI f1c_0) (List.getD s0 (Int.toNat x8) d_int)) (condB ((offB f1c_0 f1c_0_1) (List.getD s0 (Int.toNat x8) d_int)) (some ((.int .i64 x8),[])) (k2 s0 f1c_0 f1c_0_1 x7 (IntKind.wrap .i64 (x8+(1:Int))))))) (k1)
noncomputable def it2 (Kb1:Kont U El) (n:Nat):Kont U El:=iter nm2 (fun st' K'=>exec X (cdp [1,0,1,0,0] bd) .d st' K' (Eblk 0 (cutK nm1 Kb1) (fun _ _=>none)) RR) n
noncomputable def ct1:Kont U El:=fun st=>exec X (cdp [1,1] bd) .d st RR (fun _ _=>none) RR
theorem P0 (l bb l2):exec X (cdp [] bd) (.seq none .d (.seq (some nm1) (.seq none .d (.block (.loop nm2 .d))) .d)) (fr0 l bb l2) RR (fun _ _=>none) RR=sh0 l bb l2 (fun y0 y1 y2 y3 y4=>(hid (it2 (hid ct1) 100000)) (fr2 y0 y1 y2 y3 y4)):=by kernel_rfl
theorem P1:ct1 (fr1)=sh1:=by kernel_rfl
theorem P2 (s0 f1c_0 f1c_0_1 x7 x8) (Kb1 Kb2:Kont U El):exec X (cdp [1,0,1,0,0] bd) .d (fr2 s0 f1c_0 f1c_0_1 x7 x8) (cutK nm2 Kb2) (Eblk 0 (cutK nm1 Kb1) (fun _ _=>none)) RR=sh2 s0 f1c_0 f1c_0_1 x7 x8 (Kb1 (fr1)) (fun y0 y1 y2 y3 y4=>Kb2 (fr2 y0 y1 y2 y3 y4)):=by kernel_rfl
noncomputable def f1:R:=sh1
noncomputable def f2:Nat→Y2
 | 0=>fun _ _ _ _ _=>none
 | n+1=>fun s0 f1c_0 f1c_0_1 x7 x8=>sh2 s0 f1c_0 f1c_0_1 x7 x8 f1 (f2 n)
noncomputable def f0 (l:List Int) (bb:List Int) (l2:List Rule):R:=sh0 l bb l2 (f2 100000)
theorem T1:(hid ct1) (fr1)=f1:=by
 refine (congrFun (hid_eq _) _).trans <| (P1).trans ?_
 show _=sh1
 rfl
theorem T2:∀ (n:Nat),∀ s0 f1c_0 f1c_0_1 x7 x8,it2 (hid ct1) n (fr2 s0 f1c_0 f1c_0_1 x7 x8)=f2 n s0 f1c_0 f1c_0_1 x7 x8:=by
  intro n
  induction n with
  | zero=>intros; rfl
  | succ n ih =>
    intro s0 f1c_0 f1c_0_1 x7 x8
    refine (P2 s0 f1c_0 f1c_0_1 x7 x8 (hid ct1) (it2 (hid ct1) n)).trans ?_
    show _=sh2 s0 f1c_0 f1c_0_1 x7 x8 f1 (f2 n)
    simp only [T1,ih]
theorem H2 (s0 f1c_0 f1c_0_1 x7 x8):hid (it2 (hid ct1) 100000) (fr2 s0 f1c_0 f1c_0_1 x7 x8)=f2 100000 s0 f1c_0 f1c_0_1 x7 x8:=(congrFun (hid_eq _) _).trans (T2 100000 s0 f1c_0 f1c_0_1 x7 x8)
theorem T0 (l bb l2):exec X bd (.seq none .d (.seq (some nm1) (.seq none .d (.block (.loop nm2 .d))) .d)) (fr0 l bb l2) RR (fun _ _=>none) RR=f0 l bb l2:=by
 refine (P0 l bb l2).trans ?_
 show _=sh0 l bb l2 (f2 100000)
 simp only [H2]
theorem run (l bb l2):runFn X bd (.seq none .d (.seq (some nm1) (.seq none .d (.block (.loop nm2 .d))) .d)) nmR [4] [] [(.lst .int l),(.fn 36 [] [(.pcs [(.lst .int bb)] 0),(.pcs [(.lst .rule l2)] 0)])]=f0 l bb l2:=T0 l bb l2
theorem f0_eq (l:List Int) (bb:List Int) (l2:List Rule) (h:((nle (List.length l) 90000&&List.all l (smallI bb)))=true):f0 l bb l2=outI (findZ (offB bb l2) 0 l):=by
 simp only [Bool.and_eq_true] at h
 have ha:=List.all_eq_true.1 h.2
 have hl:=nleI h.1
 refine (grun_eq l (by omega) (fun n_ (_:Unit) i_=>f2 n_ l bb l2 (Int.ofNat l.length) i_) _ (fun _=>outI (-1)) (fun n_ u_ i_ hi_=>?_) (fun n_ u_=>?_) 100000 0 () (by omega) (by omega)).trans (grun_find (offB bb l2) outI l 0)
 ·show sh2 l bb l2 (Int.ofNat l.length) i_ f1 (f2 n_)=_
  unfold sh2
  rw [iltT (by simp; omega),inbT hi_,toNat_nat,getD_lt hi_,ha l[i_] (List.getElem_mem hi_)]
  rfl
 ·show sh2 l bb l2 (Int.ofNat l.length) (l.length:Int) f1 (f2 n_)=_
  unfold sh2
  rw [iltF (by simp)]
  rfl
theorem ok:CtxOk Tryz.prog X:=ctxOk tab (spC co1.spOk spN) dpN
theorem okM:MOk Tryz.prog X:=fun g sp h=>by cases h
theorem spec (l:List Int) (bb:List Int) (l2:List Rule) (h:((nle (List.length l) 90000&&List.all l (smallI bb)))=true):CallSpec Tryz.prog E 80 [(.lst .int l),(.fn 36 [] [(.pcs [(.lst .int bb)] 0),(.pcs [(.lst .rule l2)] 0)])] (.int .i64 (findZ (offB bb l2) 0 l)) [] :=
 rfs ok okM Tryz.call80 Tryz.func80 ((run l bb l2).trans (f0_eq l bb l2 h))
noncomputable def sp:Sp U El:=fun args k=>match args with
 | [.lst .int l,.fn 36 [] [.pcs [.lst .int bb] 0,.pcs [.lst .rule l2] 0]]=>chk ((nle (List.length l) 90000&&List.all l (smallI bb))) (k (.int .i64 (findZ (offB bb l2) 0 l)) [])
 | _=>none
theorem spOk:SpOk Tryz.prog E 80 sp:=⟨fun vs=>by unfold sp;split;exact det_c _ _ _;exact ⟨none,fun _=>rfl⟩,fun vs k r h=>by unfold sp at h;split at h;(obtain ⟨h1,h2⟩:=chk_some h;exact ⟨_,_,spec _ _ _ h1,h2⟩);cases h⟩
end co1X
namespace co1C
noncomputable def bd:Code:=(Tryz.f35.body).getD .skip
noncomputable def X:Ctx U El:=⟨E,tds,zeros,eqs,specOf [(80,co1X.sp)],100000,9,dspecOf [],fun _=>none,fun _=>none⟩
noncomputable def nmR:Norm U:=⟨[],[4],[],[],[],[],[]⟩
noncomputable def RR:Kont U El:=fun st=>normK nmR st (retFin [4] [])
noncomputable def fr0 (l:List Int) (bb:List Int) (l2:List Rule):St U El:=⟨[(0,(.lst .int l)),(1,(.fn 36 [] [(.pcs [(.lst .int bb)] 0),(.pcs [(.lst .rule l2)] 0)]))],[]⟩
noncomputable def sh0 (l:List Int) (bb:List Int) (l2:List Rule):R :=
 chk ((nle (List.length l) 90000&&List.all l (smallI bb))) (some ((.bool (ile (0:Int) (findZ (offB bb l2) 0 l))),[]))
theorem P0 (l bb l2):exec X (cdp [] bd) .d (fr0 l bb l2) RR (fun _ _=>none) RR=sh0 l bb l2:=by kernel_rfl
noncomputable def f0 (l:List Int) (bb:List Int) (l2:List Rule):R:=sh0 l bb l2
theorem T0 (l bb l2):exec X bd .d (fr0 l bb l2) RR (fun _ _=>none) RR=f0 l bb l2:=by
 refine (P0 l bb l2).trans ?_
 show _=sh0 l bb l2
 rfl
theorem run (l bb l2):runFn X bd .d nmR [4] [] [(.lst .int l),(.fn 36 [] [(.pcs [(.lst .int bb)] 0),(.pcs [(.lst .rule l2)] 0)])]=f0 l bb l2:=T0 l bb l2
theorem f0_eq (l:List Int) (bb:List Int) (l2:List Rule) (h:((nle (List.length l) 90000&&List.all l (smallI bb)))=true):f0 l bb l2=outB (List.any l (offB bb l2)):=by
 show chk _ (outB _)=_
 rw [h,chkT,findZ_any]
theorem ok:CtxOk Tryz.prog X:=ctxOk tab (spC co1X.spOk spN) dpN
theorem okM:MOk Tryz.prog X:=fun g sp h=>by cases h
theorem spec (l:List Int) (bb:List Int) (l2:List Rule) (h:((nle (List.length l) 90000&&List.all l (smallI bb)))=true):CallSpec Tryz.prog E 35 [(.lst .int l),(.fn 36 [] [(.pcs [(.lst .int bb)] 0),(.pcs [(.lst .rule l2)] 0)])] (.bool (List.any l (offB bb l2))) [] :=
 rfs ok okM Tryz.call35 Tryz.func35 ((run l bb l2).trans (f0_eq l bb l2 h))
noncomputable def sp:Sp U El:=fun args k=>match args with
 | [.lst .int l,.fn 36 [] [.pcs [.lst .int bb] 0,.pcs [.lst .rule l2] 0]]=>chk ((nle (List.length l) 90000&&List.all l (smallI bb))) (k (.bool (List.any l (offB bb l2))) [])
 | _=>none
theorem spOk:SpOk Tryz.prog E 35 sp:=⟨fun vs=>by unfold sp;split;exact det_c _ _ _;exact ⟨none,fun _=>rfl⟩,fun vs k r h=>by unfold sp at h;split at h;(obtain ⟨h1,h2⟩:=chk_some h;exact ⟨_,_,spec _ _ _ h1,h2⟩);cases h⟩
end co1C
theorem wrap_sub {L:Nat} {j:Nat} (hj:j < L) (hL:L≤1000000):IntKind.wrap .i64 ((IntKind.wrap .i64 ((Int.ofNat L) - 1)) - ((j:Nat):Int))=(L:Int) - 1 - (j:Int):=by
 have e:IntKind.wrap .i64 ((Int.ofNat L) - 1)=(L:Int) - 1:=wrapI (x:=(L:Int) - 1) (by omega) (by omega)
 rw [e]
 exact wrapI (by omega) (by omega)
theorem findI_idx {n:Net} {l:List Rule} {x:Pair} (h:x∈findP l n):∃ j k:Nat,j < l.length∧k < l.length∧x=⟨(j:Int),(k:Int)⟩:=by
 obtain ⟨j,k,hj,hk,e,_⟩:=(mem_findI n l 0 x).1 h
 exact ⟨j,k,by omega,hk,by rw [e]; simp⟩
namespace lawOrder
noncomputable def bd:Code:=(Tryz.f6.body).getD .skip
noncomputable def X:Ctx U El:=⟨E,tds,zeros,eqs,specOf [(12,awake.sp),(16,equalI.sp),(17,find.sp),(18,dead.sp),(24,many.sp),(25,complete.sp),(29,ready.sp),(30,cloneR.sp),(34,hasP.sp),(35,co1C.sp),(38,rnvalid.sp)],100000,194,dspecOf [],mspecOf [(31,revSp)],fun i=>bif Nat.beq i 0 then some frO else none⟩
noncomputable def nmR:Norm U:=⟨[],[6],[],[],[],[],[]⟩
noncomputable def RR:Kont U El:=fun st=>normK nmR st (retFin [6] [])
noncomputable def nm1:Norm U:=⟨[],[2,3,4],[3,4],[],[],[],[(3,0,.rule),(4,0,.node),(4,1,.link)]⟩
noncomputable def nm2:Norm U:=⟨[(10,.pair),(12,.pair),(14,.int)],[3,4,10,12,14,16],[10,12,14,3,4,16,500001600],[],[(16,0,.int,500001600)],[],[(3,0,.rule),(4,0,.node),(4,1,.link)]⟩
noncomputable def nm3:Norm U:=⟨[(14,.int)],[3,4,14,16],[14,3,4,16,500001600],[],[(16,0,.int,500001600)],[],[(3,0,.rule),(4,0,.node),(4,1,.link)]⟩
noncomputable def nm4:Norm U:=⟨[(12,.pair),(14,.int),(163,.pair)],[3,4,12,14,16,163,164,165],[12,14,163,3,4,16,500001600],[],[(16,0,.int,500001600)],[],[(3,0,.rule),(4,0,.node),(4,1,.link)]⟩
abbrev Y1:=Int→(List Rule)→(List Node)→(List Lnk)→R
abbrev Y2:=(List Pair)→(List Pair)→(List Int)→(List Rule)→(List Node)→(List Lnk)→(List Int)→R
abbrev Y3:=(List Int)→(List Rule)→(List Node)→(List Lnk)→(List Int)→R
abbrev Y4:=(List Pair)→(List Int)→(List Pair)→Int→Int→(List Rule)→(List Node)→(List Lnk)→(List Int)→R
noncomputable def fr0 (l:List Rule) (n:Net) (lk:Int):St U El:=⟨[(0,(.lst .rule l)),(1,(.agg [(.lst .node n.nds),(.lst .link n.lks)])),(2,(.int .u8 lk))],[]⟩
noncomputable def fr1 (eA:Int) (bA:List Rule) (cA:List Node) (aA:List Lnk):St U El:=⟨[(2,(.int .u8 eA)),(3,(.ptr 3 0)),(4,(.ptr 4 0))],[(3,(.box 0 [(.lst .rule bA)])),(4,(.box 0 [(.lst .node cA),(.lst .link aA)]))]⟩
noncomputable def fr2 (kA:List Pair) (jA:List Pair) (fA:List Int) (bA:List Rule) (cA:List Node) (aA:List Lnk) (dA:List Int):St U El:=⟨[(3,(.ptr 3 0)),(4,(.ptr 4 0)),(10,(.ful 10)),(12,(.ful 12)),(14,(.ful 14)),(16,(.ptr 16 0))],[(10,(.rows .pair kA)),(12,(.rows .pair jA)),(14,(.rows .int fA)),(3,(.box 0 [(.lst .rule bA)])),(4,(.box 0 [(.lst .node cA),(.lst .link aA)])),(16,(.box 0 [(.ful 500001600)])),(500001600,(.rows .int dA))]⟩
noncomputable def fr3 (fA:List Int) (bA:List Rule) (cA:List Node) (aA:List Lnk) (dA:List Int):St U El:=⟨[(3,(.ptr 3 0)),(4,(.ptr 4 0)),(14,(.ful 14)),(16,(.ptr 16 0))],[(14,(.rows .int fA)),(3,(.box 0 [(.lst .rule bA)])),(4,(.box 0 [(.lst .node cA),(.lst .link aA)])),(16,(.box 0 [(.ful 500001600)])),(500001600,(.rows .int dA))]⟩
noncomputable def fr4 (jA:List Pair) (fA:List Int) (hA:List Pair) (iA:Int) (gA:Int) (bA:List Rule) (cA:List Node) (aA:List Lnk) (dA:List Int):St U El:=⟨[(3,(.ptr 3 0)),(4,(.ptr 4 0)),(12,(.ful 12)),(14,(.ful 14)),(16,(.ptr 16 0)),(163,(.ful 163)),(164,(.int .i64 iA)),(165,(.int .i64 gA))],[(12,(.rows .pair jA)),(14,(.rows .int fA)),(163,(.rows .pair hA)),(3,(.box 0 [(.lst .rule bA)])),(4,(.box 0 [(.lst .node cA),(.lst .link aA)])),(16,(.box 0 [(.ful 500001600)])),(500001600,(.rows .int dA))]⟩
noncomputable def sh0 (l:List Rule) (n:Net) (lk:Int) (k1:Y1):R :=
 condB (!(true)) (some ((.bool false),[])) (condB (!(readyB l n)) (some ((.bool true),[])) (condB ((Int.ofNat (List.length n.lks)) == (0:Int)) (some ((.bool true),[])) (k1 lk l n.nds n.lks)))
noncomputable def sh1 (eA:Int) (bA:List Rule) (cA:List Node) (aA:List Lnk) (k2:Y2):R :=
 chk ((Int.ofNat (List.length aA)) != 0) (chk (inb (Int.tmod (IntKind.wrap .i64 eA) (Int.ofNat (List.length aA))) (List.length aA)) (chk ((okN (⟨cA,aA⟩:Net)&&smallR bA)) (condB (manyB bA (⟨cA,aA⟩:Net) ((List.getD aA (Int.toNat (Int.tmod (IntKind.wrap .i64 eA) (Int.ofNat (List.length aA)))) d_link).ln)) (some ((.bool true),[])) (chk (nle (List.length bA) 90000) (chk (nle (List.length (bA)) 100000) (chk (okR (List.reverse (bA))&&((Int.ofNat (List.length (List.reverse (bA)))) == Int.ofNat (List.length (List.reverse (bA)))&&(0:Int) == (0:Int))) (chk (okN (⟨cA,aA⟩:Net)) (chk (okN (⟨cA,aA⟩:Net)) (chk (okN (⟨cA,aA⟩:Net)) (chk (okN (⟨cA,aA⟩:Net)) (chk (okN (⟨cA,aA⟩:Net)) (chk (okN (⟨cA,aA⟩:Net)) (condB ((givenZ bA (⟨cA,aA⟩:Net)) != (0:Int)) (some ((.bool false),[])) (condB ((givenZ (List.map flipR (List.reverse (bA))) (⟨cA,aA⟩:Net)) != (0:Int)) (some ((.bool false),[])) (condB ((givenZ bA (⟨cA,aA⟩:Net)) != (0:Int)) (some ((.bool false),[])) (condB ((givenZ (List.map flipR (List.reverse (bA))) (⟨cA,aA⟩:Net)) != (0:Int)) (some ((.bool false),[])) (condB ((Int.ofNat (List.length (findL bA (⟨cA,aA⟩:Net)))) != (Int.ofNat (List.length (findL (List.map flipR (List.reverse (bA))) (⟨cA,aA⟩:Net))))) (some ((.bool false),[])) (condB ((Int.ofNat (List.length (deadL bA (⟨cA,aA⟩:Net)))) != (Int.ofNat (List.length (deadL (List.map flipR (List.reverse (bA))) (⟨cA,aA⟩:Net))))) (some ((.bool false),[])) (condB (!((compB bA (⟨cA,aA⟩:Net) ((List.getD aA (Int.toNat (Int.tmod (IntKind.wrap .i64 eA) (Int.ofNat (List.length aA)))) d_link).ln)) == (compB (List.map flipR (List.reverse (bA))) (⟨cA,aA⟩:Net) ((List.getD aA (Int.toNat (Int.tmod (IntKind.wrap .i64 eA) (Int.ofNat (List.length aA)))) d_link).ln)))) (some ((.bool false),[])) (condB ((compE bA (⟨cA,aA⟩:Net) ((List.getD aA (Int.toNat (Int.tmod (IntKind.wrap .i64 eA) (Int.ofNat (List.length aA)))) d_link).ln)) != (compE (List.map flipR (List.reverse (bA))) (⟨cA,aA⟩:Net) ((List.getD aA (Int.toNat (Int.tmod (IntKind.wrap .i64 eA) (Int.ofNat (List.length aA)))) d_link).ln))) (some ((.bool false),[])) (chk (nle (List.length (compL bA (⟨cA,aA⟩:Net) ((List.getD aA (Int.toNat (Int.tmod (IntKind.wrap .i64 eA) (Int.ofNat (List.length aA)))) d_link).ln))) 90000) (condB (!(eqI (compL bA (⟨cA,aA⟩:Net) ((List.getD aA (Int.toNat (Int.tmod (IntKind.wrap .i64 eA) (Int.ofNat (List.length aA)))) d_link).ln)) (compL (List.map flipR (List.reverse (bA))) (⟨cA,aA⟩:Net) ((List.getD aA (Int.toNat (Int.tmod (IntKind.wrap .i64 eA) (Int.ofNat (List.length aA)))) d_link).ln)))) (some ((.bool false),[])) (k2 (findL bA (⟨cA,aA⟩:Net)) (findL (List.map flipR (List.reverse (bA))) (⟨cA,aA⟩:Net)) (deadL bA (⟨cA,aA⟩:Net)) bA cA aA (deadL (List.map flipR (List.reverse (bA))) (⟨cA,aA⟩:Net)))))))))))))))))))))))))
noncomputable def sh2 (kA:List Pair) (jA:List Pair) (fA:List Int) (bA:List Rule) (cA:List Node) (aA:List Lnk) (dA:List Int) (k4:Y4):R :=
 k4 jA fA kA (Int.ofNat (List.length kA)) (0:Int) bA cA aA dA
noncomputable def sh3 (fA:List Int) (bA:List Rule) (cA:List Node) (aA:List Lnk) (dA:List Int):R :=
 chk ((nle (List.length fA) 90000&&List.all fA (smallI dA))) (condB (!(List.any fA (offB dA bA))) (chk (okN (⟨cA,aA⟩:Net)) (some ((.bool (netB (⟨cA,aA⟩:Net))),[]))) (some ((.bool false),[])))
noncomputable def sh4 (jA:List Pair) (fA:List Int) (hA:List Pair) (iA:Int) (gA:Int) (bA:List Rule) (cA:List Node) (aA:List Lnk) (dA:List Int) (k3:Y3) (k4:Y4):R :=
 condB (ilt gA iA) (chk (inb gA (List.length hA)) (chk (nlt (Int.toNat gA) (List.length hA)) (chk (nle (List.length jA) 90000) (condB (!(List.any jA (eqPr (⟨(IntKind.wrap .i64 ((IntKind.wrap .i64 ((Int.ofNat (List.length bA)) - (1:Int))) - (List.getD hA (Int.toNat gA) d_pair).p1)),(IntKind.wrap .i64 ((IntKind.wrap .i64 ((Int.ofNat (List.length bA)) - (1:Int))) - (List.getD hA (Int.toNat gA) d_pair).p0))⟩:Pair)))) (some ((.bool false),[])) (k4 jA fA hA iA (IntKind.wrap .i64 (gA+(1:Int))) bA cA aA dA))))) (k3 fA bA cA aA dA)
noncomputable def it4 (Kb3:Kont U El) (n:Nat):Kont U El:=iter nm4 (fun st' K'=>exec X (cdp [1,1,1,1,1,1,1,1,1,1,1,1,1,1,1,0,1,0,0] bd) .d st' K' (Eblk 2 (cutK nm3 Kb3) (fun _ _=>none)) RR) n
noncomputable def ct1:Kont U El:=fun st=>exec X (cdp [1,1,1] bd) (.seq none .d (.seq none .d (.seq none .d (.seq none .d (.seq none .d (.seq none .d (.seq none .d (.seq none .d (.seq none .d (.seq none .d (.seq none .d (.seq (some nm2) .d (.seq (some nm3) (.seq none .d (.block (.loop nm4 .d))) .d))))))))))))) st RR (fun _ _=>none) RR
noncomputable def ct2:Kont U El:=fun st=>exec X (cdp [1,1,1,1,1,1,1,1,1,1,1,1,1,1,1] bd) (.seq (some nm3) (.seq none .d (.block (.loop nm4 .d))) .d) st RR (fun _ _=>none) RR
noncomputable def ct3:Kont U El:=fun st=>exec X (cdp [1,1,1,1,1,1,1,1,1,1,1,1,1,1,1,1] bd) .d st RR (fun _ _=>none) RR
theorem P0 (l n lk):exec X (cdp [] bd) (.seq none .d (.seq none .d (.seq (some nm1) .d (.seq none .d (.seq none .d (.seq none .d (.seq none .d (.seq none .d (.seq none .d (.seq none .d (.seq none .d (.seq none .d (.seq none .d (.seq none .d (.seq (some nm2) .d (.seq (some nm3) (.seq none .d (.block (.loop nm4 .d))) .d)))))))))))))))) (fr0 l n lk) RR (fun _ _=>none) RR=sh0 l n lk (fun y0 y1 y2 y3=>(hid ct1) (fr1 y0 y1 y2 y3)):=by kernel_rfl
theorem P1 (eA bA cA aA):ct1 (fr1 eA bA cA aA)=sh1 eA bA cA aA (fun y0 y1 y2 y3 y4 y5 y6=>(hid ct2) (fr2 y0 y1 y2 y3 y4 y5 y6)):=by kernel_rfl
theorem P2 (kA jA fA bA cA aA dA):ct2 (fr2 kA jA fA bA cA aA dA)=sh2 kA jA fA bA cA aA dA (fun y0 y1 y2 y3 y4 y5 y6 y7 y8=>(hid (it4 (hid ct3) 100000)) (fr4 y0 y1 y2 y3 y4 y5 y6 y7 y8)):=by kernel_rfl
theorem P3 (fA bA cA aA dA):ct3 (fr3 fA bA cA aA dA)=sh3 fA bA cA aA dA:=by kernel_rfl
theorem P4 (jA fA hA iA gA bA cA aA dA) (Kb3 Kb4:Kont U El):exec X (cdp [1,1,1,1,1,1,1,1,1,1,1,1,1,1,1,0,1,0,0] bd) .d (fr4 jA fA hA iA gA bA cA aA dA) (cutK nm4 Kb4) (Eblk 2 (cutK nm3 Kb3) (fun _ _=>none)) RR=sh4 jA fA hA iA gA bA cA aA dA (fun y0 y1 y2 y3 y4=>Kb3 (fr3 y0 y1 y2 y3 y4)) (fun y0 y1 y2 y3 y4 y5 y6 y7 y8=>Kb4 (fr4 y0 y1 y2 y3 y4 y5 y6 y7 y8)):=by kernel_rfl
noncomputable def f3 (fA:List Int) (bA:List Rule) (cA:List Node) (aA:List Lnk) (dA:List Int):R:=sh3 fA bA cA aA dA
noncomputable def f4:Nat→Y4
 | 0=>fun _ _ _ _ _ _ _ _ _=>none
 | n+1=>fun jA fA hA iA gA bA cA aA dA=>sh4 jA fA hA iA gA bA cA aA dA f3 (f4 n)
noncomputable def f2 (kA:List Pair) (jA:List Pair) (fA:List Int) (bA:List Rule) (cA:List Node) (aA:List Lnk) (dA:List Int):R:=sh2 kA jA fA bA cA aA dA (f4 100000)
noncomputable def f1 (eA:Int) (bA:List Rule) (cA:List Node) (aA:List Lnk):R:=sh1 eA bA cA aA f2
noncomputable def f0 (l:List Rule) (n:Net) (lk:Int):R:=sh0 l n lk f1
theorem T3 (fA bA cA aA dA):(hid ct3) (fr3 fA bA cA aA dA)=f3 fA bA cA aA dA:=by
 refine (congrFun (hid_eq _) _).trans <| (P3 fA bA cA aA dA).trans ?_
 show _=sh3 fA bA cA aA dA
 rfl
theorem T4:∀ (n:Nat),∀ jA fA hA iA gA bA cA aA dA,it4 (hid ct3) n (fr4 jA fA hA iA gA bA cA aA dA)=f4 n jA fA hA iA gA bA cA aA dA:=by
  intro n
  induction n with
  | zero=>intros; rfl
  | succ n ih =>
    intro jA fA hA iA gA bA cA aA dA
    refine (P4 jA fA hA iA gA bA cA aA dA (hid ct3) (it4 (hid ct3) n)).trans ?_
    show _=sh4 jA fA hA iA gA bA cA aA dA f3 (f4 n)
    simp only [T3,ih]
theorem H4 (jA fA hA iA gA bA cA aA dA):hid (it4 (hid ct3) 100000) (fr4 jA fA hA iA gA bA cA aA dA)=f4 100000 jA fA hA iA gA bA cA aA dA:=(congrFun (hid_eq _) _).trans (T4 100000 jA fA hA iA gA bA cA aA dA)
theorem T2 (kA jA fA bA cA aA dA):(hid ct2) (fr2 kA jA fA bA cA aA dA)=f2 kA jA fA bA cA aA dA:=by
 refine (congrFun (hid_eq _) _).trans <| (P2 kA jA fA bA cA aA dA).trans ?_
 show _=sh2 kA jA fA bA cA aA dA (f4 100000)
 simp only [H4]
theorem T1 (eA bA cA aA):(hid ct1) (fr1 eA bA cA aA)=f1 eA bA cA aA:=by
 refine (congrFun (hid_eq _) _).trans <| (P1 eA bA cA aA).trans ?_
 show _=sh1 eA bA cA aA f2
 simp only [T2]
theorem T0 (l n lk):exec X bd (.seq none .d (.seq none .d (.seq (some nm1) .d (.seq none .d (.seq none .d (.seq none .d (.seq none .d (.seq none .d (.seq none .d (.seq none .d (.seq none .d (.seq none .d (.seq none .d (.seq none .d (.seq (some nm2) .d (.seq (some nm3) (.seq none .d (.block (.loop nm4 .d))) .d)))))))))))))))) (fr0 l n lk) RR (fun _ _=>none) RR=f0 l n lk:=by
 refine (P0 l n lk).trans ?_
 show _=sh0 l n lk f1
 simp only [T1]
theorem run (l n lk):runFn X bd (.seq none .d (.seq none .d (.seq (some nm1) .d (.seq none .d (.seq none .d (.seq none .d (.seq none .d (.seq none .d (.seq none .d (.seq none .d (.seq none .d (.seq none .d (.seq none .d (.seq none .d (.seq (some nm2) .d (.seq (some nm3) (.seq none .d (.block (.loop nm4 .d))) .d)))))))))))))))) nmR [6] [] [(.lst .rule l),(.agg [(.lst .node n.nds),(.lst .link n.lks)]),(.int .u8 lk)]=f0 l n lk:=T0 l n lk
theorem spec_loop (l:List Rule) (n:Net) (a b:List Int) (p q:List Pair) (hp:p.length≤90000) (hq:q.length≤90000) (hall:∀ x∈p,List.any q (eqPr (⟨IntKind.wrap .i64 (IntKind.wrap .i64 ((Int.ofNat l.length) - 1) - x.p1),IntKind.wrap .i64 (IntKind.wrap .i64 ((Int.ofNat l.length) - 1) - x.p0)⟩:Pair))=true) :
    ∀ (m i:Nat),p.length < m+i→i≤p.length→f4 m q a p (Int.ofNat p.length) (i:Int) l n.nds n.lks b=f3 a l n.nds n.lks b:=by
  intro m
  induction m with
  | zero=>intro i h1 h2; omega
  | succ m ih =>
    intro i h1 h2
    show sh4 q a p (Int.ofNat p.length) (i:Int) l n.nds n.lks b f3 (f4 m)=_
    unfold sh4
    by_cases hi:i < p.length
    · rw [iltT (by simp; omega), inbT hi, toNat_nat, getD_lt hi, nltT hi, nleT hq, hall _ (List.getElem_mem hi), wrapS i (by omega)]
      exact ih (i+1) (by omega) hi
    · have : i = p.length := by omega
      subst this
      rw [iltF (by simp)]
      rfl
theorem f0_eq (l : List Rule) (n : Net) (k : Int) (h : (Lit.wf (.int .u8 k)) = true) : f0 l n k = outB true := by
  have hk0:0≤k∧k≤255:=by
    have h':=h
    simp [Lit.wf,IntKind.min,IntKind.max,IntKind.signed,IntKind.bits] at h'
    omega
  show sh0 l n k f1=_
  unfold sh0
  cases hr:readyB l n with
  | false=>rfl
  | true =>
    obtain ⟨hl,hn,hg⟩:=ready_of hr
    obtain ⟨g1,g2,g3⟩:=given0 hg
    cases h0:(Int.ofNat n.lks.length == 0) with
    | true=>rfl
    | false =>
      show f1 k l n.nds n.lks=_
      show sh1 k l n.nds n.lks f2=_
      unfold sh1
      have hp:0 < n.lks.length:=by
        rcases Nat.eq_zero_or_pos n.lks.length with e | e
        · rw [e] at h0; cases h0
        · exact e
      obtain ⟨q,rfl⟩:=Int.eq_ofNat_of_zero_le hk0.1
      have e1:Int.tmod (IntKind.wrap .i64 (q:Int)) (Int.ofNat n.lks.length)=((q%n.lks.length:Nat):Int):=by rw [wrapI (by omega) (by omega)]; rfl
      have e2:q%n.lks.length < n.lks.length:=Nat.mod_lt _ hp
      have e3:((Int.ofNat n.lks.length) != 0)=true:=by rw [bne,h0]; rfl
      have hn':okN (⟨n.nds,n.lks⟩:Net)=true:=hn
      have hlen:=(rulesB_len g1).1
      have hokr:okR l.reverse=true:=by
        have:=rulesB_okR g1
        unfold okR at this ⊢
        rw [List.length_reverse,List.all_reverse]
        exact this
      have en:(⟨n.nds,n.lks⟩:Net)=n:=rfl
      have eF:List.map flipR (List.reverse l)=flipL l:=rfl
      rw [e1,toNat_nat,inbT e2,e3,en,hn,large_small' hl,hokr,nleT (show l.length≤90000 by omega),nleT (show l.length≤100000 by omega),eF,hg,given_flip hg,beq_self_eq_true]
      obtain ⟨s,hs⟩:∃ s,s=(List.getD n.lks (q%n.lks.length) d_link).ln:=⟨_,rfl⟩
      rw [← hs]
      cases manyB l n s with
      | true=>rfl
      | false =>
        have hf1:findL l n=findP l n:=by unfold findL; rw [hg]; rfl
        have hf2:findL (flipL l) n=findP (flipL l) n:=by unfold findL; rw [given_flip hg]; rfl
        have hd1:deadL l n=deadI n 0 l:=by unfold deadL; rw [hg]; rfl
        have hd2:deadL (flipL l) n=deadI n 0 (flipL l):=by unfold deadL; rw [given_flip hg]; rfl
        have hfl:(findP l n).length≤90000:=by
          have:=findI_len' n l 0
          have h2:l.length * l.length≤60 * 60:=Nat.mul_le_mul hlen hlen
          show (findI n 0 l).length≤_
          omega
        have hfl2:(findP (flipL l) n).length≤90000:=by rw [find_len]; exact hfl
        have hdl:(deadI n 0 l).length≤90000:=by
          have:=deadI_len' n l 0
          omega
        have hdl2:(deadI n 0 (flipL l)).length≤90000:=by rw [dead_len]; exact hdl
        have hcl:(compL l n s).length≤90000:=by
          unfold compL gapL
          cases compOk l n s with
          | false=>exact Nat.zero_le _
          | true =>
            cases gapO l n s l s n.nds with
            | none=>exact Nat.zero_le _
            | some i =>
              show (corner (padM l n s) i).length≤_
              rw [padM_len l n s i]
              exact nleI (okN_nds hn)
        rw [hf1,hf2,hd1,hd2,find_len,dead_len,compB_flip hg,compL_flip hg,compE_flip hg,nleT hcl,eqI_self]
        simp only [bne_self_eq_false,beq_self_eq_true,Bool.not_true,condF,condT,chkT,Bool.and_true,Bool.not_false]
        show f4 100000 (findP (flipL l) n) (deadI n 0 l) (findP l n) (Int.ofNat (findP l n).length) ((0:Nat):Int) l n.nds n.lks (deadI n 0 (flipL l))=_
        rw [spec_loop l n (deadI n 0 l) (deadI n 0 (flipL l)) (findP l n) (findP (flipL l) n) hfl hfl2 (fun x hx=>?_) 100000 0 (by omega) (by omega)]
        · show sh3 (deadI n 0 l) l n.nds n.lks (deadI n 0 (flipL l)) = _
          unfold sh3
          have hsm:List.all (deadI n 0 l) (smallI (deadI n 0 (flipL l)))=true:=List.all_eq_true.2 fun x _=>nleT hdl2
          have hoff:List.any (deadI n 0 l) (offB (deadI n 0 (flipL l)) l)=false:=by
            cases e:List.any (deadI n 0 l) (offB (deadI n 0 (flipL l)) l) with
            | false=>rfl
            | true =>
              obtain ⟨x,hx,hb⟩:=List.any_eq_true.1 e
              obtain ⟨j,hj,hxj,_⟩:=(mem_deadI n l 0 x).1 hx
              have hm:=dead_mem hx
              unfold offB at hb
              have hxj':x=((j:Nat):Int):=by rw [hxj]; simp
              have e4:IntKind.wrap .i64 ((IntKind.wrap .i64 ((Int.ofNat l.length) - 1)) - x)=(l.length:Int) - 1 - x:=by rw [hxj']; exact wrap_sub hj (by omega)
              rw [e4] at hb
              have:List.any (deadI n 0 (flipL l)) (eqInt ((l.length:Int) - 1 - x))=true:=List.any_eq_true.2 ⟨_,hm,by unfold eqInt; simp⟩
              rw [this] at hb
              cases hb
          rw [nleT hdl,hsm,hoff,hn',show netB (⟨n.nds,n.lks⟩:Net)=true from g2]
          rfl
        · obtain ⟨j, k, hj, hk, rfl⟩ := findI_idx hx
          have hm:=turn_mem hx
          simp only
          rw [wrap_sub hj (by omega),wrap_sub hk (by omega)]
          refine List.any_eq_true.2 ⟨_,hm,?_⟩
          unfold turnP eqPr
          simp
theorem ok:CtxOk Tryz.prog X:=ctxOk tab (spC awake.spOk (spC equalI.spOk (spC find.spOk (spC dead.spOk (spC many.spOk (spC complete.spOk (spC ready.spOk (spC cloneR.spOk (spC hasP.spOk (spC co1C.spOk (spC rnvalid.spOk spN))))))))))) dpN
theorem okM:MOk Tryz.prog X:=mspecOf_ok _ (mpC (revOk rfl ok) mpN)
theorem spec (l:List Rule) (n:Net) (lk:Int) (h:(Lit.wf (.int .u8 lk))=true):CallSpec Tryz.prog E 6 [(.lst .rule l),(.agg [(.lst .node n.nds),(.lst .link n.lks)]),(.int .u8 lk)] (.bool (true)) [] :=
 runFn_soundF ok okM Tryz.call6 Tryz.func6 (by kernel_rfl) (by kernel_rfl) (by kernel_rfl) (by show 3≤194; decide) (by decide) (by rfl) ((run l n lk).trans (f0_eq l n lk h)) (fun S w=>turnO.frO_ok rfl rfl rfl S w _)
noncomputable def sp:Sp U El:=fun args k=>match args with
 | [.lst .rule l,.agg [.lst .node n_nds,.lst .link n_lks],.int .u8 lk]=>chk (Lit.wf (.int .u8 lk)) (k (.bool (true)) [])
 | _=>none
theorem spOk:SpOk Tryz.prog E 6 sp:=⟨fun vs=>by unfold sp;split;exact det_c _ _ _;exact ⟨none,fun _=>rfl⟩,fun vs k r h=>by unfold sp at h;split at h;(obtain ⟨h1,h2⟩:=chk_some h;exact ⟨_,_,spec _ ⟨_,_⟩ _ h1,h2⟩);cases h⟩
end lawOrder
end Go.Proofs.YthdimnlkcgchoaaGreat
