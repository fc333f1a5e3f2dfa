/- slices.SortFunc as a contract of the lift: the kit's shelf's whole contract over a row of the call's own, under a comparison that has a contract of the lift. -/
import Derived.Test.YthdklallcljhlaaGreatDoorLU
import Derived.Shelf.SlSortCmp.NoneTotal
namespace Go.Proofs.YthdklallcljhlaaGreatDoor
set_option linter.unusedVariables false
set_option linter.unusedSectionVars false
set_option linter.unusedSimpArgs false
open Go.RowKit Go.Shelf Go.Sort
section
variable {U:Type} {El:U→Type} {P:Program} {X:Ctx U El} {S S0:Nat→Prop} {ρ:Rho} {w w0:World} [DecidableEq U]
variable {a:Act} {st:St U El} {B:Bd} {d:Nat} {r:Fin U El}
def AV.prim:AV U El→Bool
  | .bool _ | .int _ _ | .str _=>true
  | _=>false
def AV.val:AV U El→Value
  | .bool b => .bool b
  | .int k n => .int k n
  | .str s => .string ⟨s.toArray⟩
  | _=>undef
theorem qc {E:Univ U El} {c:AV U El} {v:Value} (h:c.prim=true) (hr:Rel E S ρ w c v):v=c.val:=by
  cases hr<;>first | rfl | (simp [AV.prim] at h; done)
theorem oe {E:Univ U El} {c:AV U El} (h:c.prim=true):Rel E S ρ w c c.val:=by
  cases c<;>first | exact .bool _ | exact .int _ _ | exact .str _ | (simp [AV.prim] at h; done)
theorem rg {c:AV U El} (h:c.prim=true):c.val.oneCell'=true:=by
  cases c<;>first | rfl | (simp [AV.prim] at h; done)
theorem rh {W w':World} (h:Fr (eG W) W w'):∃ q os,w'=grow (W.drewN q) os:=by
  refine ⟨w'.drawn - W.drawn,w'.heap.extract W.heap.size w'.heap.size,?_⟩
  obtain ⟨h1,h2,h3,h4,h5,h6⟩:=h
  have hh:w'.heap=W.heap++w'.heap.extract W.heap.size w'.heap.size:=by
    apply Array.ext_getElem?
    intro k
    by_cases hk:k < W.heap.size
    · rw [Array.getElem?_append_left hk]
      exact h6 k hk (Nat.not_le_of_lt hk)
    · rw [Array.getElem?_append_right (by omega), Array.getElem?_extract]
      by_cases hk2:k < w'.heap.size
      · rw [if_pos (by omega),show W.heap.size+(k - W.heap.size)=k by omega]
      · rw [if_neg (by omega),Array.getElem?_eq_none (by omega)]
  have hd:W.drawn+(w'.drawn - W.drawn)=w'.drawn:=by omega
  cases w'
  simp only at h1 h2 h3 hh hd
  subst h1 h2 h3
  unfold grow World.drewN
  simp only [World.mk.injEq,and_true,true_and]
  exact ⟨hh,hd.symm⟩
theorem Inv.rewrite {id:Nat} {l:Loc} {u:U} {xs ys:List (El u)} {w':World} (hi:Inv X B S0 w0 S ρ st a w) (hg:aa st.h id=some (.rows u xs)) (hl:ρ id=some l) (hn:l.n≠0) (hs:SameAt (fun k=>k=l.b) w w')
    (hc:BlkRel X.E S ρ w' B l (.rows u ys)):Inv X B S0 w0 S ρ ⟨st.t,a6 st.h id (.rows u ys)⟩ a w':=by
  obtain ⟨l0,e0,hb⟩:=hi.heap.get _ _ hg
  rw [hl] at e0; cases e0
  obtain ⟨h1,h2,h3⟩:=hb.lt hn
  have hsame:∀ k,S k→w'.heap[k]? = w.heap[k]? := fun k hk=>hs.block k (hi.heap.lt k hk) (by rintro rfl; exact h3 hk)
  refine ⟨hi.defers,hi.size,hi.below.trans ⟨hs.os,hs.tape,hs.output,hs.size,hs.drawn,fun k hk hbk=>hs.block k hk (by rintro rfl; exact hbk h2)⟩,fun k hk=>hi.hB k (Nat.le_trans hs.size hk),hi.s0,hi.s1,hi.g0,fun i=>(hi.tmps i).mono (fun _ h=>h) hsame (fun _ _ h=>h),⟨fun j b' hj => ?_,fun i j b1 b2 l1 l2 hgi hgj hne hli hlj hn1 hn2 => ?_,fun k hk=>Nat.lt_of_lt_of_le (hi.heap.lt k hk) hs.size⟩⟩
  · rw [bc] at hj
    by_cases e:j=id
    · subst e
      rw [if_pos rfl,hg] at hj
      cases hj
      exact ⟨l,hl,hc⟩
    · rw [if_neg e] at hj
      obtain ⟨l',hl',hb'⟩:=hi.heap.get j b' hj
      refine ⟨l',hl',hb'.mono (fun _ h=>h) hsame (fun _ _ h=>h) fun hn'=>⟨hs.block _ (hb'.lt hn').1 ?_,(hb'.lt hn').2.2⟩⟩
      exact hi.heap.inj j id b' _ l' l hj hg e hl' hl hn' hn
  · have k : ∀ j b', aa (a6 st.h id (.rows u ys)) j = some b' → ∃ b0, aa st.h j = some b0 := fun j b' h => by
      rw [bc] at h
      split at h
      · rename_i e; subst e; exact ⟨_,hg⟩
      · exact ⟨b',h⟩
    obtain ⟨b1',hb1⟩:=k i b1 hgi
    obtain ⟨b2',hb2⟩:=k j b2 hgj
    exact hi.heap.inj i j b1' b2' l1 l2 hb1 hb2 hne hli hlj hn1 hn2
theorem ri {b o:Nat} {c:Array Value} {e:TypeId} (h:w.heap[b]? = some (.cells c e (0,0))):w.cell? ⟨b,o,none⟩=c[o]? ∧ w.frozen? ⟨b,o,none⟩=false:=by
  constructor
  · simp [World.cell?,h]
  · simp [World.frozen?,h]
end
end Go.Proofs.YthdklallcljhlaaGreatDoor

namespace Go.Proofs.YthdklallcljhlaaGreatDoor
set_option linter.unusedVariables false
set_option linter.unusedSectionVars false
set_option linter.unusedSimpArgs false
open Go.RowKit Go.Shelf Go.Sort
section
variable {U:Type} {El:U→Type} {P:Program} {X:Ctx U El} {S S0:Nat→Prop} {ρ:Rho} {w w0:World} [DecidableEq U]
variable {a:Act} {st:St U El} {B:Bd} {d:Nat} {r:Fin U El}
noncomputable def ip {α:Type} [Inhabited α] (lt:α→α→Bool) (xs:List α):List α:=(Sort.insertionSort lt xs.toArray 0 xs.toArray.size).toList
theorem o4 {α:Type} [Inhabited α] {lt:α→α→Bool} (hO:SWO lt) (xs:List α):(Sort.insertionSort lt xs.toArray 0 xs.toArray.size).size=xs.length:=by
  have:=(insertionSort_holds (lt:=lt) hO xs.toArray 0 xs.toArray.size (Nat.zero_le _) (Nat.le_refl _)).1.1
  simpa using this
theorem mq {α:Type} [Inhabited α] (lt:α→α→Bool):ip lt ([]:List α)=[]:=by
  unfold ip Sort.insertionSort
  rw [insOuter_stop _ _ _ _ _ (by simp)]
noncomputable def ch (u:U) [Inhabited (El u)] (g:FuncId) (lt:El u→El u→Bool):SpM U El:=fun d args st k=>match args with
  | [.ful id, .fn f [] []] => match aa st.h id with
    | some (.rows u' xs)=>if e:u'=u then chk (Nat.beq f g&&nle xs.length 12) (k (.tup []) ⟨st.t,a6 st.h id (.rows u (ip lt (e ▸ xs)))⟩) else none
    | _=>none
  | _=>none
set_option maxHeartbeats 1000000 in
theorem kY {fid : FuncId} {u : U} {g : FuncId} {cf : El u → El u → Int} [Inhabited (El u)] (hX : CtxOk P X) (hc : ∀ xs w, (callFunc fid xs).run P w = .ok (.enter fid xs) w)
    (hp:∀ x c,c∈X.E.enc u x→c.prim=true)
    (hcmp:∀ x y,aq P X.E g [.agg (X.E.enc u x),.agg (X.E.enc u y)] (.int .i64 (cf x y)) []) (hO:SWO (ltOf cf))
    (hnone:∀ p cap fv W,Calls P fid #[.slice p 0 cap,fv] W fun e w'=>e = .returned (.tuple #[])∧w'=W)
    (hrun:∀ (enc:El u→List Value) (b cap:Nat) (dd:Array (El u)) (W:World),(∀ x,(enc x).length=X.E.sz u)→(∀ x,∀ v∈enc x,v.oneCell'=true)→(∀ args w,(callFunc g args).run P w = .ok (.enter g args) w)→CmpLays P g #[] enc (X.E.sz u) cf b 0 dd.size W→HoldsK enc (X.E.sz u) W b 0 dd→b < W.heap.size→dd.size≤12 →
      Calls P fid #[.slice (some ⟨b,0,none⟩) dd.size cap,.func (.func g) #[] #[]] W fun e w'=>e = .returned (.tuple #[])∧∃ n os,w'=sortWorldK enc (X.E.sz u) W b 0 n (Sort.insertionSort (ltOf cf) dd 0 dd.size) os) :
    ck P X fid (ch u g (ltOf cf)):=by
  refine ⟨hc,?_⟩
  intro B S0 w0 S ρ st a w d args vs k r hi hr hv
  unfold ch at hv
  split at hv
  · rename_i id f
    split at hv
    · rename_i u' xs hg
      split at hv
      · rename_i e
        subst e
        obtain ⟨hck,hk⟩:=ab hv
        simp only [Bool.and_eq_true,nle,decide_eq_true_eq] at hck
        obtain ⟨hfg,hlen⟩:=hck
        obtain rfl:=Nat.eq_of_beq_eq_true hfg
        obtain ⟨v1,v2,rfl,r1,r2⟩:∃ v1 v2,vs=#[v1,v2]∧Rel X.E S ρ w (.ful id) v1∧Rel X.E S ρ w (.fn f [] []) v2:=by
          obtain ⟨h1,h2⟩:=hr
          match vs,h1,h2 with
          | ⟨[v1,v2]⟩,_,h2=>exact ⟨v1,v2,rfl,h2 0 _ v1 rfl rfl,h2 1 _ v2 rfl rfl⟩
        have hv2:v2 = .func (.func f) #[] #[]:=by
          cases r2 with
          | fn _ _ _ vf vc hlf hlc _ _ =>
            have e1:vf=#[]:=Array.eq_empty_of_size_eq_zero (by simpa using hlf)
            have e2:vc=#[]:=Array.eq_empty_of_size_eq_zero (by simpa using hlc)
            rw [e1,e2]
        subst hv2
        obtain ⟨l,hl1,hbl⟩:=hi.heap.get _ _ hg
        have hbl':=hbl
        obtain ⟨c1,c2,c3,c4⟩:=hbl
        have hnone':xs=[]→∀ p cap,v1 = .slice p 0 cap→Calls P fid #[v1,.func (.func f) #[] #[]] w fun e w'=>∃ v res st' S' ρ',e = .returned v∧k res st'=some r∧Inv X B S0 w0 S' ρ' st' a w'∧Rel X.E S' ρ' w' res v:=by
          rintro hxs p cap rfl
          refine (hnone p cap _ w).mono ?_
          rintro e w' ⟨rfl,rfl⟩
          subst hxs
          refine ⟨_,_,_,S,ρ,rfl,hk,?_,.tup _ _ rfl (by simp)⟩
          have:a6 st.h id (.rows u' (ip (ltOf cf) ([]:List (El u'))))=a6 st.h id (.rows u' []):=by rw [mq]
          refine ⟨hi.defers,hi.size,hi.below,hi.hB,hi.s0,hi.s1,hi.g0,hi.tmps,hi.heap.congr fun j => ?_⟩
          simp only [mq,bc]
          split
          · rename_i e; subst e; rw [hg]; rfl
          · rfl
        cases hxs:xs with
        | nil =>
          cases r1 with
          | fulN _ l' hl' e1 e2=>exact hnone' hxs _ _ rfl
          | ful _ cap l' hl' e1 e2 =>
            rw [hl1] at hl'; cases hl'
            have:l.ln=0:=by rw [c2,hxs]; rfl
            exact hnone' hxs (some ⟨l.b,0,none⟩) cap (by rw [this])
        | cons x0 xs0 =>
          have hpos:=hX.u.pos u'
          have hlx:0 < xs.length:=by rw [hxs]; simp
          have hn0:l.n≠0:=by
            have:=Nat.mul_le_mul hlx hpos
            omega
          obtain ⟨c5,c6,cur,hh,c7,c8⟩:=c4 hn0
          cases r1 with
          | fulN _ l' hl' e1 e2=>rw [hl1] at hl'; cases hl'; exact absurd e1 hn0
          | ful _ cap l' hl' e1 e2 =>
            rw [hl1] at hl'; cases hl'
            rw [c2] at e2 ⊢
            let enc:El u'→List Value:=fun x=>(X.E.enc u' x).map AV.val
            have henc:∀ x,(enc x).length=X.E.sz u':=fun x=>by simp [enc,hX.u.len]
            have h1:∀ x,∀ v∈enc x,v.oneCell'=true:=fun x v hv=>by
              simp only [enc,List.mem_map] at hv
              obtain ⟨c,hc,rfl⟩:=hv
              exact rg (hp x c hc)
            have hblk:l.b < w.heap.size:=(hbl'.lt hn0).1
            have hcells:∀ j,j < xs.length * X.E.sz u'→cur[j]? = some (flatK enc (X.E.sz u') xs.toArray)[j]! := fun j hj=>by
              have hq:j / X.E.sz u' < xs.length:=Nat.div_lt_of_lt_mul (by rw [Nat.mul_comm]; exact hj)
              have hm:j%X.E.sz u' < X.E.sz u':=Nat.mod_lt _ hpos
              have hm':j%X.E.sz u' < (X.E.enc u' xs[j / X.E.sz u']).length:=by rw [hX.u.len]; exact hm
              obtain ⟨v,hv,hrv⟩:=c8 (j / X.E.sz u') _ (j%X.E.sz u') _ (List.getElem?_eq_getElem hq) (List.getElem?_eq_getElem hm')
              rw [show j / X.E.sz u' * X.E.sz u'+j%X.E.sz u'=j by rw [Nat.mul_comm]; exact Nat.div_add_mod j _] at hv
              rw [hv,qc (hp _ _ (List.getElem_mem hm')) hrv,get_flatK _ _ _ _ (by simpa using hj)]
              rw [getElem!_pos xs.toArray _ (by simpa using hq)]
              simp only [enc]
              rw [getElem!_pos _ _ (by simpa using hm')]
              simp
            have hH:HoldsK enc (X.E.sz u') w l.b 0 xs.toArray:=fun j hj=>by
              rw [size_flatK] at hj
              obtain ⟨g1,g2⟩:=ri (o:=0+j) hh
              refine ⟨?_,g2⟩
              rw [g1,Nat.zero_add,hcells j (by simpa using hj)]
              rfl
            have hput:∀ (m:Nat) (os:Array Obj) (dk:Array (El u')),dk.size=xs.length →
                SameAt (fun k=>k=l.b) w (sortWorldK enc (X.E.sz u') w l.b 0 m dk os)∧∃ cur',(sortWorldK enc (X.E.sz u') w l.b 0 m dk os).heap[l.b]? = some (.cells cur' (X.E.tid u') (0,0))∧cur'.size=cur.size∧∀ j,j < xs.length * X.E.sz u'→cur'[j]? = some (flatK enc (X.E.sz u') dk)[j]! := fun m os dk hdk=>by
              have hheap:(sortWorldK enc (X.E.sz u') w l.b 0 m dk os).heap=w.heap.modify l.b (onCells (putCells _root_.id 0 (flatK enc (X.E.sz u') dk)))++os:=rfl
              refine ⟨⟨rfl,rfl,rfl,?_,?_,fun k hk hkb => ?_⟩,putCells _root_.id 0 (flatK enc (X.E.sz u') dk) cur,?_,?_,fun j hj => ?_⟩
              · rw [hheap]; simp
              · show w.drawn≤w.drawn+m; omega
              · rw [hheap,Array.getElem?_append_left (by simpa using hk),Array.getElem?_modify,if_neg (Ne.symm hkb)]
              · rw [hheap, Array.getElem?_append_left (by simpa using hblk), Array.getElem?_modify, if_pos rfl, hh]
                rfl
              · simp [putCells]
              · have hjc : j < cur.size := by
                  have:=hcells j hj
                  exact (Array.getElem?_eq_some_iff.1 this).1
                simp only [putCells,Array.getElem?_mapIdx,Array.getElem?_eq_getElem hjc,Option.map_some]
                rw [if_pos (by simp [hdk]; omega)]
                rfl
            have hfr:∀ m os dk,dk.size=xs.length→Fr B w (sortWorldK enc (X.E.sz u') w l.b 0 m dk os):=fun m os dk hdk=>by
              obtain ⟨hs,_⟩:=hput m os dk hdk
              exact ⟨hs.os,hs.tape,hs.output,hs.size,hs.drawn,fun k hk hkb=>hs.block k hk (by rintro rfl; exact hkb c5)⟩
            have hlays:CmpLays P f #[] enc (X.E.sz u') cf l.b 0 xs.toArray.size w:=fun m os dk hdk x y=>by
              have hG:=hi.g0 _ (hi.below.trans (hfr m os dk (by simpa using hdk)))
              have hpair:fo X.E (fun _=>False) (fun _=>none) (sortWorldK enc (X.E.sz u') w l.b 0 m dk os) [.agg (X.E.enc u' x),.agg (X.E.enc u' y)] #[.agg (enc x).toArray,.agg (enc y).toArray]:=by
                have ag:∀ z,Rel X.E (fun _=>False) (fun _=>none) (sortWorldK enc (X.E.sz u') w l.b 0 m dk os) (.agg (X.E.enc u' z)) (.agg (enc z).toArray):=fun z=>by
                  refine .agg _ _ (by simp [enc]) fun i c v hc hv => ?_
                  simp only [enc,List.getElem?_toArray,List.getElem?_map,hc,Option.map_some,Option.some.injEq] at hv
                  subst hv
                  exact oe (hp z c (List.mem_of_getElem? hc))
                refine ⟨rfl,fun i c v hc hv => ?_⟩
                match i,hc,hv with
                | 0,hc,hv=>cases hc; cases hv; exact ag x
                | 1,hc,hv=>cases hc; cases hv; exact ag y
              refine ((hcmp x y).2.2 (fun _=>False) _ _ (fun _ h=>h.elim) hG hpair).mono ?_
              rintro e w' ⟨v,S',ρ',rfl,hst,_,hrv⟩
              cases hrv
              exact ⟨rfl,rh hst.fr⟩
            refine (hrun enc l.b cap xs.toArray w henc h1 (hcmp x0 x0).1 hlays hH hblk (by simpa using hlen)).mono ?_
            rintro e w' ⟨rfl,n,os,rfl⟩
            have hsz:=o4 hO xs
            generalize hd':Sort.insertionSort (ltOf cf) xs.toArray 0 xs.toArray.size=d' at hsz ⊢
            have hys:ip (ltOf cf) xs=d'.toList:=by unfold ip; rw [hd']
            simp only [hys] at hk
            obtain ⟨hs,cur',hh',hsz',hcl'⟩:=hput n os d' hsz
            have hlen':d'.toList.length=xs.length:=by simpa using hsz
            refine ⟨_,_,_,S,ρ,rfl,hk,hi.rewrite hg hl1 hn0 hs ⟨c1,by rw [hlen']; exact c2,by rw [hlen']; exact c3,fun _=>⟨c5,c6,cur',hh',by rw [hsz']; exact c7,fun i x j c hx hc => ?_⟩⟩,.tup _ _ rfl (by simp)⟩
            have hil:i < xs.length:=by rw [← hlen']; exact (List.getElem?_eq_some_iff.1 hx).1
            have hjl:j < X.E.sz u':=by rw [← hX.u.len u' x]; exact (List.getElem?_eq_some_iff.1 hc).1
            have hij:i * X.E.sz u'+j < xs.length * X.E.sz u':=by
              have:=Nat.mul_le_mul_right (X.E.sz u') (show i+1≤xs.length by omega)
              rw [Nat.add_mul,Nat.one_mul] at this
              omega
            refine ⟨_,hcl' _ hij,?_⟩
            have hd1:(i * X.E.sz u'+j) / X.E.sz u'=i:=by rw [Nat.mul_comm,Nat.mul_add_div hpos,Nat.div_eq_of_lt hjl,Nat.add_zero]
            have hd2:(i * X.E.sz u'+j)%X.E.sz u'=j:=by rw [Nat.mul_comm,Nat.mul_add_mod,Nat.mod_eq_of_lt hjl]
            have:(flatK enc (X.E.sz u') d')[i * X.E.sz u'+j]! = c.val:=by
              rw [get_flatK _ _ _ _ (by rw [hsz]; exact hij),hd1,hd2]
              have hx':d'[i]! = x:=by
                rw [getElem!_pos _ i (by rw [hsz]; exact hil)]
                have:=(List.getElem?_eq_some_iff.1 hx).2
                simpa using this
              rw [hx']
              simp only [enc]
              have hjl':j < ((X.E.enc u' x).map AV.val).length:=by simp [hX.u.len]; exact hjl
              rw [getElem!_pos _ j hjl',List.getElem_map,(List.getElem?_eq_some_iff.1 hc).2]
            rw [this]
            exact oe (hp x c (List.mem_of_getElem? hc))
      · cases hv
    · cases hv
  · cases hv
end
section plain
variable {α:Type} [Inhabited α] {lt:α→α→Bool}
def b9 (lt:α→α→Bool) (x:α):List α→List α
  | []=>[x]
  | y :: r=>bif lt x y then y :: b9 lt x r else x :: y :: r
def iq (lt:α→α→Bool) (r xs:List α):List α:=xs.foldl (fun r x=>b9 lt x r) r
def fN (lt:α→α→Bool) (xs:List α):List α:=(iq lt [] xs).reverse
theorem qe (x:α):∀ r,(b9 lt x r).length=r.length+1:=by
  intro r
  induction r with
  | nil=>rfl
  | cons y r ih=>unfold b9; cases lt x y<;>simp [ih]
theorem qg (A B:List α) (y x:α):swp ((A++y :: x :: B).toArray) (A.length+1) A.length=(A++x :: y :: B).toArray:=by
  have h1:((A++y :: x :: B).toArray)[A.length]! = y:=by
    rw [getElem!_pos _ _ (by simp)]; simp
  have h2:((A++y :: x :: B).toArray)[A.length+1]! = x:=by
    rw [getElem!_pos _ _ (by simp)]; simp
  unfold swp
  rw [h1,h2,List.setIfInBounds_toArray,List.setIfInBounds_toArray]
  congr 1
  rw [List.set_append_right _ _ (by omega),List.set_append_right _ _ (by omega)]
  simp
theorem nr:∀ (r:List α) (x:α) (rest:List α),insInner lt 0 r.length (r.reverse++x :: rest).toArray=((b9 lt x r).reverse++rest).toArray:=by
  intro r
  induction r with
  | nil =>
    intro x rest
    show insInner lt 0 0 (x :: rest).toArray=_
    rw [insInner_stop lt 0 0 _ (.inl (Nat.le_refl _))]
    simp [b9]
  | cons y r ih =>
    intro x rest
    have e0:(y :: r).reverse++x :: rest=r.reverse++y :: x :: rest:=by simp
    rw [e0]
    have h1:((r.reverse++y :: x :: rest).toArray)[r.length+1]! = x:=by
      rw [getElem!_pos _ _ (by simp)]; simp
    have h2:((r.reverse++y :: x :: rest).toArray)[r.length]! = y:=by
      rw [getElem!_pos _ _ (by simp)]; simp
    unfold b9
    cases hl:lt x y with
    | true =>
      have hh:(y :: r).length=r.length+1:=rfl
      rw [hh,insInner_go lt 0 (r.length+1) _ (by omega) (by rw [Nat.add_sub_cancel,h1,h2]; exact hl),Nat.add_sub_cancel]
      have:=qg r.reverse rest y x
      rw [List.length_reverse] at this
      rw [this,ih x (y :: rest)]
      simp
    | false =>
      have hh:(y :: r).length=r.length+1:=rfl
      rw [hh,insInner_stop lt 0 _ _ (.inr (by rw [Nat.add_sub_cancel,h1,h2]; exact hl))]
      simp
theorem nu:∀ (xs r:List α),insOuter lt 0 (r.length+xs.length) r.length (r.reverse++xs).toArray=((iq lt r xs).reverse).toArray:=by
  intro xs
  induction xs with
  | nil=>intro r; rw [insOuter_stop lt _ _ _ _ (by simp)]; simp [iq]
  | cons x xs ih =>
    intro r
    rw [insOuter_go lt _ _ _ _ (by simp),nr]
    have:=ih (b9 lt x r)
    rw [qe] at this
    have e:r.length+(x :: xs).length=r.length+1+xs.length:=by simp; omega
    rw [e,this]
    rfl
theorem nv (xs:List α):ip lt xs=fN lt xs:=by
  cases xs with
  | nil =>
    unfold ip insertionSort
    rw [insOuter_stop _ _ _ _ _ (by simp)]
    rfl
  | cons x t =>
    have:=nu (lt:=lt) t [x]
    unfold ip insertionSort fN
    have e:(x :: t).toArray.size=[x].length+t.length:=by simp; omega
    rw [e]
    have e2:([x].reverse++t)=x :: t:=rfl
    rw [e2] at this
    show (insOuter lt 0 ([x].length+t.length) [x].length (x :: t).toArray).toList=_
    rw [this]
    rfl
theorem kk (x:α):∀ r,(b9 lt x r).Perm (x :: r):=by
  intro r
  induction r with
  | nil=>exact List.Perm.refl _
  | cons y r ih =>
    unfold b9
    cases lt x y with
    | true=>exact (ih.cons y).trans (List.Perm.swap x y r)
    | false=>exact List.Perm.refl _
theorem o5:∀ (xs r:List α),(iq lt r xs).Perm (r++xs):=by
  intro xs
  induction xs with
  | nil=>intro r; simp [iq]
  | cons x xs ih =>
    intro r
    refine (ih (b9 lt x r)).trans ?_
    exact ((kk x r).append_right xs).trans (List.perm_middle (a:=x) (l₁:=r) (l₂:=xs)).symm
theorem bW (xs:List α):(fN lt xs).Perm xs:=(List.reverse_perm _).trans (by simpa using o5 xs [])
def km (lt:α→α→Bool) (r:List α):Prop:=r.Pairwise fun a b=>lt a b=false
theorem kn (hO:SWO lt) (x:α):∀ r,km lt r→km lt (b9 lt x r):=by
  intro r
  induction r with
  | nil=>intro _; exact List.pairwise_singleton _ _
  | cons y r ih =>
    intro h
    obtain ⟨h1,h2⟩:=List.pairwise_cons.1 h
    unfold b9
    cases hx:lt x y with
    | true =>
      refine List.pairwise_cons.2 ⟨fun z hz => ?_,ih h2⟩
      rcases List.mem_cons.1 ((kk x r).mem_iff.1 hz) with rfl | hz
      · exact hO.asymmA hx
      · exact h1 z hz
    | false =>
      refine List.pairwise_cons.2 ⟨fun z hz => ?_,h⟩
      rcases List.mem_cons.1 hz with rfl | hz
      · exact hx
      · exact hO.ntrans x y z hx (h1 z hz)
theorem o6 (hO:SWO lt):∀ (xs r:List α),km lt r→km lt (iq lt r xs):=by
  intro xs
  induction xs with
  | nil=>intro r h; exact h
  | cons x xs ih=>intro r h; exact ih _ (kn hO x r h)
theorem ju (hO:SWO lt) (xs:List α):(fN lt xs).Pairwise fun a b=>lt b a=false:=by
  unfold fN
  rw [List.pairwise_reverse]
  exact o6 hO xs [] List.Pairwise.nil
theorem o7 (x:α) {r:List α} (h:∀ y∈r,lt x y=false):b9 lt x r=x :: r:=by
  cases r with
  | nil=>rfl
  | cons y r=>unfold b9; rw [h y (by simp)]; rfl
theorem mr (hO : SWO lt) (p : α → Bool) (x : α) : ∀ r, km lt r → (b9 lt x r).filter p = bif p x then b9 lt x (r.filter p) else r.filter p := by
  intro r
  induction r with
  | nil=>intro _; cases hp:p x<;>simp [b9,hp]
  | cons y r ih =>
    intro h
    obtain ⟨h1,h2⟩:=List.pairwise_cons.1 h
    have hi:=ih h2
    cases hx:lt x y with
    | true =>
      have e:b9 lt x (y :: r)=y :: b9 lt x r:=by rw [b9,hx]; rfl
      rw [e]
      cases hy:p y with
      | true =>
        rw [List.filter_cons_of_pos hy,List.filter_cons_of_pos hy,hi]
        cases hp:p x with
        | true=>simp only [cond_true]; rw [b9,hx]; rfl
        | false=>rfl
      | false =>
        rw [List.filter_cons_of_neg (by simp [hy]),List.filter_cons_of_neg (by simp [hy])]
        exact hi
    | false =>
      have e:b9 lt x (y :: r)=x :: y :: r:=by rw [b9,hx]; rfl
      rw [e]
      cases hp:p x with
      | true =>
        rw [List.filter_cons_of_pos hp]
        simp only [cond_true]
        refine (o7 x fun z hz => ?_).symm
        have hz':=(List.mem_filter.1 hz).1
        rcases List.mem_cons.1 hz' with rfl | hz'
        · exact hx
        · exact hO.ntrans x y z hx (h1 z hz')
      | false=>rw [List.filter_cons_of_neg (by simp [hp])]; rfl
theorem ms (hO:SWO lt) (p:α→Bool):∀ (xs r:List α),km lt r→(iq lt r xs).filter p=iq lt (r.filter p) (xs.filter p):=by
  intro xs
  induction xs with
  | nil=>intro r _; rfl
  | cons x xs ih =>
    intro r h
    show (iq lt (b9 lt x r) xs).filter p=_
    rw [ih _ (kn hO x r h),mr hO p x r h]
    cases hp:p x with
    | true=>rw [List.filter_cons_of_pos hp]; rfl
    | false=>rw [List.filter_cons_of_neg (by simp [hp])]; rfl
theorem hQ (hO:SWO lt) (p:α→Bool) (xs:List α):fN lt (xs.filter p)=(fN lt xs).filter p:=by
  unfold fN
  rw [List.filter_reverse,ms hO p xs [] List.Pairwise.nil]
  rfl
theorem qh {β:Type} [Inhabited β] {lt':β→β→Bool} (f:α→β) (h:∀ a b,lt' (f a) (f b)=lt a b) (xs:List α):fN lt' (xs.map f)=(fN lt xs).map f:=by
  have h1:∀ (x:α) (r:List α),b9 lt' (f x) (r.map f)=(b9 lt x r).map f:=by
    intro x r
    induction r with
    | nil=>rfl
    | cons y r ih =>
      rw [List.map_cons,b9,b9,h]
      cases lt x y with
      | true=>simp only [cond_true,List.map_cons,ih]
      | false=>rfl
  have h2:∀ (xs r:List α),iq lt' (r.map f) (xs.map f)=(iq lt r xs).map f:=by
    intro xs
    induction xs with
    | nil=>intro r; rfl
    | cons x xs ih =>
      intro r
      show iq lt' (b9 lt' (f x) (r.map f)) (xs.map f)=_
      rw [h1,ih]
      rfl
  unfold fN
  rw [List.map_reverse,← h2 xs []]
  rfl
end plain
end Go.Proofs.YthdklallcljhlaaGreatDoor
