/- slices.SortFunc as a contract of the lift: the kit's shelf's whole contract over a row of the call's own, under a comparison that has a contract of the lift. -/
import Derived.Test.YtkeplmpcijigaaaLP
import Derived.Shelf.SlSortCmp.NoneTotal
namespace Go.Proofs.Ytkeplmpcijigaaa
set_option linter.unusedVariables false
set_option linter.unusedSectionVars false
set_option linter.unusedSimpArgs false
open Go.RowKit Go.Shelf Go.Sort
section
variable {U:Type} {El:U→Type} {P:Program} {X:Ctx U El} {S S0:Nat→Prop} {ρ:Rho} {w w0:World} [DecidableEq U] [Drw]
variable {a:Act} {st:St U El} {B:Bd} {d:Nat} {r:Fin U El}
def AV.prim:AV U El→Bool
  | .bool _ | .int _ _ | .str _=>true
  | _=>false
def AV.val:AV U El→Value
  | .bool b => .bool b
  | .int k n => .int k n
  | .str s => .string ⟨s.toArray⟩
  | _=>undef
theorem prim_val {E:Univ U El} {c:AV U El} {v:Value} (h:c.prim=true) (hr:Rel E S ρ w c v):v=c.val:=by
  cases hr<;>first | rfl | (simp [AV.prim] at h; done)
theorem val_rel {E:Univ U El} {c:AV U El} (h:c.prim=true):Rel E S ρ w c c.val:=by
  cases c<;>first | exact .bool _ | exact .int _ _ | exact .str _ | (simp [AV.prim] at h; done)
theorem val_one {c:AV U El} (h:c.prim=true):c.val.oneCell'=true:=by
  cases c<;>first | rfl | (simp [AV.prim] at h; done)
theorem fr_grow {W w':World} (h:@Fr drwT (From W) W w'):∃ q os,w'=grow (W.drewN q) os:=by
  refine ⟨w'.drawn - W.drawn,w'.heap.extract W.heap.size w'.heap.size,?_⟩
  obtain ⟨h1,h2,h3,h4,h5,h6⟩:=h
  have h5:=h5 trivial
  have hh:w'.heap=W.heap++w'.heap.extract W.heap.size w'.heap.size:=by
    apply Array.ext_getElem?
    intro k
    by_cases hk:k < W.heap.size
    · rw [Array.getElem?_append_left hk]
      exact h6 k hk (Nat.not_le_of_lt hk)
    · rw [Array.getElem?_append_right (by omega), Array.getElem?_extract]
      by_cases hk2:k < w'.heap.size
      · rw [if_pos (by omega),show W.heap.size+(k - W.heap.size)=k by omega]
      · rw [if_neg (by omega),Array.getElem?_eq_none (by omega)]
  have hd:W.drawn+(w'.drawn - W.drawn)=w'.drawn:=by omega
  cases w'
  simp only at h1 h2 h3 hh hd
  subst h1 h2 h3
  unfold grow World.drewN
  simp only [World.mk.injEq,and_true,true_and]
  exact ⟨hh,hd.symm⟩
theorem Inv.rewrite {id:Nat} {l:Loc} {u:U} {xs ys:List (El u)} {w':World} (hi:Inv X B S0 w0 S ρ st a w) (hg:hget st.h id=some (.rows u xs)) (hl:ρ id=some l) (hn:l.n≠0) (hs:SameAt (fun k=>k=l.b) w w')
    (hc:BlkRel X.E S ρ w' B l (.rows u ys)):Inv X B S0 w0 S ρ ⟨st.t,hset st.h id (.rows u ys)⟩ a w':=by
  obtain ⟨l0,e0,hb⟩:=hi.heap.get _ _ hg
  rw [hl] at e0; cases e0
  obtain ⟨h1,h2,h3⟩:=hb.lt hn
  have hsame:∀ k,S k→w'.heap[k]? = w.heap[k]? := fun k hk=>hs.block k (hi.heap.lt k hk) (by rintro rfl; exact h3 hk)
  refine ⟨hi.defers,hi.size,hi.below.trans ⟨hs.os,hs.tape,hs.output,hs.size,hs.drawn,fun k hk hbk=>hs.block k hk (by rintro rfl; exact hbk h2)⟩,fun k hk=>hi.hB k (Nat.le_trans hs.size hk),hi.s0,hi.s1,hi.g0,fun i=>(hi.tmps i).mono (fun _ h=>h) hsame (fun _ _ h=>h),⟨fun j b' hj => ?_,fun i j b1 b2 l1 l2 hgi hgj hne hli hlj hn1 hn2 => ?_,fun k hk=>Nat.lt_of_lt_of_le (hi.heap.lt k hk) hs.size⟩⟩
  · rw [hget_set] at hj
    by_cases e:j=id
    · subst e
      rw [if_pos rfl,hg] at hj
      cases hj
      exact ⟨l,hl,hc⟩
    · rw [if_neg e] at hj
      obtain ⟨l',hl',hb'⟩:=hi.heap.get j b' hj
      refine ⟨l',hl',hb'.mono (fun _ h=>h) hsame (fun _ _ h=>h) fun hn'=>⟨hs.block _ (hb'.lt hn').1 ?_,(hb'.lt hn').2.2⟩⟩
      exact hi.heap.inj j id b' _ l' l hj hg e hl' hl hn' hn
  · have k : ∀ j b', hget (hset st.h id (.rows u ys)) j = some b' → ∃ b0, hget st.h j = some b0 := fun j b' h => by
      rw [hget_set] at h
      split at h
      · rename_i e; subst e; exact ⟨_,hg⟩
      · exact ⟨b',h⟩
    obtain ⟨b1',hb1⟩:=k i b1 hgi
    obtain ⟨b2',hb2⟩:=k j b2 hgj
    exact hi.heap.inj i j b1' b2' l1 l2 hb1 hb2 hne hli hlj hn1 hn2
noncomputable def sortSp (u:U) (g:FuncId) (lt:El u→El u→Bool) (good:List (El u)→Bool):SpM U El:=fun d args st k=>match args with
  | [.ful id, .fn f [] []] => match hget st.h id with
    | some (.rows u' xs)=>if e:u'=u then chk (Nat.beq f g&&(good (e ▸ xs)&&nle xs.length 4611686018427387903)) (k (.tup []) ⟨st.t,hset st.h id (.rows u ((e ▸ xs).mergeSort fun x y => !lt y x))⟩) else none
    | _=>none
  | _=>none
theorem cell_at {b o:Nat} {c:Array Value} {e:TypeId} (h:w.heap[b]? = some (.cells c e (0,0))):w.cell? ⟨b,o,none⟩=c[o]? ∧ w.frozen? ⟨b,o,none⟩=false:=by
  constructor
  · simp [World.cell?,h]
  · simp [World.frozen?,h]
theorem sorted_unique_on {α : Type} [Inhabited α] {lt : α → α → Bool} (hS : SWO lt) (d d' : Array α) (hanti : ∀ x y, x ∈ d.toList → y ∈ d.toList → lt x y = false → lt y x = false → x = y) (hP : PermIn 0 d.size d d') (hSo : SortedIn lt 0 d.size d') :
    d'=(d.toList.mergeSort fun x y => !lt y x).toArray:=by
  obtain ⟨hsz,_,hperm⟩:=hP
  have e1:d'.extract 0 d.size=d':=by rw [← hsz]; exact Array.extract_size
  rw [e1,Array.extract_size] at hperm
  have hl:d'.toList=d.toList.mergeSort fun x y => !lt y x:=by
    refine List.Perm.eq_of_pairwise (le:=fun x y=>(!lt y x)=true) ?_ ?_ ?_ (hperm.trans (List.mergeSort_perm _ _).symm)
    · intro a b ha hb h1 h2
      simp only [Bool.not_eq_true'] at h1 h2
      exact hanti a b (hperm.mem_iff.1 ha) ((List.mergeSort_perm _ _).mem_iff.1 hb) h2 h1
    · rw [List.pairwise_iff_getElem]
      intro i j hi hj hij
      have hi':i < d'.size:=by simpa using hi
      have hj':j < d'.size:=by simpa using hj
      have:=hSo i j (Nat.zero_le _) hij (by omega)
      rw [getElem!_pos d' j hj',getElem!_pos d' i hi'] at this
      simpa using this
    · refine List.pairwise_mergeSort ?_ ?_ _
      · intro a b c h1 h2
        simp only [Bool.not_eq_true'] at h1 h2 ⊢
        exact hS.ntrans c b a h2 h1
      · intro a b
        cases h:lt b a with
        | false=>simp
        | true=>simp [hS.asymmA h]
  rw [← hl]
set_option maxHeartbeats 1000000 in
theorem sortOk {ren : Ren} {u : U} {g : FuncId} {cf : El u → El u → Int} [Inhabited (El u)] (hX : CtxOk P X) (L : SlLaysF0.n6 P ren) (hc : ∀ xs w, (callFunc (ren.f 6) xs).run P w = .ok (.enter (ren.f 6) xs) w)
    (hp:∀ x c,c∈X.E.enc u x→c.prim=true) (hag:∀ w,(isAgg (ren.t 24)).run P w = .ok true w) (hsz:∀ w,(Go.sizeOf (ren.t 24)).run P w = .ok (X.E.sz u) w)
    (hcmp:∀ x y,@CallSpec _ _ drwT P X.E g [.agg (X.E.enc u x),.agg (X.E.enc u y)] (.int .i64 (cf x y)) []) (hO:SWO (ltOf cf)) {good:List (El u)→Bool} (hT:∀ xs,good xs=true→∀ x y,x∈xs→y∈xs→ltOf cf x y=false→ltOf cf y x=false→x=y) :
    SpMOk P X (ren.f 6) (sortSp u g (ltOf cf) good):=by
  refine ⟨hc,?_⟩
  intro B S0 w0 S ρ st a w d args vs k r hi hr hv
  unfold sortSp at hv
  split at hv
  · rename_i id f
    split at hv
    · rename_i u' xs hg
      split at hv
      · rename_i e
        subst e
        obtain ⟨hck,hk⟩:=chk_some hv
        simp only [Bool.and_eq_true,nle,decide_eq_true_eq] at hck
        obtain ⟨hfg,hgood,hlen⟩:=hck
        obtain rfl:=Nat.eq_of_beq_eq_true hfg
        obtain ⟨v1,v2,rfl,r1,r2⟩:∃ v1 v2,vs=#[v1,v2]∧Rel X.E S ρ w (.ful id) v1∧Rel X.E S ρ w (.fn f [] []) v2:=by
          obtain ⟨h1,h2⟩:=hr
          match vs,h1,h2 with
          | ⟨[v1,v2]⟩,_,h2=>exact ⟨v1,v2,rfl,h2 0 _ v1 rfl rfl,h2 1 _ v2 rfl rfl⟩
        have hv2:v2 = .func (.func f) #[] #[]:=by
          cases r2 with
          | fn _ _ _ vf vc hlf hlc _ _ =>
            have e1:vf=#[]:=Array.eq_empty_of_size_eq_zero (by simpa using hlf)
            have e2:vc=#[]:=Array.eq_empty_of_size_eq_zero (by simpa using hlc)
            rw [e1,e2]
        subst hv2
        obtain ⟨l,hl1,hbl⟩:=hi.heap.get _ _ hg
        have hbl':=hbl
        obtain ⟨c1,c2,c3,c4⟩:=hbl
        have hnone:xs=[]→∀ p cap,v1 = .slice p 0 cap→Calls P (ren.f 6) #[v1,.func (.func f) #[] #[]] w fun e w'=>∃ v res st' S' ρ',e = .returned v∧k res st'=some r∧Inv X B S0 w0 S' ρ' st' a w'∧Rel X.E S' ρ' w' res v:=by
          rintro hxs p cap rfl
          refine (AnyF.slices_SortFunc_none L p cap _ w).mono ?_
          rintro e w' ⟨rfl,rfl⟩
          subst hxs
          refine ⟨_,_,_,S,ρ,rfl,hk,?_,.tup _ _ rfl (by simp)⟩
          have:hset st.h id (.rows u' (([]:List (El u')).mergeSort fun x y => !ltOf cf y x))=hset st.h id (.rows u' []):=by simp
          refine ⟨hi.defers,hi.size,hi.below,hi.hB,hi.s0,hi.s1,hi.g0,hi.tmps,hi.heap.congr fun j => ?_⟩
          simp only [List.mergeSort_nil,hget_set]
          split
          · rename_i e; subst e; rw [hg]; rfl
          · rfl
        cases hxs:xs with
        | nil =>
          cases r1 with
          | fulN _ l' hl' e1 e2=>exact hnone hxs _ _ rfl
          | ful _ cap l' hl' e1 e2 =>
            rw [hl1] at hl'; cases hl'
            have:l.ln=0:=by rw [c2,hxs]; rfl
            exact hnone hxs (some ⟨l.b,0,none⟩) cap (by rw [this])
        | cons x0 xs0 =>
          have hpos:=hX.u.pos u'
          have hlx:0 < xs.length:=by rw [hxs]; simp
          have hn0:l.n≠0:=by
            have:=Nat.mul_le_mul hlx hpos
            omega
          obtain ⟨c5,c6,cur,hh,c7,c8⟩:=c4 hn0
          cases r1 with
          | fulN _ l' hl' e1 e2=>rw [hl1] at hl'; cases hl'; exact absurd e1 hn0
          | ful _ cap l' hl' e1 e2 =>
            rw [hl1] at hl'; cases hl'
            rw [c2] at e2 ⊢
            let enc:El u'→List Value:=fun x=>(X.E.enc u' x).map AV.val
            have henc:∀ x,(enc x).length=X.E.sz u':=fun x=>by simp [enc,hX.u.len]
            have h1:∀ x,∀ v∈enc x,v.oneCell'=true:=fun x v hv=>by
              simp only [enc,List.mem_map] at hv
              obtain ⟨c,hc,rfl⟩:=hv
              exact val_one (hp x c hc)
            have hblk:l.b < w.heap.size:=(hbl'.lt hn0).1
            have hcells:∀ j,j < xs.length * X.E.sz u'→cur[j]? = some (flatK enc (X.E.sz u') xs.toArray)[j]! := fun j hj=>by
              have hq:j / X.E.sz u' < xs.length:=Nat.div_lt_of_lt_mul (by rw [Nat.mul_comm]; exact hj)
              have hm:j%X.E.sz u' < X.E.sz u':=Nat.mod_lt _ hpos
              have hm':j%X.E.sz u' < (X.E.enc u' xs[j / X.E.sz u']).length:=by rw [hX.u.len]; exact hm
              obtain ⟨v,hv,hrv⟩:=c8 (j / X.E.sz u') _ (j%X.E.sz u') _ (List.getElem?_eq_getElem hq) (List.getElem?_eq_getElem hm')
              rw [show j / X.E.sz u' * X.E.sz u'+j%X.E.sz u'=j by rw [Nat.mul_comm]; exact Nat.div_add_mod j _] at hv
              rw [hv,prim_val (hp _ _ (List.getElem_mem hm')) hrv,get_flatK _ _ _ _ (by simpa using hj)]
              rw [getElem!_pos xs.toArray _ (by simpa using hq)]
              simp only [enc]
              rw [getElem!_pos _ _ (by simpa using hm')]
              simp
            have hH:HoldsK enc (X.E.sz u') w l.b 0 xs.toArray:=fun j hj=>by
              rw [size_flatK] at hj
              obtain ⟨g1,g2⟩:=cell_at (o:=0+j) hh
              refine ⟨?_,g2⟩
              rw [g1,Nat.zero_add,hcells j (by simpa using hj)]
              rfl
            have hput:∀ (m:Nat) (os:Array Obj) (dk:Array (El u')),dk.size=xs.length →
                SameAt (fun k=>k=l.b) w (sortWorldK enc (X.E.sz u') w l.b 0 m dk os)∧∃ cur',(sortWorldK enc (X.E.sz u') w l.b 0 m dk os).heap[l.b]? = some (.cells cur' (X.E.tid u') (0,0))∧cur'.size=cur.size∧∀ j,j < xs.length * X.E.sz u'→cur'[j]? = some (flatK enc (X.E.sz u') dk)[j]! := fun m os dk hdk=>by
              have hheap:(sortWorldK enc (X.E.sz u') w l.b 0 m dk os).heap=w.heap.modify l.b (onCells (putCells _root_.id 0 (flatK enc (X.E.sz u') dk)))++os:=rfl
              refine ⟨⟨rfl,rfl,rfl,?_,?_,fun k hk hkb => ?_⟩,putCells _root_.id 0 (flatK enc (X.E.sz u') dk) cur,?_,?_,fun j hj => ?_⟩
              · rw [hheap]; simp
              · intro _; show w.drawn≤w.drawn+m; omega
              · rw [hheap,Array.getElem?_append_left (by simpa using hk),Array.getElem?_modify,if_neg (Ne.symm hkb)]
              · rw [hheap, Array.getElem?_append_left (by simpa using hblk), Array.getElem?_modify, if_pos rfl, hh]
                rfl
              · simp [putCells]
              · have hjc : j < cur.size := by
                  have:=hcells j hj
                  exact (Array.getElem?_eq_some_iff.1 this).1
                simp only [putCells,Array.getElem?_mapIdx,Array.getElem?_eq_getElem hjc,Option.map_some]
                rw [if_pos (by simp [hdk]; omega)]
                rfl
            have hfr:∀ m os dk,dk.size=xs.length→Fr B w (sortWorldK enc (X.E.sz u') w l.b 0 m dk os):=fun m os dk hdk=>by
              obtain ⟨hs,_⟩:=hput m os dk hdk
              exact ⟨hs.os,hs.tape,hs.output,hs.size,hs.drawn,fun k hk hkb=>hs.block k hk (by rintro rfl; exact hkb c5)⟩
            have hlays:CmpLays P f #[] enc (X.E.sz u') cf l.b 0 xs.toArray.size w:=fun m os dk hdk x y=>by
              have hG:=hi.g0 _ (hi.below.trans (hfr m os dk (by simpa using hdk)))
              have hpair:RelL X.E (fun _=>False) (fun _=>none) (sortWorldK enc (X.E.sz u') w l.b 0 m dk os) [.agg (X.E.enc u' x),.agg (X.E.enc u' y)] #[.agg (enc x).toArray,.agg (enc y).toArray]:=by
                have ag:∀ z,Rel X.E (fun _=>False) (fun _=>none) (sortWorldK enc (X.E.sz u') w l.b 0 m dk os) (.agg (X.E.enc u' z)) (.agg (enc z).toArray):=fun z=>by
                  refine .agg _ _ (by simp [enc]) fun i c v hc hv => ?_
                  simp only [enc,List.getElem?_toArray,List.getElem?_map,hc,Option.map_some,Option.some.injEq] at hv
                  subst hv
                  exact val_rel (hp z c (List.mem_of_getElem? hc))
                refine ⟨rfl,fun i c v hc hv => ?_⟩
                match i,hc,hv with
                | 0,hc,hv=>cases hc; cases hv; exact ag x
                | 1,hc,hv=>cases hc; cases hv; exact ag y
              refine ((hcmp x y).2.2 (fun _=>False) _ _ (fun _ h=>h.elim) hG hpair).mono ?_
              rintro e w' ⟨v,S',ρ',rfl,⟨hfr,_⟩,_,hrv⟩
              cases hrv
              exact ⟨rfl,fr_grow hfr⟩
            refine (AnyQ.slices_SortFunc L (X.E.sz u') hag hsz enc henc h1 cf hO f #[] l.b 0 cap xs.toArray w (hcmp x0 x0).1 hlays hH hblk (by simp; omega)).mono ?_
            rintro e w' ⟨rfl,d',n,os,hPerm,hSorted,rfl⟩
            have hd':=sorted_unique_on hO xs.toArray d' (fun x y hx hy=>hT xs hgood x y (by simpa using hx) (by simpa using hy)) hPerm hSorted
            subst hd'
            obtain ⟨hs,cur',hh',hsz',hcl'⟩:=hput n os (xs.toArray.toList.mergeSort fun x y => !ltOf cf y x).toArray (by simp)
            have hlen':(xs.mergeSort fun x y => !ltOf cf y x).length=xs.length:=List.length_mergeSort _
            refine ⟨_,_,_,S,ρ,rfl,hk,hi.rewrite hg hl1 hn0 hs ⟨c1,by rw [hlen']; exact c2,by rw [hlen']; exact c3,fun _=>⟨c5,c6,cur',hh',by rw [hsz']; exact c7,fun i x j c hx hc => ?_⟩⟩,.tup _ _ rfl (by simp)⟩
            have hil:i < xs.length:=by rw [← hlen']; exact (List.getElem?_eq_some_iff.1 hx).1
            have hjl:j < X.E.sz u':=by rw [← hX.u.len u' x]; exact (List.getElem?_eq_some_iff.1 hc).1
            have hij:i * X.E.sz u'+j < xs.length * X.E.sz u':=by
              have:=Nat.mul_le_mul_right (X.E.sz u') (show i+1≤xs.length by omega)
              rw [Nat.add_mul,Nat.one_mul] at this
              omega
            refine ⟨_,hcl' _ hij,?_⟩
            have hd1:(i * X.E.sz u'+j) / X.E.sz u'=i:=by rw [Nat.mul_comm,Nat.mul_add_div hpos,Nat.div_eq_of_lt hjl,Nat.add_zero]
            have hd2:(i * X.E.sz u'+j)%X.E.sz u'=j:=by rw [Nat.mul_comm,Nat.mul_add_mod,Nat.mod_eq_of_lt hjl]
            have:(flatK enc (X.E.sz u') (xs.toArray.toList.mergeSort fun x y => !ltOf cf y x).toArray)[i * X.E.sz u'+j]! = c.val:=by
              rw [get_flatK _ _ _ _ (by simpa using hij),hd1,hd2]
              have hx':(xs.toArray.toList.mergeSort fun x y => !ltOf cf y x).toArray[i]! = x:=by
                rw [getElem!_pos _ i (by simpa using hil)]
                simp only [List.getElem_toArray]
                exact (List.getElem?_eq_some_iff.1 hx).2
              rw [hx']
              simp only [enc]
              have hjl':j < ((X.E.enc u' x).map AV.val).length:=by simp [hX.u.len]; exact hjl
              rw [getElem!_pos _ j hjl',List.getElem_map,(List.getElem?_eq_some_iff.1 hc).2]
            rw [this]
            exact val_rel (hp x c (List.mem_of_getElem? hc))
      · cases hv
    · cases hv
  · cases hv
end
end Go.Proofs.Ytkeplmpcijigaaa
