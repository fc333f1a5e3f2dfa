/- Sorts of no more than N elements as contracts of the lift: the row holds what a function F of arrays makes of it. -/
import Derived.Test.YtkeplmpcijigaaaLS
namespace Go.Proofs.Ytkeplmpcijigaaa
set_option linter.unusedVariables false
set_option linter.unusedSectionVars false
set_option linter.unusedSimpArgs false
open Go.RowKit Go.Shelf Go.Sort
section
variable {U:Type} {El:U→Type} {P:Program} {X:Ctx U El} {S S0:Nat→Prop} {ρ:Rho} {w w0:World} [DecidableEq U] [Drw]
variable {a:Act} {st:St U El} {B:Bd} {d:Nat} {r:Fin U El}
noncomputable def appF {α:Type} (F:Array α→Array α) (xs:List α):List α:=(F xs.toArray).toList
theorem appF_nil {α:Type} {F:Array α→Array α} (hF:∀ d,(F d).size=d.size):appF F ([]:List α)=[]:=by
  unfold appF
  have:=hF ([]:List α).toArray
  exact List.eq_nil_of_length_eq_zero (by simpa using this)
noncomputable def sortFSp (u:U) (g:FuncId) (F:Array (El u)→Array (El u)) (N:Nat):SpM U El:=fun d args st k=>match args with
  | [.ful id, .fn f [] []] => match hget st.h id with
    | some (.rows u' xs)=>if e:u'=u then chk (Nat.beq f g&&nle xs.length N) (k (.tup []) ⟨st.t,hset st.h id (.rows u (appF F (e ▸ xs)))⟩) else none
    | _=>none
  | _=>none
set_option maxHeartbeats 1000000 in
theorem sortFOk {fid : FuncId} {u : U} {g : FuncId} {cf : El u → El u → Int} {F : Array (El u) → Array (El u)} {N : Nat} [Inhabited (El u)] (hX : CtxOk P X) (hc : ∀ xs w, (callFunc fid xs).run P w = .ok (.enter fid xs) w)
    (hp:∀ x c,c∈X.E.enc u x→c.prim=true)
    (hcmp:∀ x y,@CallSpec _ _ drwT P X.E g [.agg (X.E.enc u x),.agg (X.E.enc u y)] (.int .i64 (cf x y)) []) (hF:∀ d,(F d).size=d.size)
    (hnone:∀ p cap fv W,Calls P fid #[.slice p 0 cap,fv] W fun e w'=>e = .returned (.tuple #[])∧w'=W)
    (hrun:∀ (enc:El u→List Value) (b cap:Nat) (dd:Array (El u)) (W:World),(∀ x,(enc x).length=X.E.sz u)→(∀ x,∀ v∈enc x,v.oneCell'=true)→(∀ args w,(callFunc g args).run P w = .ok (.enter g args) w)→CmpLays P g #[] enc (X.E.sz u) cf b 0 dd.size W→HoldsK enc (X.E.sz u) W b 0 dd→b < W.heap.size→dd.size≤N →
      Calls P fid #[.slice (some ⟨b,0,none⟩) dd.size cap,.func (.func g) #[] #[]] W fun e w'=>e = .returned (.tuple #[])∧∃ n os,w'=sortWorldK enc (X.E.sz u) W b 0 n (F dd) os) :
    SpMOk P X fid (sortFSp u g F N):=by
  refine ⟨hc,?_⟩
  intro B S0 w0 S ρ st a w d args vs k r hi hr hv
  unfold sortFSp at hv
  split at hv
  · rename_i id f
    split at hv
    · rename_i u' xs hg
      split at hv
      · rename_i e
        subst e
        obtain ⟨hck,hk⟩:=chk_some hv
        simp only [Bool.and_eq_true,nle,decide_eq_true_eq] at hck
        obtain ⟨hfg,hlen⟩:=hck
        obtain rfl:=Nat.eq_of_beq_eq_true hfg
        obtain ⟨v1,v2,rfl,r1,r2⟩:∃ v1 v2,vs=#[v1,v2]∧Rel X.E S ρ w (.ful id) v1∧Rel X.E S ρ w (.fn f [] []) v2:=by
          obtain ⟨h1,h2⟩:=hr
          match vs,h1,h2 with
          | ⟨[v1,v2]⟩,_,h2=>exact ⟨v1,v2,rfl,h2 0 _ v1 rfl rfl,h2 1 _ v2 rfl rfl⟩
        have hv2:v2 = .func (.func f) #[] #[]:=by
          cases r2 with
          | fn _ _ _ vf vc hlf hlc _ _ =>
            have e1:vf=#[]:=Array.eq_empty_of_size_eq_zero (by simpa using hlf)
            have e2:vc=#[]:=Array.eq_empty_of_size_eq_zero (by simpa using hlc)
            rw [e1,e2]
        subst hv2
        obtain ⟨l,hl1,hbl⟩:=hi.heap.get _ _ hg
        have hbl':=hbl
        obtain ⟨c1,c2,c3,c4⟩:=hbl
        have hnone':xs=[]→∀ p cap,v1 = .slice p 0 cap→Calls P fid #[v1,.func (.func f) #[] #[]] w fun e w'=>∃ v res st' S' ρ',e = .returned v∧k res st'=some r∧Inv X B S0 w0 S' ρ' st' a w'∧Rel X.E S' ρ' w' res v:=by
          rintro hxs p cap rfl
          refine (hnone p cap _ w).mono ?_
          rintro e w' ⟨rfl,rfl⟩
          subst hxs
          refine ⟨_,_,_,S,ρ,rfl,hk,?_,.tup _ _ rfl (by simp)⟩
          have:hset st.h id (.rows u' (appF F ([]:List (El u'))))=hset st.h id (.rows u' []):=by rw [appF_nil hF]
          refine ⟨hi.defers,hi.size,hi.below,hi.hB,hi.s0,hi.s1,hi.g0,hi.tmps,hi.heap.congr fun j => ?_⟩
          simp only [appF_nil hF,hget_set]
          split
          · rename_i e; subst e; rw [hg]; rfl
          · rfl
        cases hxs:xs with
        | nil =>
          cases r1 with
          | fulN _ l' hl' e1 e2=>exact hnone' hxs _ _ rfl
          | ful _ cap l' hl' e1 e2 =>
            rw [hl1] at hl'; cases hl'
            have:l.ln=0:=by rw [c2,hxs]; rfl
            exact hnone' hxs (some ⟨l.b,0,none⟩) cap (by rw [this])
        | cons x0 xs0 =>
          have hpos:=hX.u.pos u'
          have hlx:0 < xs.length:=by rw [hxs]; simp
          have hn0:l.n≠0:=by
            have:=Nat.mul_le_mul hlx hpos
            omega
          obtain ⟨c5,c6,cur,hh,c7,c8⟩:=c4 hn0
          cases r1 with
          | fulN _ l' hl' e1 e2=>rw [hl1] at hl'; cases hl'; exact absurd e1 hn0
          | ful _ cap l' hl' e1 e2 =>
            rw [hl1] at hl'; cases hl'
            rw [c2] at e2 ⊢
            let enc:El u'→List Value:=fun x=>(X.E.enc u' x).map AV.val
            have henc:∀ x,(enc x).length=X.E.sz u':=fun x=>by simp [enc,hX.u.len]
            have h1:∀ x,∀ v∈enc x,v.oneCell'=true:=fun x v hv=>by
              simp only [enc,List.mem_map] at hv
              obtain ⟨c,hc,rfl⟩:=hv
              exact val_one (hp x c hc)
            have hblk:l.b < w.heap.size:=(hbl'.lt hn0).1
            have hcells:∀ j,j < xs.length * X.E.sz u'→cur[j]? = some (flatK enc (X.E.sz u') xs.toArray)[j]! := fun j hj=>by
              have hq:j / X.E.sz u' < xs.length:=Nat.div_lt_of_lt_mul (by rw [Nat.mul_comm]; exact hj)
              have hm:j%X.E.sz u' < X.E.sz u':=Nat.mod_lt _ hpos
              have hm':j%X.E.sz u' < (X.E.enc u' xs[j / X.E.sz u']).length:=by rw [hX.u.len]; exact hm
              obtain ⟨v,hv,hrv⟩:=c8 (j / X.E.sz u') _ (j%X.E.sz u') _ (List.getElem?_eq_getElem hq) (List.getElem?_eq_getElem hm')
              rw [show j / X.E.sz u' * X.E.sz u'+j%X.E.sz u'=j by rw [Nat.mul_comm]; exact Nat.div_add_mod j _] at hv
              rw [hv,prim_val (hp _ _ (List.getElem_mem hm')) hrv,get_flatK _ _ _ _ (by simpa using hj)]
              rw [getElem!_pos xs.toArray _ (by simpa using hq)]
              simp only [enc]
              rw [getElem!_pos _ _ (by simpa using hm')]
              simp
            have hH:HoldsK enc (X.E.sz u') w l.b 0 xs.toArray:=fun j hj=>by
              rw [size_flatK] at hj
              obtain ⟨g1,g2⟩:=cell_at (o:=0+j) hh
              refine ⟨?_,g2⟩
              rw [g1,Nat.zero_add,hcells j (by simpa using hj)]
              rfl
            have hput:∀ (m:Nat) (os:Array Obj) (dk:Array (El u')),dk.size=xs.length →
                SameAt (fun k=>k=l.b) w (sortWorldK enc (X.E.sz u') w l.b 0 m dk os)∧∃ cur',(sortWorldK enc (X.E.sz u') w l.b 0 m dk os).heap[l.b]? = some (.cells cur' (X.E.tid u') (0,0))∧cur'.size=cur.size∧∀ j,j < xs.length * X.E.sz u'→cur'[j]? = some (flatK enc (X.E.sz u') dk)[j]! := fun m os dk hdk=>by
              have hheap:(sortWorldK enc (X.E.sz u') w l.b 0 m dk os).heap=w.heap.modify l.b (onCells (putCells _root_.id 0 (flatK enc (X.E.sz u') dk)))++os:=rfl
              refine ⟨⟨rfl,rfl,rfl,?_,?_,fun k hk hkb => ?_⟩,putCells _root_.id 0 (flatK enc (X.E.sz u') dk) cur,?_,?_,fun j hj => ?_⟩
              · rw [hheap]; simp
              · intro _; show w.drawn≤w.drawn+m; omega
              · rw [hheap,Array.getElem?_append_left (by simpa using hk),Array.getElem?_modify,if_neg (Ne.symm hkb)]
              · rw [hheap, Array.getElem?_append_left (by simpa using hblk), Array.getElem?_modify, if_pos rfl, hh]
                rfl
              · simp [putCells]
              · have hjc : j < cur.size := by
                  have:=hcells j hj
                  exact (Array.getElem?_eq_some_iff.1 this).1
                simp only [putCells,Array.getElem?_mapIdx,Array.getElem?_eq_getElem hjc,Option.map_some]
                rw [if_pos (by simp [hdk]; omega)]
                rfl
            have hfr:∀ m os dk,dk.size=xs.length→Fr B w (sortWorldK enc (X.E.sz u') w l.b 0 m dk os):=fun m os dk hdk=>by
              obtain ⟨hs,_⟩:=hput m os dk hdk
              exact ⟨hs.os,hs.tape,hs.output,hs.size,hs.drawn,fun k hk hkb=>hs.block k hk (by rintro rfl; exact hkb c5)⟩
            have hlays:CmpLays P f #[] enc (X.E.sz u') cf l.b 0 xs.toArray.size w:=fun m os dk hdk x y=>by
              have hG:=hi.g0 _ (hi.below.trans (hfr m os dk (by simpa using hdk)))
              have hpair:RelL X.E (fun _=>False) (fun _=>none) (sortWorldK enc (X.E.sz u') w l.b 0 m dk os) [.agg (X.E.enc u' x),.agg (X.E.enc u' y)] #[.agg (enc x).toArray,.agg (enc y).toArray]:=by
                have ag:∀ z,Rel X.E (fun _=>False) (fun _=>none) (sortWorldK enc (X.E.sz u') w l.b 0 m dk os) (.agg (X.E.enc u' z)) (.agg (enc z).toArray):=fun z=>by
                  refine .agg _ _ (by simp [enc]) fun i c v hc hv => ?_
                  simp only [enc,List.getElem?_toArray,List.getElem?_map,hc,Option.map_some,Option.some.injEq] at hv
                  subst hv
                  exact val_rel (hp z c (List.mem_of_getElem? hc))
                refine ⟨rfl,fun i c v hc hv => ?_⟩
                match i,hc,hv with
                | 0,hc,hv=>cases hc; cases hv; exact ag x
                | 1,hc,hv=>cases hc; cases hv; exact ag y
              refine ((hcmp x y).2.2 (fun _=>False) _ _ (fun _ h=>h.elim) hG hpair).mono ?_
              rintro e w' ⟨v,S',ρ',rfl,⟨hfr,_⟩,_,hrv⟩
              cases hrv
              exact ⟨rfl,fr_grow hfr⟩
            refine (hrun enc l.b cap xs.toArray w henc h1 (hcmp x0 x0).1 hlays hH hblk (by simpa using hlen)).mono ?_
            rintro e w' ⟨rfl,n,os,rfl⟩
            have hsz:(F xs.toArray).size=xs.length:=by rw [hF]; simp
            generalize hd':F xs.toArray=d' at hsz ⊢
            have hys:appF F xs=d'.toList:=by unfold appF; rw [hd']
            simp only [hys] at hk
            obtain ⟨hs,cur',hh',hsz',hcl'⟩:=hput n os d' hsz
            have hlen':d'.toList.length=xs.length:=by simpa using hsz
            refine ⟨_,_,_,S,ρ,rfl,hk,hi.rewrite hg hl1 hn0 hs ⟨c1,by rw [hlen']; exact c2,by rw [hlen']; exact c3,fun _=>⟨c5,c6,cur',hh',by rw [hsz']; exact c7,fun i x j c hx hc => ?_⟩⟩,.tup _ _ rfl (by simp)⟩
            have hil:i < xs.length:=by rw [← hlen']; exact (List.getElem?_eq_some_iff.1 hx).1
            have hjl:j < X.E.sz u':=by rw [← hX.u.len u' x]; exact (List.getElem?_eq_some_iff.1 hc).1
            have hij:i * X.E.sz u'+j < xs.length * X.E.sz u':=by
              have:=Nat.mul_le_mul_right (X.E.sz u') (show i+1≤xs.length by omega)
              rw [Nat.add_mul,Nat.one_mul] at this
              omega
            refine ⟨_,hcl' _ hij,?_⟩
            have hd1:(i * X.E.sz u'+j) / X.E.sz u'=i:=by rw [Nat.mul_comm,Nat.mul_add_div hpos,Nat.div_eq_of_lt hjl,Nat.add_zero]
            have hd2:(i * X.E.sz u'+j)%X.E.sz u'=j:=by rw [Nat.mul_comm,Nat.mul_add_mod,Nat.mod_eq_of_lt hjl]
            have:(flatK enc (X.E.sz u') d')[i * X.E.sz u'+j]! = c.val:=by
              rw [get_flatK _ _ _ _ (by rw [hsz]; exact hij),hd1,hd2]
              have hx':d'[i]! = x:=by
                rw [getElem!_pos _ i (by rw [hsz]; exact hil)]
                have:=(List.getElem?_eq_some_iff.1 hx).2
                simpa using this
              rw [hx']
              simp only [enc]
              have hjl':j < ((X.E.enc u' x).map AV.val).length:=by simp [hX.u.len]; exact hjl
              rw [getElem!_pos _ j hjl',List.getElem_map,(List.getElem?_eq_some_iff.1 hc).2]
            rw [this]
            exact val_rel (hp x c (List.mem_of_getElem? hc))
      · cases hv
    · cases hv
  · cases hv
end
end Go.Proofs.Ytkeplmpcijigaaa
