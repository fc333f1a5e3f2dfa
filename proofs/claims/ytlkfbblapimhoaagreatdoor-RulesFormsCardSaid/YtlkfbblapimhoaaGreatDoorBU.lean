import Derived.Test.YtlkfbblapimhoaaGreatDoorLP
import Derived.Test.YtlkfbblapimhoaaGreatDoorProg
import Derived.WalkKit
import Derived.ProofKit
import Derived.Handy
import Derived.Lib.Builder
import Derived.Lib.Strings
import Derived.Lib.Walk
import Derived.Shelf.RegionOpenPlain
import Derived.Laws.Externs
namespace Go.Proofs.YtlkfbblapimhoaaGreatDoor
set_option linter.all false
variable [Drw]
open Go.ChangeShapes Go.WideShapes Go.ChangeAt Go.RowKit
theorem sizeBuilder:(Tryz.prog.info? 84).map (·.size)=some 2:=by kernel_rfl
theorem liesBuilder:liesAt Tryz.prog Tryz.prog.depth 84 (2 / Tryz.prog.cellsOf 84) 0 84 1=true:=by kernel_rfl
theorem cellsByte:Tryz.prog.cellsOf 5=1:=by kernel_rfl
set_option maxHeartbeats 1000000 in
set_option maxRecDepth 100000 in
theorem copyCheck_used (b:Nat) (w:World) (h0:w.cell? ⟨b,0,none⟩=some (.pointer (some ⟨b,0,none⟩))) :
  Calls Tryz.prog 77 #[.pointer (some ⟨b,0,none⟩)] w fun e w'=>e=.returned (.tuple #[])∧w'=w:=by
 obtain ⟨j,hj,_⟩:=Option.map_eq_some_iff.1 sizeBuilder
 go_enter Tryz.func77,Tryz.ntmps77
 go_wp2
 rw [Lib.run_neq_ptr_same w _ Tryz.underlying81 hj]
 go_wp2
 go_end0
 exact ⟨rfl,rfl⟩
set_option maxHeartbeats 1000000 in
set_option maxRecDepth 100000 in
theorem copyCheck_fresh (b:Nat) (w:World) (h0:w.cell? ⟨b,0,none⟩=some (.pointer none)) (hsh:w.shape? b=some (84,2)) (hfz:w.frozen? ⟨b,0,none⟩=false) :
  Calls Tryz.prog 77 #[.pointer (some ⟨b,0,none⟩)] w fun e w'=>e=.returned (.tuple #[])∧w'=w.setCell ⟨b,0,none⟩ (.pointer (some ⟨b,0,none⟩)):=by
 obtain ⟨j,hj,hjs⟩:=Option.map_eq_some_iff.1 sizeBuilder
 go_enter Tryz.func77,Tryz.ntmps77
 go_wp2
 rw [Lib.run_to_unsafe w ⟨b,0,none⟩ Tryz.underlying81 Tryz.underlying180 hj (by rw [hjs]; decide) hsh (Nat.zero_lt_succ 1)]
 simp only [Result.andThen]
 rw [Oper.upon_value]
 go_wp2
 rw [run_callFunc_extern Tryz.func113 (by kernel_rfl) (by kernel_rfl) (by kernel_rfl) (e:=Extern.AbiNoEscape.same) (by kernel_rfl)]
 rw [Lib.run_noEscape]
 simp only [Result.andThen]
 rw [Oper.upon_value]
 go_wp2
 rw [Lib.run_from_unsafe w ⟨b,0,none⟩ Tryz.underlying180 Tryz.underlying81 hj hsh liesBuilder]
 simp only [Result.andThen]
 rw [Oper.upon_value]
 go_wp2
 go_end0
 exact ⟨rfl,rfl⟩
theorem heap_setCell {w:World} {b o:Nat} {u:Value} {cs:Array Value} {T:TypeId} (h:w.heap[b]? = some (.cells cs T (0,0))):(w.setCell ⟨b,o,none⟩ u).heap[b]? = some (.cells (cs.setIfInBounds o u) T (0,0)):=by
 simp [World.setCell,Array.getElem?_modify,h]
theorem copyCheck_any (b:Nat) (c0 c1:Value) (w:World) (hb:w.heap[b]? = some (.cells #[c0,c1] 84 (0,0))) (h0:c0=.pointer none∨c0=.pointer (some ⟨b,0,none⟩)) :
  Calls Tryz.prog 77 #[.pointer (some ⟨b,0,none⟩)] w fun e w'=>e=.returned (.tuple #[])∧(w'.drawn=w.drawn∧w'.os=w.os∧w'.tape=w.tape∧w'.output=w.output∧w'.heap.size=w.heap.size∧w'.heap[b]? = some (.cells #[.pointer (some ⟨b,0,none⟩),c1] 84 (0,0))∧∀ k,k≠b→w'.heap[k]? = w.heap[k]?):=by
 rcases h0 with rfl | rfl
 ·refine (copyCheck_fresh b w (by rw [Lib.cell_of_heap hb]; rfl) (by simp [World.shape?,hb]) (Lib.frozen_of_heap hb 0)).mono ?_
  rintro e w' ⟨rfl,rfl⟩
  exact ⟨rfl,rfl,rfl,rfl,rfl,by simp [World.setCell],heap_setCell hb,fun k hk=>Below.heap_setCell _ _ _ _ hk⟩
 ·refine (copyCheck_used b w (by rw [Lib.cell_of_heap hb]; rfl)).mono ?_
  rintro e w' ⟨rfl,rfl⟩
  exact ⟨rfl,rfl,rfl,rfl,rfl,rfl,hb,fun _ _=>rfl⟩
set_option maxHeartbeats 1000000 in
set_option maxRecDepth 100000 in
theorem write_any (R:World→Value→World→Prop) (b:Nat) (c0 c1:Value) (s:List UInt8) (w:World) (hb:w.heap[b]? = some (.cells #[c0,c1] 84 (0,0))) (h0:c0=.pointer none∨c0=.pointer (some ⟨b,0,none⟩))
  (hap:∀ w1:World,w1.os=w.os→w1.tape=w.tape→w1.output=w.output→w1.heap.size=w.heap.size→(∀ k,k≠b→w1.heap[k]? = w.heap[k]?)→∃ v' w2,(Builtin.append_ #[82,9] 82 #[c1,.string ⟨s.toArray⟩]).run Tryz.prog w1=.ok v' w2∧w2.heap[b]? = w1.heap[b]? ∧ (∃ ao n c,v'=.slice ao n c)∧R w1 v' w2) :
  Calls Tryz.prog 38 #[.pointer (some ⟨b,0,none⟩),.string ⟨s.toArray⟩] w fun e w'=>e=.returned (.tuple #[.int .i64 (Int.ofNat s.length),.nilIface]) ∧
   ∃ w1 v' w2,w1.drawn=w.drawn∧w1.os=w.os∧w1.tape=w.tape∧w1.output=w.output∧w1.heap.size=w.heap.size∧(∀ k,k≠b→w1.heap[k]? = w.heap[k]?)∧R w1 v' w2∧w2.heap[b]? = some (.cells #[.pointer (some ⟨b,0,none⟩),c1] 84 (0,0))∧w'=w2.setCell ⟨b,1,none⟩ v':=by
 go_enter Tryz.func38,Tryz.ntmps38
 go_wp2_with fail
 refine (copyCheck_any b c0 c1 _ hb h0).mono ?_
 rintro e w1 ⟨rfl,g0,g1,g2,g3,g4,hb1,g5⟩
 obtain ⟨v',w2,hrun,hk,⟨ao,n,c,rfl⟩,hR⟩:=hap w1 g1 g2 g3 g4 g5
 have c0':w1.cell? ⟨b,0,none⟩=some (.pointer (some ⟨b,0,none⟩)):=by rw [Lib.cell_of_heap hb1]; rfl
 have c1':w1.cell? ⟨b,1,none⟩=some c1:=by rw [Lib.cell_of_heap hb1]; rfl
 have hb2:w2.heap[b]? = some (.cells #[.pointer (some ⟨b,0,none⟩),c1] 84 (0,0)):=hk.trans hb1
 have d0:w2.cell? ⟨b,0,none⟩=some (.pointer (some ⟨b,0,none⟩)):=by rw [Lib.cell_of_heap hb2]; rfl
 have d1:w2.cell? ⟨b,1,none⟩=some c1:=by rw [Lib.cell_of_heap hb2]; rfl
 have f1:w2.frozen? ⟨b,1,none⟩=false:=Lib.frozen_of_heap hb2 1
 go_wp2_with (at_builtin; refine wpList_append_run rfl _ _ 82 9 rfl (w':=w2) rfl rfl hrun ?_)
 go_ret2
 exact ⟨rfl,w1,_,w2,g0,g1,g2,g3,g4,g5,hR,hb2,rfl⟩
set_option maxHeartbeats 2000000 in
set_option maxRecDepth 100000 in
theorem String_any (b n cap:Nat) (ao:Option Addr) (c0:Value) (l:List UInt8) (w:World) (hb:w.heap[b]? = some (.cells #[c0,.slice ao l.length cap] 84 (0,0))) (p:Option Addr) (g:Option Nat)
  (hSD:(Builtin.unsafeSliceData_ #[82] 152 #[.slice ao l.length cap]).run Tryz.prog w.drew=.ok (.pointer p) w.drew)
  (w2:World) (hw:SameBut g w w2) (hUS:(Builtin.unsafeString_ #[152,3] 9 #[.pointer p,.int .i64 l.length]).run Tryz.prog w.drew=.ok (.string ⟨l.toArray⟩) w2) :
  Calls Tryz.prog 41 #[.pointer (some ⟨b,0,none⟩)] w fun e w'=>e=.returned (.string ⟨l.toArray⟩)∧SameBut g w w':=by
 have mixed:Tryz.prog.follows .mixedOrders=true:=by kernel_rfl
 have c1':w.drew.cell? ⟨b,1,none⟩=some (.slice ao l.length cap):=by
  have:w.drew.heap[b]? = some (.cells #[c0,.slice ao l.length cap] 84 (0,0)):=hb
  rw [Lib.cell_of_heap this]; rfl
 go_enter Tryz.func41,Tryz.ntmps41
 go_wp2
 go_region_o
 all_goals (go_wp2; go_ret; exact ⟨rfl,hw⟩)
theorem String_row (b g cap:Nat) (c0:Value) (l:List UInt8) (w:World) (cur:Array Value) (hb:w.heap[b]? = some (.cells #[c0,.slice (some ⟨g,0,none⟩) l.length cap] 84 (0,0))) (hg:w.heap[g]? = some (.cells cur 5 (0,0)))
  (hc:cap≠0) (hle:l.length≤cur.size) (hm:l.length≤9223372036854775807) (hcells:∀ (j:Nat) (x:UInt8),l[j]? = some x→cur[j]? = some (.int .u8 x.toNat)) :
  Calls Tryz.prog 41 #[.pointer (some ⟨b,0,none⟩)] w fun e w'=>e=.returned (.string ⟨l.toArray⟩)∧SameBut (some g) w w':=by
 by_cases h0:l=[]
 ·subst h0
  exact String_any b 0 cap _ c0 [] w hb (some ⟨g,0,none⟩) (some g) (Lib.run_unsafeSliceData_row _ _ _ _ _ _ hc) w.drew (SameBut.drew w _) (Lib.run_unsafeString_none _ _ _ _ _)
 ·have hg':w.drew.heap[g]? = some (.cells cur 5 (0,0)):=hg
  refine String_any b 0 cap _ c0 l w hb (some ⟨g,0,none⟩) (some g) (Lib.run_unsafeSliceData_row _ _ _ _ _ _ hc) _ (SameBut.freeze g l.length) (Lib.run_unsafeString_row w.drew _ _ _ 5 Tryz.underlying152 cellsByte g cur.size (by simp [World.shape?,hg']) l h0 hle hm ?_)
  intro j x hx
  rw [addr_add,Nat.zero_add,Lib.cell_of_heap hg']
  exact hcells j x hx
theorem String_nil (b:Nat) (c0:Value) (w:World) (hb:w.heap[b]? = some (.cells #[c0,.slice none 0 0] 84 (0,0))) :
  Calls Tryz.prog 41 #[.pointer (some ⟨b,0,none⟩)] w fun e w'=>e=.returned (.string ⟨([]:List UInt8).toArray⟩)∧SameBut none w w' :=
 String_any b 0 0 none c0 [] w hb none none rfl w.drew (SameBut.drew w _) (Lib.run_unsafeString_none _ _ _ _ _)
section
variable {U:Type} {El:U→Type} [DecidableEq U] {X:Ctx U El} {u8:U} {mk:List UInt8→List (El u8)} {un:List (El u8)→List UInt8}
def wsSp (u8 : U) (mk : List UInt8 → List (El u8)) : SpM U El := fun d args st k => match args with
  | [.ptr id 0, .str s] => match hget st.h id with
    | some (.bld T j) => match hget st.h j with
      | some (.rows u xs)=>if e:u8=u then chk (Nat.beq T 84 && !(Nat.beq id j)&&nle (xs.length+s.length) 140737488355328)
          (k (.tup [.int .i64 (Int.ofNat s.length),.nili]) ⟨(st.forget j).t,(id,.bld T j) :: (j,.rows u8 ((e.symm ▸ xs:List (El u8))++mk s)) :: hdel (st.forget j).h id⟩) else none
      | _=>none
    | _=>none
  | _=>none
def strSp (u8 : U) (un : List (El u8) → List UInt8) : SpM U El := fun d args st k => match args with
  | [.ptr id 0] => match hget st.h id with
    | some (.bld T j) => match hget st.h j with
      | some (.rows u xs)=>if e:u8=u then chk (Nat.beq T 84 && !(Nat.beq id j)&&nle xs.length 9223372036854775807)
          (k (.str (un (e.symm ▸ xs:List (El u8)))) (st.forget j)) else none
      | _=>none
    | _=>none
  | _=>none
theorem two_vals {E:Univ U El} {S:Nat→Prop} {ρ:Rho} {w:World} {c d:AV U El} {vs:Array Value} (h:RelL E S ρ w [c,d] vs):∃ v1 v2,vs=#[v1,v2]∧Rel E S ρ w c v1∧Rel E S ρ w d v2:=by
 obtain ⟨h1,h2⟩:=h
 match vs,h1,h2 with
 | ⟨[v1,v2]⟩,_,h2=>exact ⟨v1,v2,rfl,h2 0 c v1 rfl rfl,h2 1 d v2 rfl rfl⟩
theorem one_val {E:Univ U El} {S:Nat→Prop} {ρ:Rho} {w:World} {c:AV U El} {vs:Array Value} (h:RelL E S ρ w [c] vs):∃ v1,vs=#[v1]∧Rel E S ρ w c v1:=by
 obtain ⟨h1,h2⟩:=h
 match vs,h1,h2 with
 | ⟨[v1]⟩,_,h2=>exact ⟨v1,rfl,h2 0 c v1 rfl rfl⟩
theorem wsOk (hX : CtxOk Tryz.prog X) (hb8 : ByteU X.E u8 mk un) (ht : X.E.tid u8 = 5) : SpMOk Tryz.prog X 38 (wsSp u8 mk) := by
  refine ⟨Tryz.call38,?_⟩
  intro B S0 w0 S ρ st a w d args vs k r hi hr hv
  unfold wsSp at hv
  split at hv
  · rename_i id s
    split at hv
    · rename_i T j hg
      split at hv
      · rename_i u xs hgj
        split at hv
        · rename_i e
          subst e
          obtain ⟨hck,hk⟩:=chk_some hv
          simp only [Bool.and_eq_true,Bool.not_eq_true',nle,decide_eq_true_eq] at hck
          obtain ⟨⟨hT,hne⟩,hlen⟩:=hck
          obtain rfl:=Nat.eq_of_beq_eq_true hT
          have hne:id≠j:=by rintro rfl; rw [Nat.beq_refl] at hne; cases hne
          obtain ⟨v1,v2,rfl,r1,r2⟩:=two_vals hr
          obtain ⟨lb,hlb,hbb⟩:=hi.heap.get _ _ hg
          obtain ⟨n2,hBb,hnS,c0,c1,hh,hc0,hnz,hc1⟩:=_root_.id hbb
          obtain ⟨lj,hlj,hbj⟩:=hi.heap.get _ _ hgj
          have hbn:lb.n≠0:=by omega
          have hblt:=(hbb.lt hbn).1
          have sepj:lj.n≠0→lb.b≠lj.b:=fun h=>hi.heap.inj id j _ _ lb lj hg hgj hne hlb hlj hbn h
          cases r2
          cases r1 with
          | ptr _ _ l' hl' =>
            rw [hlb] at hl'; cases hl'
            refine (write_any (fun w1 v' w2=>∃ l',AppRes X S ρ B w1 u8 (xs++mk s) (if lj.n=0 then none else some lj.b) v' w2 l'∧(∀ ao n,v' ≠ .slice (some ao) n 0)) lb.b c0 c1 s w hh hc0 ?_).mono ?_
            · intro w1 g1 g2 g3 g4 g5
              have hbj1:BlkRel X.E S ρ w1 B lj (.rows u8 xs):=hbj.mono (fun _ h=>h) (fun b hb=>g5 b (by rintro rfl; exact hnS hb)) (fun _ _ h=>h) (fun hn=>⟨g5 _ (sepj hn).symm,(hbj.lt hn).2.2⟩)
              have hln:=hbj.2.1
              obtain ⟨v',w2,l',hrun,hres,hnz'⟩:=appendS_run (P:=Tryz.prog) (ty:=82) (sty:=9) (ot:=82) (s:=s) (sv:=c1) (xs:=xs) (old:=if lj.n=0 then none else some lj.b) (S:=S) (ρ:=ρ) (w:=w1) (B:=B) hX.u hb8 (by rw [g4]; exact hi.hB) (fun b hb=>by rw [g4]; exact hi.heap.lt b hb)
                (by rw [ht]; exact Tryz.underlying82) Tryz.underlying9 (by
                  cases hc1 with
                  | ful _ cap l2 hl2 e1 e2 =>
                    rw [hlj] at hl2; cases hl2
                    refine .inr ⟨lj,cap,by rw [hln],rfl,by rw [← hbj.1]; exact e1,by rw [← hln]; exact e2,?_,hbj1⟩
                    rcases Nat.eq_zero_or_pos cap with h | h
                    · subst h; exact absurd rfl (hnz _ _)
                    · exact h
                  | fulN _ l2 hl2 e1 e2 =>
                    rw [hlj] at hl2; cases hl2
                    exact .inl ⟨rfl,List.eq_nil_of_length_eq_zero (by rw [← hln]; exact e2),by rw [if_pos e1]⟩) hlen
              refine ⟨v',w2,hrun,hres.block _ (by rw [g4]; exact hblt) (fun e=>?_),?_,l',hres,hnz'⟩
              · split at e
                · cases e
                · rename_i hn; exact sepj hn (Option.some.inj e)
              · rcases hres.val with ⟨cap,rfl,_⟩ | ⟨rfl,_⟩<;>exact ⟨_,_,_,rfl⟩
            · rintro e w' ⟨rfl, w1, v', w2, g0, g1, g2, g3, g4, g5, ⟨l', hres, hnz'⟩, hb2, rfl⟩
              have hl'b:l'.n≠0→l'.b≠lb.b:=fun h=>by
                rcases hres.at_ h with h1 | h1
                · split at h1
                  · cases h1
                  · rename_i hn; rw [Option.some.inj h1]; exact (sepj hn).symm
                · rw [g4] at h1; omega
              refine ⟨_,_,_,S,(ρ.del j).set j l',rfl,hk,hi.bldWrite hX (l':=l') (v':=v') hne hg hgj hlb hlj (by show w2.os=_; rw [hres.os,g1]) (by show w2.tape=_; rw [hres.tape,g2]) (by show w2.output=_; rw [hres.output,g3]) ?_ (fun d_=>by show w.drawn≤w2.drawn; rw [← g0]; exact hres.drawn d_) ?_ ?_ ?_ ?_ ?_,?_⟩
              · have:=hres.size; rw [g4] at this; simpa [World.setCell] using this
              · intro k' hk1 hk2 hk3
                rw [Below.heap_setCell _ _ _ _ hk2,hres.block k' (by rw [g4]; exact hk1) (fun e=>?_),g5 k' hk2]
                split at e
                · cases e
                · rename_i hn; exact hk3 hn (Option.some.inj e)
              · exact heap_setCell hb2
              · intro hn
                rcases hres.at_ hn with h1 | h1
                · split at h1
                  · cases h1
                  · rename_i hn'; exact .inl ⟨hn',Option.some.inj h1⟩
                · rw [g4] at h1; exact .inr h1
              · intro ρ'
                have hSame:∀ b,S b→(w2.setCell ⟨lb.b,1,none⟩ v').heap[b]? = w2.heap[b]?:=fun b hb=>Below.heap_setCell _ _ _ _ (by rintro rfl; exact hnS hb)
                exact (hres.blk ρ').mono (fun _ h=>h) hSame (fun _ _ h=>h) (fun hn=>⟨Below.heap_setCell _ _ _ _ (hl'b hn),((hres.blk ρ').lt hn).2.2⟩)
              · rcases hres.val with ⟨cap, rfl, e1, e2⟩ | ⟨rfl, e1, e2⟩
                · refine .inl ⟨cap, rfl, e1, e2, ?_⟩
                  rcases Nat.eq_zero_or_pos cap with h | h
                  · subst h; exact absurd rfl (hnz' _ _)
                  · exact h
                · exact .inr ⟨rfl,e1,e2⟩
              · refine .tup _ _ rfl fun i c v hc hv => ?_
                match i,hc,hv with
                | 0,hc,hv=>cases hc; cases hv; exact .int _ _
                | 1,hc,hv=>cases hc; cases hv; exact .nili
        · cases hv
      · cases hv
    · cases hv
  · cases hv
theorem strOk (hX : CtxOk Tryz.prog X) (hb8 : ByteU X.E u8 mk un) (ht : X.E.tid u8 = 5) : SpMOk Tryz.prog X 41 (strSp u8 un) := by
  refine ⟨Tryz.call41,?_⟩
  intro B S0 w0 S ρ st a w d args vs k r hi hr hv
  unfold strSp at hv
  split at hv
  · rename_i id
    split at hv
    · rename_i T j hg
      split at hv
      · rename_i u xs hgj
        split at hv
        · rename_i e
          subst e
          obtain ⟨hck,hk⟩:=chk_some hv
          simp only [Bool.and_eq_true,Bool.not_eq_true',nle,decide_eq_true_eq] at hck
          obtain ⟨⟨hT,hne⟩,hlen⟩:=hck
          obtain rfl:=Nat.eq_of_beq_eq_true hT
          have hne:id≠j:=by rintro rfl; rw [Nat.beq_refl] at hne; cases hne
          obtain ⟨v1,rfl,r1⟩:=one_val hr
          obtain ⟨lb,hlb,hbb⟩:=hi.heap.get _ _ hg
          obtain ⟨n2,hBb,hnS,c0,c1,hh,hc0,hnz,hc1⟩:=_root_.id hbb
          obtain ⟨lj,hlj,hbj⟩:=hi.heap.get _ _ hgj
          cases r1 with
          | ptr _ _ l' hl' =>
            rw [hlb] at hl'; cases hl'
            cases hc1 with
            | ful _ cap l2 hl2 e1 e2 =>
              rw [hlj] at hl2; cases hl2
              have hc0':cap≠0:=by rintro rfl; exact hnz _ _ rfl
              obtain ⟨h1,h2,h3,h4⟩:=_root_.id hbj
              rw [h1,hb8.sz,Nat.mul_one] at e1
              obtain ⟨h5,h6,cur,hcur,h7,h8⟩:=h4 (by omega)
              rw [hb8.sz,Nat.mul_one] at h3
              have hlu:=hb8.lenU xs
              rw [show lj.ln=(un xs).length by rw [hlu,h2]] at hh
              refine (String_row lb.b lj.b cap c0 (un xs) w cur hh (by rw [hcur,ht]) hc0' (by rw [hlu,h7]; exact h3) (by rw [hlu]; exact hlen) (fun i x hx=>?_)).mono ?_
              · have hil : i < xs.length := by rw [← hlu]; exact (List.getElem?_eq_some_iff.1 hx).1
                obtain ⟨b,hb1,hb2⟩:=hb8.encU xs i _ (List.getElem?_eq_getElem hil)
                rw [hx] at hb1; cases hb1
                obtain ⟨v,hv,hrv⟩:=h8 i _ 0 _ (List.getElem?_eq_getElem hil) (by rw [hb2]; rfl)
                rw [hb8.sz,Nat.mul_one,Nat.add_zero] at hv
                cases hrv
                exact hv
              · rintro e w' ⟨rfl, hs⟩
                exact ⟨_,_,_,S,_,rfl,hk,hi.quit hX hgj hlj (hs.mono (fun k' h=>by cases h; exact ⟨by omega,rfl⟩)),.str _⟩
            | fulN _ l2 hl2 e1 e2 =>
              rw [hlj] at hl2; cases hl2
              have hx0:xs=[]:=List.eq_nil_of_length_eq_zero (by have:=hbj.2.1; omega)
              subst hx0
              have hu0:un []=[]:=List.eq_nil_of_length_eq_zero (hb8.lenU [])
              refine (String_nil lb.b c0 w hh).mono ?_
              rintro e w' ⟨rfl,hs⟩
              refine ⟨_,_,_,S,_,rfl,hk,hi.quit hX hgj hlj (hs.mono (fun k' h=>by cases h)),?_⟩
              show Rel X.E S _ _ (.str (un [])) _
              rw [hu0]
              exact .str _
        · cases hv
      · cases hv
    · cases hv
  · cases hv
end
end Go.Proofs.YtlkfbblapimhoaaGreatDoor
