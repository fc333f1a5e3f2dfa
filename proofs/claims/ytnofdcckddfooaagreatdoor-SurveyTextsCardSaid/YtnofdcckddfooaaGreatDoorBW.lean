/- strings.Builder.WriteByte as a contract of the lift. -/
import Derived.Test.YtnofdcckddfooaaGreatDoorBU
import Derived.Lib.AppendZeros
namespace Go.Proofs.YtnofdcckddfooaaGreatDoor
set_option linter.unusedVariables false
set_option linter.unusedSectionVars false
set_option linter.unusedSimpArgs false
open Go.RowKit
def byteOf (n:Int):UInt8:=UInt8.ofNat n.toNat
set_option maxHeartbeats 1000000 in
set_option maxRecDepth 100000 in
theorem writeByte_any (R:World→Value→World→Prop) (b:Nat) (c0 c1:Value) (x:Int) (w:World) (hb:w.heap[b]? = some (.cells #[c0,c1] 77 (0,0))) (h0:c0 = .pointer none∨c0 = .pointer (some ⟨b,0,none⟩)) (hbl:b < w.heap.size)
    (hap:∀ w1:World,w1.os=w.os→w1.tape=w.tape→w1.output=w.output→w1.heap.size=w.heap.size→(∀ k,k≠b→w1.heap[k]? = w.heap[k]?)→∃ v' w2,(Builtin.append_ #[63,63] 63 #[c1,.slice (some ⟨w.heap.size,0,none⟩) 1 1]).run Tryz.prog (w1.alloc (.cells #[.int .u8 x] 5)) = .ok v' w2∧w2.heap[b]? = w1.heap[b]? ∧ (∃ ao n c,v' = .slice ao n c)∧R w1 v' w2) :
    Calls Tryz.prog 63 #[.pointer (some ⟨b,0,none⟩),.int .u8 x] w fun e w'=>e = .returned .nilIface ∧
      ∃ w1 v' w2,w1.drawn=w.drawn∧w1.os=w.os∧w1.tape=w.tape∧w1.output=w.output∧w1.heap.size=w.heap.size∧(∀ k,k≠b→w1.heap[k]? = w.heap[k]?)∧R w1 v' w2∧w2.heap[b]? = some (.cells #[.pointer (some ⟨b,0,none⟩),c1] 77 (0,0))∧w'=w2.setCell ⟨b,1,none⟩ v':=by
  go_enter Tryz.func63,Tryz.ntmps63
  go_wp2_with fail
  refine (copyCheck_any b c0 c1 _ hb h0).mono ?_
  rintro e w1 ⟨rfl,g0,g1,g2,g3,g4,hb1,g5⟩
  obtain ⟨v',w2,hrun,hk,⟨ao,n,c,rfl⟩,hR⟩:=hap w1 g1 g2 g3 g4 g5
  have c0':w1.cell? ⟨b,0,none⟩=some (.pointer (some ⟨b,0,none⟩)):=by rw [Lib.cell_of_heap hb1]; rfl
  have c1':w1.cell? ⟨b,1,none⟩=some c1:=by rw [Lib.cell_of_heap hb1]; rfl
  have hb2:w2.heap[b]? = some (.cells #[.pointer (some ⟨b,0,none⟩),c1] 77 (0,0)):=hk.trans hb1
  have d0:w2.cell? ⟨b,0,none⟩=some (.pointer (some ⟨b,0,none⟩)):=by rw [Lib.cell_of_heap hb2]; rfl
  have d1:w2.cell? ⟨b,1,none⟩=some c1:=by rw [Lib.cell_of_heap hb2]; rfl
  have f1:w2.frozen? ⟨b,1,none⟩=false:=Lib.frozen_of_heap hb2 1
  go_wp2_with (at_builtin; refine Go.Lib.wpList_append_run _ rfl _ _ 63 63 rfl _ _ rfl rfl _ w2 hrun ?_)
  go_ret
  exact ⟨rfl,w1,_,w2,g0,g1,g2,g3,g4,g5,hR,hb2,rfl⟩
section
variable {U:Type} {El:U→Type} [DecidableEq U] {X:Ctx U El} {u8:U} {mk:List UInt8→List (El u8)} {un:List (El u8)→List UInt8}
def wbSp (u8 : U) (mk : List UInt8 → List (El u8)) : SpM U El := fun d args st k => match args with
  | [.ptr id 0, .int .u8 x] => match hget st.h id with
    | some (.bld T j) => match hget st.h j with
      | some (.rows u xs)=>if e:u8=u then chk ((ile 0 x&&ile x 255)&&(Nat.beq T 77 && !(Nat.beq id j)&&nle (xs.length+([byteOf x]:List UInt8).length) 140737488355328))
          (k .nili ⟨(st.forget j).t,(id,.bld T j) :: (j,.rows u8 ((e.symm ▸ xs:List (El u8))++mk [byteOf x])) :: hdel (st.forget j).h id⟩) else none
      | _=>none
    | _=>none
  | _=>none
theorem wbOk (hX : CtxOk Tryz.prog X) (hb8 : ByteU X.E u8 mk un) (ht : X.E.tid u8 = 5) : SpMOk Tryz.prog X 63 (wbSp u8 mk) := by
  refine ⟨Tryz.call63,?_⟩
  intro B S0 w0 S ρ st a w d args vs k r hi hr hv
  unfold wbSp at hv
  split at hv
  · rename_i id x
    split at hv
    · rename_i T j hg
      split at hv
      · rename_i u xs hgj
        split at hv
        · rename_i e
          subst e
          obtain ⟨hck,hk⟩:=chk_some hv
          simp only [Bool.and_eq_true,Bool.not_eq_true',nle,decide_eq_true_eq] at hck
          obtain ⟨⟨hx0,hx9⟩,⟨hT,hne⟩,hlen⟩:=hck
          have hx0:=of_decide_eq_true hx0
          have hx9:=of_decide_eq_true hx9
          have hbx:((byteOf x).toNat:Int)=x:=by
            unfold byteOf
            rw [UInt8.toNat_ofNat']
            omega
          obtain rfl:=Nat.eq_of_beq_eq_true hT
          have hne:id≠j:=by rintro rfl; rw [Nat.beq_refl] at hne; cases hne
          obtain ⟨v1,v2,rfl,r1,r2⟩:=two_vals hr
          obtain ⟨lb,hlb,hbb⟩:=hi.heap.get _ _ hg
          obtain ⟨n2,hBb,hnS,c0,c1,hh,hc0,hnz,hc1⟩:=_root_.id hbb
          obtain ⟨lj,hlj,hbj⟩:=hi.heap.get _ _ hgj
          have hbn:lb.n≠0:=by omega
          have hblt:=(hbb.lt hbn).1
          have sepj:lj.n≠0→lb.b≠lj.b:=fun h=>hi.heap.inj id j _ _ lb lj hg hgj hne hlb hlj hbn h
          cases r2
          cases r1 with
          | ptr _ _ l' hl' =>
            rw [hlb] at hl'; cases hl'
            refine (writeByte_any (fun w1 v' w2=>∃ l',AppRes X S ρ B (w1.alloc (.cells #[.int .u8 x] 5)) u8 (xs++mk [byteOf x]) (if lj.n=0 then none else some lj.b) v' w2 l'∧(∀ ao n,v' ≠ .slice (some ao) n 0)) lb.b c0 c1 x w hh hc0 hblt ?_).mono ?_
            · intro w1 g1 g2 g3 g4 g5
              let wA:World:=w1.alloc (.cells #[.int .u8 x] 5)
              have hszA:wA.heap.size=w.heap.size+1:=by simp [wA,g4]
              have hold:∀ k,k < w.heap.size→wA.heap[k]? = w1.heap[k]? := fun k hk=>Below.heap_alloc w1 _ k (by rw [g4]; exact hk)
              have hbj1:BlkRel X.E S ρ wA B lj (.rows u8 xs):=hbj.mono (fun _ h=>h) (fun b hb=>(hold b (hi.heap.lt b hb)).trans (g5 b (by rintro rfl; exact hnS hb))) (fun _ _ h=>h) (fun hn=>⟨(hold _ (hbj.lt hn).1).trans (g5 _ (sepj hn).symm),(hbj.lt hn).2.2⟩)
              have hln:=hbj.2.1
              have hszu:=hb8.sz
              have hml:(mk [byteOf x]).length=1:=hb8.len _
              have hA := append_run (P := Tryz.prog) (ty := 63) (ot := 63) (ys := mk [byteOf x]) (sv := c1) (xv := .slice (some ⟨w.heap.size, 0, none⟩) 1 1) (xs := xs) (old := if lj.n = 0 then none else some lj.b) (ao := some ⟨w.heap.size, 0, none⟩) (cp := 1) (S := S) (ρ := ρ) (w := wA) (B := B) hX (fun k hk => hi.hB k (by omega)) (fun b hb => by have := hi.heap.lt b hb; omega)
                (by rw [ht]; exact Tryz.underlying63) (by
                  cases hc1 with
                  | ful _ cap l2 hl2 e1 e2 =>
                    rw [hlj] at hl2; cases hl2
                    exact .inr ⟨lj,cap,by rw [hln],rfl,by rw [← hbj.1]; exact e1,by rw [← hln]; exact e2,hbj1⟩
                  | fulN _ l2 hl2 e1 e2 =>
                    rw [hlj] at hl2; cases hl2
                    exact .inl ⟨rfl,List.eq_nil_of_length_eq_zero (by rw [← hln]; exact e2),by rw [if_pos e1]⟩) (by rw [hml]) (fun _=>⟨_,rfl,fun i y j c hy hc=>by
                  obtain ⟨y',h1,h2⟩:=hb8.enc [byteOf x] 0 (by simp)
                  have hi0:i=0:=by have:=(List.getElem?_eq_some_iff.1 hy).1; omega
                  subst hi0
                  rw [hy] at h1; cases h1
                  rw [h2] at hc
                  match j,hc with
                  | 0, hc =>
                    cases hc
                    refine ⟨.int .u8 x,?_,?_⟩
                    · rw [hszu]
                      show wA.cell? ⟨w.heap.size,0+(0 * 1+0),none⟩=_
                      rw [← g4]
                      simp [wA]
                    · have : ((byteOf x).toNat : Int) = x := hbx
                      rw [show (([byteOf x]:List UInt8).getD 0 0).toNat=(byteOf x).toNat from rfl,this]
                      exact .int _ _⟩)
                (by rw [hml,hb8.by_]; simp at hlen; omega) (by rw [hml]; simp at hlen; omega)
              obtain ⟨v',w2,l',hrun,hres⟩:=hA
              have hnz':∀ ao n,v' ≠ .slice (some ao) n 0:=fun ao n e=>by
                subst e
                rcases hres.val with ⟨cap,hv,hc1',hc2'⟩ | ⟨hv,_,_⟩
                · cases hv
                  have:=(hres.blk ρ).2.1
                  rw [this] at hc2'
                  simp [hml] at hc2'
                · cases hv
              refine ⟨v',w2,hrun,?_,?_,l',hres,hnz'⟩
              · rw [hres.block _ (by omega) (fun e => ?_)]
                · exact hold _ hblt
                · split at e
                  · cases e
                  · rename_i hn; exact sepj hn (Option.some.inj e)
              · rcases hres.val with ⟨cap,rfl,_⟩ | ⟨rfl,_⟩<;>exact ⟨_,_,_,rfl⟩
            · rintro e w' ⟨rfl, w1, v', w2, g0, g1, g2, g3, g4, g5, ⟨l', hres, hnz'⟩, hb2, rfl⟩
              have hl'b:l'.n≠0→l'.b≠lb.b:=fun h=>by
                rcases hres.at_ h with h1 | h1
                · split at h1
                  · cases h1
                  · rename_i hn; rw [Option.some.inj h1]; exact (sepj hn).symm
                · simp at h1; rw [g4] at h1; omega
              refine ⟨_,_,_,S,(ρ.del j).set j l',rfl,hk,hi.bldWrite hX (l':=l') (v':=v') hne hg hgj hlb hlj (by show w2.os=_; rw [hres.os]; exact g1) (by show w2.tape=_; rw [hres.tape]; exact g2) (by show w2.output=_; rw [hres.output]; exact g3) ?_ ?_ ?_ ?_ ?_ ?_,?_⟩
              · have:=hres.size; simp at this; rw [g4] at this; simp [World.setCell]; omega
              · intro k' hk1 hk2 hk3
                rw [Below.heap_setCell _ _ _ _ hk2,hres.block k' (by simp; omega) (fun e => ?_),Below.heap_alloc w1 _ k' (by rw [g4]; exact hk1),g5 k' hk2]
                split at e
                · cases e
                · rename_i hn; exact hk3 hn (Option.some.inj e)
              · exact heap_setCell hb2
              · intro hn
                rcases hres.at_ hn with h1 | h1
                · split at h1
                  · cases h1
                  · rename_i hn'; exact .inl ⟨hn',Option.some.inj h1⟩
                · simp at h1; rw [g4] at h1; exact .inr (by omega)
              · intro ρ'
                have hSame:∀ b,S b→(w2.setCell ⟨lb.b,1,none⟩ v').heap[b]? = w2.heap[b]? := fun b hb=>Below.heap_setCell _ _ _ _ (by rintro rfl; exact hnS hb)
                exact (hres.blk ρ').mono (fun _ h=>h) hSame (fun _ _ h=>h) (fun hn=>⟨Below.heap_setCell _ _ _ _ (hl'b hn),((hres.blk ρ').lt hn).2.2⟩)
              · rcases hres.val with ⟨cap, rfl, e1, e2⟩ | ⟨rfl, e1, e2⟩
                · refine .inl ⟨cap, rfl, e1, e2, ?_⟩
                  rcases Nat.eq_zero_or_pos cap with h | h
                  · subst h; exact absurd rfl (hnz' _ _)
                  · exact h
                · exact .inr ⟨rfl,e1,e2⟩
              · exact .nili
        · cases hv
      · cases hv
    · cases hv
  · cases hv
end
end Go.Proofs.YtnofdcckddfooaaGreatDoor
