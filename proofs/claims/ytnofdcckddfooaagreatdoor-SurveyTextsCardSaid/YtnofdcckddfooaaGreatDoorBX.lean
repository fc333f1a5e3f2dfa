/- Writes into a builder, with the names of blocks that stay. -/
import Derived.Test.YtnofdcckddfooaaGreatDoorBW
namespace Go.Proofs.YtnofdcckddfooaaGreatDoor
set_option linter.unusedVariables false
set_option linter.unusedSectionVars false
set_option linter.unusedSimpArgs false
open Go.RowKit
section
variable {U:Type} {El:U→Type} [DecidableEq U] {X:Ctx U El} {u8:U} {mk:List UInt8→List (El u8)} {un:List (El u8)→List UInt8}
theorem ws1 (hX : CtxOk Tryz.prog X) (hb8 : ByteU X.E u8 mk un) (ht : X.E.tid u8 = 5) {B : Bd} {S0 : Nat → Prop} {w0 : World} {S : Nat → Prop} {ρ : Rho} {st : St U El} {a : Act} {w : World} (hi : Inv X B S0 w0 S ρ st a w) {id j : Nat} {xs : List (El u8)} {lb : Loc} (s : List UInt8)
    (hg:hget st.h id=some (.bld 77 j)) (hgj:hget st.h j=some (.rows u8 xs)) (hne:id≠j) (hlb:ρ id=some lb) (hlen:xs.length+s.length≤140737488355328) :
    Calls Tryz.prog 62 #[.pointer (some ⟨lb.b,0,none⟩),.string ⟨s.toArray⟩] w fun e w'=>e = .returned (.tuple #[.int .i64 (Int.ofNat s.length),.nilIface])∧∃ l',Inv X B S0 w0 S ((ρ.del j).set j l') ⟨(st.forget j).t,(id,.bld 77 j) :: (j,.rows u8 (xs++mk s)) :: hdel (st.forget j).h id⟩ a w':=by
  obtain ⟨lb0,hlb0,hbb⟩:=hi.heap.get _ _ hg
  rw [hlb] at hlb0; cases hlb0
  obtain ⟨n2,hBb,hnS,c0,c1,hh,hc0,hnz,hc1⟩:=_root_.id hbb
  obtain ⟨lj,hlj,hbj⟩:=hi.heap.get _ _ hgj
  have hbn:lb.n≠0:=by omega
  have hblt:=(hbb.lt hbn).1
  have sepj:lj.n≠0→lb.b≠lj.b:=fun h=>hi.heap.inj id j _ _ lb lj hg hgj hne hlb hlj hbn h
  refine (write_any (fun w1 v' w2=>∃ l',AppRes X S ρ B w1 u8 (xs++mk s) (if lj.n=0 then none else some lj.b) v' w2 l'∧(∀ ao n,v' ≠ .slice (some ao) n 0)) lb.b c0 c1 s w hh hc0 ?_).mono ?_
  · intro w1 g1 g2 g3 g4 g5
    have hbj1:BlkRel X.E S ρ w1 B lj (.rows u8 xs):=hbj.mono (fun _ h=>h) (fun b hb=>g5 b (by rintro rfl; exact hnS hb)) (fun _ _ h=>h) (fun hn=>⟨g5 _ (sepj hn).symm,(hbj.lt hn).2.2⟩)
    have hln:=hbj.2.1
    obtain ⟨v',w2,l',hrun,hres,hnz'⟩:=appendS_run (P:=Tryz.prog) (ty:=63) (sty:=9) (ot:=63) (s:=s) (sv:=c1) (xs:=xs) (old:=if lj.n=0 then none else some lj.b) (S:=S) (ρ:=ρ) (w:=w1) (B:=B) hX.u hb8 (by rw [g4]; exact hi.hB) (fun b hb=>by rw [g4]; exact hi.heap.lt b hb)
      (by rw [ht]; exact Tryz.underlying63) Tryz.underlying9 (by
        cases hc1 with
        | ful _ cap l2 hl2 e1 e2 =>
          rw [hlj] at hl2; cases hl2
          refine .inr ⟨lj,cap,by rw [hln],rfl,by rw [← hbj.1]; exact e1,by rw [← hln]; exact e2,?_,hbj1⟩
          rcases Nat.eq_zero_or_pos cap with h | h
          · subst h; exact absurd rfl (hnz _ _)
          · exact h
        | fulN _ l2 hl2 e1 e2 =>
          rw [hlj] at hl2; cases hl2
          exact .inl ⟨rfl,List.eq_nil_of_length_eq_zero (by rw [← hln]; exact e2),by rw [if_pos e1]⟩) hlen
    refine ⟨v',w2,hrun,hres.block _ (by rw [g4]; exact hblt) (fun e => ?_),?_,l',hres,hnz'⟩
    · split at e
      · cases e
      · rename_i hn; exact sepj hn (Option.some.inj e)
    · rcases hres.val with ⟨cap,rfl,_⟩ | ⟨rfl,_⟩<;>exact ⟨_,_,_,rfl⟩
  · rintro e w' ⟨rfl, w1, v', w2, g0, g1, g2, g3, g4, g5, ⟨l', hres, hnz'⟩, hb2, rfl⟩
    have hl'b:l'.n≠0→l'.b≠lb.b:=fun h=>by
      rcases hres.at_ h with h1 | h1
      · split at h1
        · cases h1
        · rename_i hn; rw [Option.some.inj h1]; exact (sepj hn).symm
      · rw [g4] at h1; omega
    refine ⟨rfl,l',hi.bldWrite hX (l':=l') (v':=v') hne hg hgj hlb hlj (by show w2.os=_; rw [hres.os,g1]) (by show w2.tape=_; rw [hres.tape,g2]) (by show w2.output=_; rw [hres.output,g3]) ?_ ?_ ?_ ?_ ?_ ?_⟩
    · have:=hres.size; rw [g4] at this; simpa [World.setCell] using this
    · intro k' hk1 hk2 hk3
      rw [Below.heap_setCell _ _ _ _ hk2,hres.block k' (by rw [g4]; exact hk1) (fun e => ?_),g5 k' hk2]
      split at e
      · cases e
      · rename_i hn; exact hk3 hn (Option.some.inj e)
    · exact heap_setCell hb2
    · intro hn
      rcases hres.at_ hn with h1 | h1
      · split at h1
        · cases h1
        · rename_i hn'; exact .inl ⟨hn',Option.some.inj h1⟩
      · rw [g4] at h1; exact .inr h1
    · intro ρ'
      have hSame:∀ b,S b→(w2.setCell ⟨lb.b,1,none⟩ v').heap[b]? = w2.heap[b]? := fun b hb=>Below.heap_setCell _ _ _ _ (by rintro rfl; exact hnS hb)
      exact (hres.blk ρ').mono (fun _ h=>h) hSame (fun _ _ h=>h) (fun hn=>⟨Below.heap_setCell _ _ _ _ (hl'b hn),((hres.blk ρ').lt hn).2.2⟩)
    · rcases hres.val with ⟨cap, rfl, e1, e2⟩ | ⟨rfl, e1, e2⟩
      · refine .inl ⟨cap, rfl, e1, e2, ?_⟩
        rcases Nat.eq_zero_or_pos cap with h | h
        · subst h; exact absurd rfl (hnz' _ _)
        · exact h
      · exact .inr ⟨rfl,e1,e2⟩
theorem wb1 (hX : CtxOk Tryz.prog X) (hb8 : ByteU X.E u8 mk un) (ht : X.E.tid u8 = 5) {B : Bd} {S0 : Nat → Prop} {w0 : World} {S : Nat → Prop} {ρ : Rho} {st : St U El} {a : Act} {w : World} (hi : Inv X B S0 w0 S ρ st a w) {id j : Nat} {xs : List (El u8)} {lb : Loc} (x : Int) (hx0 : 0 ≤ x) (hx9 : x ≤ 255)
    (hg:hget st.h id=some (.bld 77 j)) (hgj:hget st.h j=some (.rows u8 xs)) (hne:id≠j) (hlb:ρ id=some lb) (hlen:xs.length+([byteOf x]:List UInt8).length≤140737488355328) :
    Calls Tryz.prog 63 #[.pointer (some ⟨lb.b,0,none⟩),.int .u8 x] w fun e w'=>e = .returned .nilIface∧∃ l',Inv X B S0 w0 S ((ρ.del j).set j l') ⟨(st.forget j).t,(id,.bld 77 j) :: (j,.rows u8 (xs++mk [byteOf x])) :: hdel (st.forget j).h id⟩ a w':=by
  have hbx:((byteOf x).toNat:Int)=x:=by
    unfold byteOf
    rw [UInt8.toNat_ofNat']
    omega
  obtain ⟨lb0,hlb0,hbb⟩:=hi.heap.get _ _ hg
  rw [hlb] at hlb0; cases hlb0
  obtain ⟨n2,hBb,hnS,c0,c1,hh,hc0,hnz,hc1⟩:=_root_.id hbb
  obtain ⟨lj,hlj,hbj⟩:=hi.heap.get _ _ hgj
  have hbn:lb.n≠0:=by omega
  have hblt:=(hbb.lt hbn).1
  have sepj:lj.n≠0→lb.b≠lj.b:=fun h=>hi.heap.inj id j _ _ lb lj hg hgj hne hlb hlj hbn h
  refine (writeByte_any (fun w1 v' w2=>∃ l',AppRes X S ρ B (w1.alloc (.cells #[.int .u8 x] 5)) u8 (xs++mk [byteOf x]) (if lj.n=0 then none else some lj.b) v' w2 l'∧(∀ ao n,v' ≠ .slice (some ao) n 0)) lb.b c0 c1 x w hh hc0 hblt ?_).mono ?_
  · intro w1 g1 g2 g3 g4 g5
    let wA:World:=w1.alloc (.cells #[.int .u8 x] 5)
    have hszA:wA.heap.size=w.heap.size+1:=by simp [wA,g4]
    have hold:∀ k,k < w.heap.size→wA.heap[k]? = w1.heap[k]? := fun k hk=>Below.heap_alloc w1 _ k (by rw [g4]; exact hk)
    have hbj1:BlkRel X.E S ρ wA B lj (.rows u8 xs):=hbj.mono (fun _ h=>h) (fun b hb=>(hold b (hi.heap.lt b hb)).trans (g5 b (by rintro rfl; exact hnS hb))) (fun _ _ h=>h) (fun hn=>⟨(hold _ (hbj.lt hn).1).trans (g5 _ (sepj hn).symm),(hbj.lt hn).2.2⟩)
    have hln:=hbj.2.1
    have hszu:=hb8.sz
    have hml:(mk [byteOf x]).length=1:=hb8.len _
    have hA := append_run (P := Tryz.prog) (ty := 63) (ot := 63) (ys := mk [byteOf x]) (sv := c1) (xv := .slice (some ⟨w.heap.size, 0, none⟩) 1 1) (xs := xs) (old := if lj.n = 0 then none else some lj.b) (ao := some ⟨w.heap.size, 0, none⟩) (cp := 1) (S := S) (ρ := ρ) (w := wA) (B := B) hX (fun k hk => hi.hB k (by omega)) (fun b hb => by have := hi.heap.lt b hb; omega)
      (by rw [ht]; exact Tryz.underlying63) (by
        cases hc1 with
        | ful _ cap l2 hl2 e1 e2 =>
          rw [hlj] at hl2; cases hl2
          exact .inr ⟨lj,cap,by rw [hln],rfl,by rw [← hbj.1]; exact e1,by rw [← hln]; exact e2,hbj1⟩
        | fulN _ l2 hl2 e1 e2 =>
          rw [hlj] at hl2; cases hl2
          exact .inl ⟨rfl,List.eq_nil_of_length_eq_zero (by rw [← hln]; exact e2),by rw [if_pos e1]⟩) (by rw [hml]) (fun _=>⟨_,rfl,fun i y j c hy hc=>by
        obtain ⟨y',h1,h2⟩:=hb8.enc [byteOf x] 0 (by simp)
        have hi0:i=0:=by have:=(List.getElem?_eq_some_iff.1 hy).1; omega
        subst hi0
        rw [hy] at h1; cases h1
        rw [h2] at hc
        match j,hc with
        | 0, hc =>
          cases hc
          refine ⟨.int .u8 x,?_,?_⟩
          · rw [hszu]
            show wA.cell? ⟨w.heap.size,0+(0 * 1+0),none⟩=_
            rw [← g4]
            simp [wA]
          · have : ((byteOf x).toNat : Int) = x := hbx
            rw [show (([byteOf x]:List UInt8).getD 0 0).toNat=(byteOf x).toNat from rfl,this]
            exact .int _ _⟩)
      (by rw [hml,hb8.by_]; simp at hlen; omega) (by rw [hml]; simp at hlen; omega)
    obtain ⟨v',w2,l',hrun,hres⟩:=hA
    have hnz':∀ ao n,v' ≠ .slice (some ao) n 0:=fun ao n e=>by
      subst e
      rcases hres.val with ⟨cap,hv,hc1',hc2'⟩ | ⟨hv,_,_⟩
      · cases hv
        have:=(hres.blk ρ).2.1
        rw [this] at hc2'
        simp [hml] at hc2'
      · cases hv
    refine ⟨v',w2,hrun,?_,?_,l',hres,hnz'⟩
    · rw [hres.block _ (by omega) (fun e => ?_)]
      · exact hold _ hblt
      · split at e
        · cases e
        · rename_i hn; exact sepj hn (Option.some.inj e)
    · rcases hres.val with ⟨cap,rfl,_⟩ | ⟨rfl,_⟩<;>exact ⟨_,_,_,rfl⟩
  · rintro e w' ⟨rfl, w1, v', w2, g0, g1, g2, g3, g4, g5, ⟨l', hres, hnz'⟩, hb2, rfl⟩
    have hl'b:l'.n≠0→l'.b≠lb.b:=fun h=>by
      rcases hres.at_ h with h1 | h1
      · split at h1
        · cases h1
        · rename_i hn; rw [Option.some.inj h1]; exact (sepj hn).symm
      · simp at h1; rw [g4] at h1; omega
    refine ⟨rfl,l',hi.bldWrite hX (l':=l') (v':=v') hne hg hgj hlb hlj (by show w2.os=_; rw [hres.os]; exact g1) (by show w2.tape=_; rw [hres.tape]; exact g2) (by show w2.output=_; rw [hres.output]; exact g3) ?_ ?_ ?_ ?_ ?_ ?_⟩
    · have:=hres.size; simp at this; rw [g4] at this; simp [World.setCell]; omega
    · intro k' hk1 hk2 hk3
      rw [Below.heap_setCell _ _ _ _ hk2,hres.block k' (by simp; omega) (fun e => ?_),Below.heap_alloc w1 _ k' (by rw [g4]; exact hk1),g5 k' hk2]
      split at e
      · cases e
      · rename_i hn; exact hk3 hn (Option.some.inj e)
    · exact heap_setCell hb2
    · intro hn
      rcases hres.at_ hn with h1 | h1
      · split at h1
        · cases h1
        · rename_i hn'; exact .inl ⟨hn',Option.some.inj h1⟩
      · simp at h1; rw [g4] at h1; exact .inr (by omega)
    · intro ρ'
      have hSame:∀ b,S b→(w2.setCell ⟨lb.b,1,none⟩ v').heap[b]? = w2.heap[b]? := fun b hb=>Below.heap_setCell _ _ _ _ (by rintro rfl; exact hnS hb)
      exact (hres.blk ρ').mono (fun _ h=>h) hSame (fun _ _ h=>h) (fun hn=>⟨Below.heap_setCell _ _ _ _ (hl'b hn),((hres.blk ρ').lt hn).2.2⟩)
    · rcases hres.val with ⟨cap, rfl, e1, e2⟩ | ⟨rfl, e1, e2⟩
      · refine .inl ⟨cap, rfl, e1, e2, ?_⟩
        rcases Nat.eq_zero_or_pos cap with h | h
        · subst h; exact absurd rfl (hnz' _ _)
        · exact h
      · exact .inr ⟨rfl,e1,e2⟩
theorem kill_idem (j:Nat) (v:AV U El):(v.kill j).kill j=v.kill j:=by
  unfold AV.kill
  cases h:v.ment j with
  | true=>rfl
  | false=>simp [h]
theorem bkill_idem (j:Nat) (b:Blk U El):(b.kill j).kill j=b.kill j:=by
  cases b with
  | rows u xs=>rfl
  | box t cs=>simp [Blk.kill,kill_idem]
  | map u v es=>rfl
  | amap u ks cs=>simp [Blk.kill,kill_idem]
  | bld T i =>
    simp only [Blk.kill]
    cases h:Nat.beq i j with
    | true=>rfl
    | false=>simp [Blk.kill,h]
def bst (u8:U) (st:St U El) (id j:Nat) (ys:List (El u8)):St U El:=⟨(st.forget j).t,(id,.bld 77 j) :: (j,.rows u8 ys) :: hdel (st.forget j).h id⟩
theorem bst_id (u8:U) (st:St U El) (id j:Nat) (ys:List (El u8)):hget (bst u8 st id j ys).h id=some (.bld 77 j):=by
  simp [bst,hget,Nat.beq_refl]
theorem bst_j (u8:U) (st:St U El) {id j:Nat} (hne:id≠j) (ys:List (El u8)):hget (bst u8 st id j ys).h j=some (.rows u8 ys):=by
  simp [bst,hget,nbeq_ne hne,Nat.beq_refl]
theorem bst_o (u8:U) (st:St U El) {id j i:Nat} (h1:i≠id) (h2:i≠j) (ys:List (El u8)):hget (bst u8 st id j ys).h i=(hget st.h i).map (Blk.kill j):=by
  simp only [bst,hget,nbeq_ne (Ne.symm h1),nbeq_ne (Ne.symm h2),cond_false,St.forget]
  rw [hget_del,if_neg h1,hget_kill,hget_del,if_neg h2]
theorem bst_again {B:Bd} {S0 S:Nat→Prop} {w0 w:World} {ρ:Rho} {st:St U El} {a:Act} {id j:Nat} {ys zs:List (El u8)} (hne:id≠j)
    (h:Inv X B S0 w0 S ρ ⟨((bst u8 st id j ys).forget j).t,(id,.bld 77 j) :: (j,.rows u8 zs) :: hdel ((bst u8 st id j ys).forget j).h id⟩ a w):Inv X B S0 w0 S ρ (bst u8 st id j zs) a w:=by
  have h1:=h.learn (t':=(bst u8 st id j zs).t) fun i=>by
    have:=h.tmps i
    simp only [St.forget,bst,tget_kill,kill_idem] at this ⊢
    exact this
  refine h1.same fun i => ?_
  show hget (bst u8 st id j zs).h i=_
  by_cases e1:i=id
  · subst e1
    rw [bst_id]
    simp [hget,Nat.beq_refl]
  · by_cases e2 : i = j
    · subst e2
      rw [bst_j u8 st hne]
      simp [hget,nbeq_ne hne,Nat.beq_refl]
    · rw [bst_o u8 st e1 e2]
      simp only [hget,nbeq_ne (Ne.symm e1),nbeq_ne (Ne.symm e2),cond_false,St.forget]
      rw [hget_del,if_neg e1,hget_kill,hget_del,if_neg e2,bst_o u8 st e1 e2]
      cases hget st.h i with
      | none=>rfl
      | some b=>simp [bkill_idem]
theorem Inv.step {B:Bd} {S0 S S':Nat→Prop} {w0 w w':World} {ρ ρ1 ρ2:Rho} {st:St U El} {a:Act} {H:Heap U El} (hi:Inv X B S0 w0 S ρ st a w) (hst:Step S ρ1 w S' ρ2 w') (hN:HRel X.E S' ρ2 w' (From w) H):Inv X B S0 w0 S' ρ st a w' :=
  hi.put (dst:=none) (out:=⟨.any,[]⟩) (v := .int .i64 0) (fun e he=>by cases he) ⟨hst.fr,hst.s1,hst.s2,fun _ _ h=>h,hst.lt⟩ (.any _) ⟨fun id b h=>(by cases h),fun i k b b' l l' h=>(by cases h),hN.lt⟩ (fun id b h=>(by cases h))
end
end Go.Proofs.YtnofdcckddfooaaGreatDoor
