/- rules.Simpler: the walk along its pieces, and the contract. -/
import Derived.Test.YtlkfbblapimhoaaGreatDoorUT
namespace Go.Proofs.YtlkfbblapimhoaaGreatDoor
set_option linter.unusedSectionVars false
set_option linter.unusedSimpArgs false
set_option linter.unusedVariables false
set_option maxRecDepth 100000
noncomputable def simR (r:Rule):Rule:=bif ruleB r && !(simF r.rw) then ⟨r.rn,simC r.rw,r.rl,r.rs⟩ else ⟨[],[],[],0⟩
noncomputable def simE (r:Rule):Int:=bif ruleB r then (bif simF r.rw then 12 else 0) else 1
namespace usimpler
theorem wp_eq {P:Program} {Q:Exit→Act→World→Prop} {a:Act} {w:World} {c c':Code} (e:c=c') (h:c'.wp P Q a w):c.wp P Q a w:=e ▸ h
section
variable {S0 S:Nat→Prop} {ρ:Rho} {pin:Nat→Option Loc} {st:St U El} {a:Act} {w w0:World}
theorem bool_at (h:Held X w0 S0 S ρ pin st a w) {i:Nat} {b:Bool} (ht:tget st.t i = .bool b):a.tmps.getD i undef = .bool b:=by
  have:=h.inv.tmps i
  rw [ht] at this
  generalize a.tmps.getD i undef=q at this
  cases this; rfl
theorem str_at (h:Held X w0 S0 S ρ pin st a w) {i:Nat} {s:List UInt8} (ht:tget st.t i = .str s):a.tmps.getD i undef = .string ⟨s.toArray⟩:=by
  have:=h.inv.tmps i
  rw [ht] at this
  generalize a.tmps.getD i undef=q at this
  cases this; rfl
theorem map_at (h:Held X w0 S0 S ρ pin st a w) {i:Nat} {l:Loc} (hg:hget st.h 7000=some (.box 7000 [])) (hp:pin 7000=some l) (ht:tget st.t i = .mp 7000):a.tmps.getD i undef = .map (some l.b):=by
  have h1:=h.inv.tmps i
  rw [ht] at h1
  obtain ⟨l',e1,e2⟩:=h.inv.heap.get 7000 _ hg
  have e3:l'=l:=by
    rcases e2.1 with e | e
    · cases e
    · simp only [tight] at e; rw [hp] at e; cases e; rfl
  subst e3
  generalize a.tmps.getD i undef=q at h1
  cases h1 with
  | mp _ l2 hl2=>rw [e1] at hl2; cases hl2; rfl
theorem ptr_at (h:Held X w0 S0 S ρ pin st a w) {i J:Nat} {l:Loc} (hl:ρ J=some l) (ht:tget st.t i = .ptr J 0):a.tmps.getD i undef = .pointer (some ⟨l.b,0,none⟩):=by
  have h1:=h.inv.tmps i
  rw [ht] at h1
  generalize a.tmps.getD i undef=q at h1
  cases h1 with
  | ptr _ _ l2 hl2=>rw [hl] at hl2; cases hl2; rfl
end
def OK1 (r:Rule) (o:Option Nat) (c:Option Cnd):Prop:=o.map (c1 r)=c∧∀ j,o=some j→j < r.rw.length
def GoodL (r:Rule) (k:Nat) (lo hi:List UInt8→Option Nat):Prop:=∀ n∈nodesL (r.rw.take k),OK1 r (lo n) (lowO n (r.rw.take k))∧OK1 r (hi n) (highO n (r.rw.take k))
theorem c1_get {r:Rule} {k:Nat} (h:k < r.rw.length):c1 r k=r.rw[k]:=getD_lt h _
theorem ok_lo {r:Rule} {k:Nat} (hk:k < r.rw.length) {o:Option Nat} {l:List Cnd} (h:OK1 r o (lowO (c1 r k).cn l)):OK1 r (loN r k o) (lowS (c1 r k).cn (lowO (c1 r k).cn l) (c1 r k)):=by
  obtain ⟨h1,h2⟩:=h
  rw [← h1]
  unfold lowS
  rw [beq_self_eq_true]
  cases o with
  | none =>
    rw [loN_n]
    cases (c1 r k).cb
    · exact ⟨rfl,fun j e=>by cases e; exact hk⟩
    · exact ⟨rfl,fun j e=>by cases e⟩
  | some p =>
    rw [loN_s]
    show OK1 r _ (bif true&&(!(c1 r k).cb&&ilt (c1 r p).cl (c1 r k).cl) then some (c1 r k) else some (c1 r p))
    cases (c1 r k).cb
    · cases ilt (c1 r p).cl (c1 r k).cl
      · exact ⟨rfl,h2⟩
      · exact ⟨rfl,fun j e=>by cases e; exact hk⟩
    · exact ⟨rfl,h2⟩
theorem ok_hi {r:Rule} {k:Nat} (hk:k < r.rw.length) {o:Option Nat} {l:List Cnd} (h:OK1 r o (highO (c1 r k).cn l)):OK1 r (hiN r k o) (highS (c1 r k).cn (highO (c1 r k).cn l) (c1 r k)):=by
  obtain ⟨h1,h2⟩:=h
  rw [← h1]
  unfold highS
  rw [beq_self_eq_true]
  cases o with
  | none =>
    rw [hiN_n]
    cases (c1 r k).cb
    · exact ⟨rfl,fun j e=>by cases e⟩
    · exact ⟨rfl,fun j e=>by cases e; exact hk⟩
  | some p =>
    rw [hiN_s]
    show OK1 r _ (bif true&&((c1 r k).cb&&ilt (c1 r k).cl (c1 r p).cl) then some (c1 r k) else some (c1 r p))
    cases (c1 r k).cb
    · exact ⟨rfl,h2⟩
    · cases ilt (c1 r k).cl (c1 r p).cl
      · exact ⟨rfl,h2⟩
      · exact ⟨rfl,fun j e=>by cases e; exact hk⟩
theorem lowS_other {n:List UInt8} {o:Option Cnd} {c:Cnd} (h:n≠c.cn):lowS n o c=o:=by
  unfold lowS; rw [beq_eq_false_iff_ne.2 (Ne.symm h)]; rfl
theorem highS_other {n:List UInt8} {o:Option Cnd} {c:Cnd} (h:n≠c.cn):highS n o c=o:=by
  unfold highS; rw [beq_eq_false_iff_ne.2 (Ne.symm h)]; rfl
theorem take_c1 {r:Rule} {k:Nat} (hk:k < r.rw.length):r.rw.take (k+1)=r.rw.take k++[c1 r k]:=by rw [take_lt hk,c1_get hk]
theorem good_step {r:Rule} {k:Nat} (hk:k < r.rw.length) {lo hi:List UInt8→Option Nat} (h:GoodL r k lo hi) (hnew:(c1 r k).cn ∉ nodesL (r.rw.take k)→∀ l h':Option Nat,l=none→h'=none→OK1 r l (lowO (c1 r k).cn (r.rw.take k))∧OK1 r h' (highO (c1 r k).cn (r.rw.take k)))
    (l0 h0:Option Nat) (e0:(c1 r k).cn∈nodesL (r.rw.take k)→l0=lo (c1 r k).cn∧h0=hi (c1 r k).cn) (e1:(c1 r k).cn ∉ nodesL (r.rw.take k)→l0=none∧h0=none) :
    GoodL r (k+1) (fun m=>if m=(c1 r k).cn then loN r k l0 else lo m) (fun m=>if m=(c1 r k).cn then hiN r k h0 else hi m):=by
  intro n hn
  rw [take_c1 hk,low_snoc,high_snoc]
  by_cases e:n=(c1 r k).cn
  · subst e
    simp only [if_true]
    by_cases hm:(c1 r k).cn∈nodesL (r.rw.take k)
    · obtain ⟨q1, q2⟩ := e0 hm
      rw [q1,q2]
      exact ⟨ok_lo hk (h _ hm).1,ok_hi hk (h _ hm).2⟩
    · obtain ⟨q1, q2⟩ := e1 hm
      obtain ⟨g1,g2⟩:=hnew hm l0 h0 q1 q2
      exact ⟨ok_lo hk g1,ok_hi hk g2⟩
  · simp only [if_neg e]
    rw [lowS_other e,highS_other e]
    refine h n ?_
    rw [take_c1 hk,nodes_snoc] at hn
    by_cases hm:(c1 r k).cn∈nodesL (r.rw.take k)
    · rwa [addN_yes hm] at hn
    · rw [addN_no hm, List.mem_append, List.mem_singleton] at hn
      exact hn.resolve_right e
theorem new_none {r:Rule} {k:Nat} (hm:(c1 r k).cn ∉ nodesL (r.rw.take k)):lowO (c1 r k).cn (r.rw.take k)=none∧highO (c1 r k).cn (r.rw.take k)=none:=by
  constructor
  · cases e : lowO (c1 r k).cn (r.rw.take k) with
    | none=>rfl
    | some c =>
      obtain ⟨g1,g2,_⟩:=(low_spec (c1 r k).cn (r.rw.take k)).1 c e
      exact absurd (mem_nodes.2 ⟨c,g1,g2⟩) hm
  · cases e : highO (c1 r k).cn (r.rw.take k) with
    | none=>rfl
    | some c =>
      obtain ⟨g1,g2,_⟩:=(high_spec (c1 r k).cn (r.rw.take k)).1 c e
      exact absurd (mem_nodes.2 ⟨c,g1,g2⟩) hm
abbrev PMk (r:Rule) (w0:World) (mb:Nat) (k:Nat):=PM r w0.heap.size mb (nodesL (r.rw.take k))
def mbL (mb:Nat):Loc:=⟨mb,0,0,0⟩
structure At1 (r:Rule) (w0:World) (S0:Nat→Prop) (mb k:Nat) (a:Act) (w:World):Prop where
  ex:∃ S ρ pin bk lo hi,Held X w0 S0 S ρ pin (L1 r (nodesL (r.rw.take k)) k) a w∧pin 7000=some (mbL mb)∧GoodL r k lo hi∧PMk r w0 mb k bk lo hi none (apart (L1 r (nodesL (r.rw.take k)) k) ρ S) S w
theorem nodes_le (l:List Cnd):(nodesL l).length≤l.length:=by
  induction l using snoc_ind with
  | h0=>exact Nat.le_refl _
  | h1 l c ih =>
    rw [nodes_snoc]
    by_cases hm:c.cn∈nodesL l
    · rw [addN_yes hm,List.length_append]; omega
    · rw [addN_no hm,List.length_append,List.length_append]; simp; omega
noncomputable def lk9 : Oper := (o9[5]?).getD ⟨none, .move (.const undef), 0, "", #[], none⟩
theorem lk9_at:o9[5]? = some lk9:=by kernel_rfl
theorem lk9_op:lk9.op = .lookup 138 (.tmp 32) (.tmp 36) true:=by kernel_rfl
theorem lk9_dst:lk9.dst=some 37:=by kernel_rfl
theorem lk9_guard:lk9.guard=none:=by kernel_rfl
theorem no_guard {l:List Oper} (h:l.all (fun o=>o.guard.isNone)=true):∀ o∈l,o.guard=none:=fun o ho=>by
  have:=List.all_eq_true.1 h o ho
  cases hg:o.guard with
  | none=>rfl
  | some g=>rw [hg] at this; cases this
noncomputable def mu12 : Oper := (o12[6]?).getD ⟨none, .move (.const undef), 0, "", #[], none⟩
theorem mu12_at:o12[6]? = some mu12:=by kernel_rfl
theorem mu12_op:mu12.op = .mapUpdate 138 (.tmp 44) (.tmp 48) (.tmp 49):=by kernel_rfl
theorem mu12_dst:mu12.dst=none:=by kernel_rfl
theorem mu12_guard:mu12.guard=none:=by kernel_rfl
theorem mlen {n:List UInt8} (h:n.length≤100):n.length≤maxLen:=Nat.le_trans h (by decide)
theorem pcell_cell (r:Rule) (o:Option Nat):(pcell r o).cell=true:=by cases o<;>rfl
theorem exec_look {o:Oper} {ev:Operand→Value} {m x:Operand} {b:Bool} {mb:Nat} {n:List UInt8} {v:Value} {w:World} (hop:o.op = .lookup 138 m x b) (hm:ev m = .map (some mb)) (hx:ev x = .string ⟨n.toArray⟩)
    (hrun:(Instr.lookup 138 (.map (some mb)) (.string ⟨n.toArray⟩) b).run Tryz.prog w = .ok v w):(execOp ev o).run Tryz.prog w = .ok (.value v) w:=by
  simp [execOp,hop,hm,hx,hrun,Result.andThen]
theorem exec_put {o:Oper} {ev:Operand→Value} {m x y:Operand} {mb b:Nat} {n:List UInt8} {w w':World} (hop:o.op = .mapUpdate 138 m x y) (hm:ev m = .map (some mb)) (hx:ev x = .string ⟨n.toArray⟩) (hy:ev y = .pointer (some ⟨b,0,none⟩))
    (hrun:(Instr.mapUpdate 138 (.map (some mb)) (.string ⟨n.toArray⟩) (.pointer (some ⟨b,0,none⟩))).run Tryz.prog w = .ok () w'):(execOp ev o).run Tryz.prog w = .ok .skip w':=by
  simp [execOp,hop,hm,hx,hy,hrun,Result.andThen]
theorem fin1 {r:Rule} {w0:World} {S0:Nat→Prop} {mb k:Nat} (hk:k≤1000) {S:Nat→Prop} {ρ:Rho} {pin:Nat→Option Loc} {bk:List UInt8→Nat} {lo hi:List UInt8→Option Nat} {a:Act} {w:World} {Q:Exit→Act→World→Prop}
    (h:Held X w0 S0 S ρ pin (L1 r (nodesL (r.rw.take (k+1))) k) a w) (hp:pin 7000=some (mbL mb)) (hg:GoodL r (k+1) lo hi) (hpm:PMk r w0 mb (k+1) bk lo hi none (apart (L1 r (nodesL (r.rw.take (k+1))) k) ρ S) S w)
    (hQ:∀ a' w',At1 r w0 S0 mb (k+1) a' w'→Q .normal a' w'):(cdp (lb++[1,1,1]) bd).wp Tryz.prog Q a w:=by
  have e:=e18 r (nodesL (r.rw.take (k+1))) k
  rw [wrapS k (by omega)] at e
  exact Held.end1 ok okM (pm_stable r _ mb _ bk lo hi none) h hpm e fun S' ρ' a' w' k1 k2=>hQ a' w' ⟨S',ρ',pin,bk,lo,hi,k1,hp,hg,k2⟩
set_option maxHeartbeats 1000000 in
theorem round1 (r : Rule) (hlen : r.rw.length ≤ 20) (hnm : ∀ c ∈ r.rw, c.cn.length ≤ 100) {w0 : World} {S0 : Nat → Prop} {mb k : Nat} {a : Act} {w : World} (hk : k < r.rw.length) (h : At1 r w0 S0 mb k a w) {Q : Exit → Act → World → Prop}
    (hQ:∀ a' w',At1 r w0 S0 mb (k+1) a' w'→Q .normal a' w'):(cdp (lb++[1,1]) bd).wp Tryz.prog Q a w:=by
  obtain ⟨S,ρ,pin,bk,lo,hi,hH,hp,hg,hpm⟩:=h.ex
  have hst:=pm_stable r w0.heap.size mb (nodesL (r.rw.take k)) bk lo hi none
  have hcl:(c1 r k).cn.length≤maxLen:=mlen (hnm _ (by rw [c1_get hk]; exact List.getElem_mem hk))
  refine wp_eq (c' := .seq (cdp (lb++[1,1,0]) bd) (cdp (lb++[1,1,1]) bd)) (by kernel_rfl) (wp_seq ?_)
  refine wp_eq (c' := .block 1 (cdp bb bd)) (by kernel_rfl) (wp_block ?_)
  refine Held.on ok okM hst (c1:=cdp (bb++[0]) bd) (c2:=cdp (bb++[1]) bd) (by kernel_rfl) hH hpm (e7 r _ k) fun S1 ρ1 a1 w1 hH1 hpm1 => ?_
  refine Held.on ok okM hst (c1:=cdp (bb++[1,0]) bd) (c2:=cdp (bb++[1,1]) bd) (by kernel_rfl) hH1 hpm1 ((e8 r _ k).trans (by rw [inbT hk]; rfl)) fun S2 ρ2 a2 w2 hH2 hpm2 => ?_
  refine wp_eq (c' := .seq (cdp (bb++[1,1,0]) bd) (cdp (bb++[1,1,1]) bd)) (by kernel_rfl) (wp_seq ?_)
  refine wp_eq (c' := .region 9 o9 false) (by kernel_rfl) (wp_region ?_)
  rw [show List.range o9.size=List.range' 0 (o9.toList.take 5++o9.toList.drop 5).length by kernel_rfl]
  refine Held.ops ok okM hst (o9.toList.drop 5) (o9.toList.take 5) 0 hH2 hpm2 (List.take_append_drop 5 _).symm (no_guard (by kernel_rfl)) (e9a r _ k) fun S3 ρ3 a3 w3 hH3 hpm3 => ?_
  rw [show 0+(o9.toList.take 5).length=5 by kernel_rfl,show (o9.toList.drop 5).length=5+1 by kernel_rfl]
  have hm:a3.eval (.tmp 32) = .map (some mb):=map_at hH3 (by rfl) hp (by rfl)
  have hs:a3.eval (.tmp 36) = .string ⟨(c1 r k).cn.toArray⟩:=str_at hH3 (by rfl)
  by_cases hn:(c1 r k).cn∈nodesL (r.rw.take k)
  · 
    have hrun:=(pm_look hpm3 (c1 r k).cn hcl true).1 hn
    rw [if_pos rfl] at hrun
    refine wpOps_hand (v := .tuple #[.pointer (some ⟨bk (c1 r k).cn,0,none⟩),.bool true]) (w':=w3) lk9_at lk9_guard (exec_look lk9_op hm hs hrun) ?_
    rw [lk9_dst]
    obtain ⟨q1,q2,q3⟩:=hpm3.bx _ hn
    obtain ⟨q4,q5,T,v1,v2,q6,q7,q8⟩:=q3 (by simp)
    have hH4:=hH3.addbox ok (d:=37) (J:=9000) (b:=bk (c1 r k).cn) (cs:=[pcell r (lo (c1 r k).cn),pcell r (hi (c1 r k).cn)]) (v := .tuple #[.pointer (some ⟨bk (c1 r k).cn,0,none⟩),.bool true]) (av := .tup [.ptr 9000 0,.bool true])
      (by kernel_rfl) (by kernel_rfl) (by decide) (fun _=>⟨q5,q2,#[v1,v2],T,q6,rfl,fun j x hj=>by
        match j,hj with
        | 0,hj=>cases hj; exact ⟨v1,rfl,fun ρ'=>q7.cellρ E_good (pcell_cell r _)⟩
        | 1,hj=>cases hj; exact ⟨v2,rfl,fun ρ'=>q8.cellρ E_good (pcell_cell r _)⟩⟩)
      (fun ρ' hρ => .tup _ _ rfl fun i c v hc hv=>by
        match i,hc,hv with
        | 0,hc,hv=>cases hc; cases hv; exact .ptr 9000 0 _ hρ
        | 1,hc,hv=>cases hc; cases hv; exact .bool true)
    have hpm4:=hpm3.out (A':=apart _ _ S3) _ hn fun x hx hne=>addbox_apart (d:=37) (J:=9000) (b:=bk (c1 r k).cn) (cs:=[pcell r (lo (c1 r k).cn),pcell r (hi (c1 r k).cn)]) (t:=(37,.tup [.ptr 9000 0,.bool true]) :: t9 r k) hx fun _=>hne
    have hst2:=pm_stable r w0.heap.size mb (nodesL (r.rw.take k)) bk lo hi (some (c1 r k).cn)
    rw [show List.range' (5+1) 5=List.range' 6 (o9.toList.drop 6++[]).length by kernel_rfl]
    refine Held.ops ok okM hst2 [] (o9.toList.drop 6) 6 hH4 hpm4 (List.append_nil _).symm (no_guard (by kernel_rfl)) (e9b r _ k _) fun S5 ρ5 a5 w5 hH5 hpm5 => ?_
    show (cdp (bb++[1,1,1]) bd).wp Tryz.prog _ a5 w5
    refine Held.end1 ok okM hst2 hH5 hpm5 (eF r _ k _ _) fun S6 ρ6 a6 w6 hH6 hpm6 => ?_
    have hnodes:nodesL (r.rw.take (k+1))=nodesL (r.rw.take k):=by rw [take_c1 hk,nodes_snoc,addN_yes hn]
    obtain ⟨u1,u2,u3,u4,c,T',u5,u6,u7⟩:=hH6.unbox (J:=9000) (l:=⟨bk (c1 r k).cn,2,0,0⟩) (by rfl) (by decide) (by rfl) (by simp) (zipT s1 (vL r k)) (hL r (nodesL (r.rw.take k))) (fun id b hb=>by
      refine ⟨fun e => ?_,?_⟩
      · subst e; cases hb
      · rw [show (hL r (nodesL (r.rw.take k))++[((9000:Nat),(.box 9000 [pcell r (loN r k (lo (c1 r k).cn)),pcell r (hiN r k (hi (c1 r k).cn))]:Blk U El))])=hL r (nodesL (r.rw.take k))++[(9000,.box 9000 [pcell r (loN r k (lo (c1 r k).cn)),pcell r (hiN r k (hi (c1 r k).cn))])] from rfl,hget_append,hb])
    have hless:∀ id b,hget (hL r (nodesL (r.rw.take k))) id=some b→hget (hL r (nodesL (r.rw.take k))++[(9000,.box 9000 [pcell r (loN r k (lo (c1 r k).cn)),pcell r (hiN r k (hi (c1 r k).cn))])]) id=some b:=fun id b hb=>by rw [hget_append,hb]
    have hH7:Held X w0 S0 S6 ρ6 _ (L1 r (nodesL (r.rw.take k)) k) a6 w6:=hH6.less (fun i => .inr rfl) hless
    obtain ⟨x1,hx1,hx1r⟩:=u7 0 _ rfl
    obtain ⟨x2,hx2,hx2r⟩:=u7 1 _ rfl
    have hc:c=#[x1,x2]:=by
      match c,u6,hx1,hx2 with
      | ⟨[y1,y2]⟩,_,hx1,hx2=>cases hx1; cases hx2; rfl
    subst hc
    have hpm7:=hpm6.back (A':=apart (L1 r (nodesL (r.rw.take k)) k) ρ6 S6) hn (fun x hx=>apart_less hless hx) (loN r k (lo (c1 r k).cn)) (hiN r k (hi (c1 r k).cn)) u3 u1 ⟨T',x1,x2,u5,hx1r.cellρ E_good (pcell_cell r _),hx2r.cellρ E_good (pcell_cell r _)⟩
    have hgood:=good_step hk hg (fun hm=>absurd hn hm) (lo (c1 r k).cn) (hi (c1 r k).cn) (fun _=>⟨rfl,rfl⟩) (fun hm=>absurd hn hm)
    rw [← hnodes] at hH7 hpm7
    exact fin1 (by omega) hH7 (by simpa using hp) hgood hpm7 hQ
  · 
    have hrun:=(pm_look hpm3 (c1 r k).cn hcl true).2 hn rfl
    refine wpOps_hand (v := .tuple #[.pointer none,.bool false]) (w':=w3) lk9_at lk9_guard (exec_look lk9_op hm hs hrun) ?_
    rw [lk9_dst]
    have hH4:Held X w0 S0 S3 ρ3 pin ⟨(37,.tup [.nilp,.bool false]) :: t9 r k,hL r (nodesL (r.rw.take k))⟩ (a3.put (some 37) (.tuple #[.pointer none,.bool false])) w3:=hH3.slot (by decide) (.tup _ _ rfl fun i c v hc hv=>by
      match i,hc,hv with
      | 0,hc,hv=>cases hc; cases hv; exact .nilp
      | 1,hc,hv=>cases hc; cases hv; exact .bool false)
    rw [show List.range' (5+1) 5=List.range' 6 (o9.toList.drop 6++[]).length by kernel_rfl]
    refine Held.ops ok okM hst [] (o9.toList.drop 6) 6 hH4 hpm3 (List.append_nil _).symm (no_guard (by kernel_rfl)) (e9c r _ k) fun S5 ρ5 a5 w5 hH5 hpm5 => ?_
    show (cdp (bb++[1,1,1]) bd).wp Tryz.prog _ a5 w5
    refine wp_eq (c' := .seq (cdp (bb++[1,1,1,0]) bd) (cdp (bb++[1,1,1,1]) bd)) (by kernel_rfl) (wp_seq ?_)
    refine Held.on ok okM hst (c1:=cdp (bb++[1,1,1,0,0]) bd) (c2:=cdp (bb++[1,1,1,0,1]) bd) (by kernel_rfl) hH5 hpm5 (e10 r _ k) fun S6 ρ6 a6 w6 hH6 hpm6 => ?_
    refine wp_eq (c' := .cond (.tmp 41) (cdp nb bd) (cdp (bb++[1,1,1,0,1,1]) bd)) (by kernel_rfl) (wp_cond_true (bool_at hH6 (by rfl)) ?_)
    refine Held.on ok okM hst (c1:=cdp (nb++[0]) bd) (c2:=cdp (nb++[1]) bd) (by kernel_rfl) hH6 hpm6 (e11 r _ k) fun S7 ρ7 a7 w7 hH7 hpm7 => ?_
    refine wp_eq (c' := .seq (cdp (nb++[1,0]) bd) (cdp (nb++[1,1]) bd)) (by kernel_rfl) (wp_seq ?_)
    refine wp_eq (c' := .region 12 o12 false) (by kernel_rfl) (wp_region ?_)
    rw [show List.range o12.size=List.range' 0 (o12.toList.take 6++o12.toList.drop 6).length by kernel_rfl]
    refine Held.ops ok okM hst (o12.toList.drop 6) (o12.toList.take 6) 0 hH7 hpm7 (List.take_append_drop 6 _).symm (no_guard (by kernel_rfl)) (e12 r _ k) fun S8 ρ8 a8 w8 hH8 hpm8 => ?_
    rw [show 0+(o12.toList.take 6).length=6 by kernel_rfl,show (o12.toList.drop 6).length=0+1 by kernel_rfl]
    have hm8:a8.eval (.tmp 44) = .map (some mb):=map_at hH8 (by rfl) hp (by rfl)
    have hs8:a8.eval (.tmp 48) = .string ⟨(c1 r k).cn.toArray⟩:=str_at hH8 (by rfl)
    obtain ⟨l,hl,hH9⟩:=hH8.pinbox (J:=43) rfl (by kernel_rfl)
    have hp8:a8.eval (.tmp 49) = .pointer (some ⟨l.b,0,none⟩):=ptr_at hH8 hl (by rfl)
    obtain ⟨l',z1,z2⟩:=hH8.inv.heap.get 43 (.box 0 [.nilp,.nilp]) (by rfl)
    rw [hl] at z1; cases z1
    have hln:l.n=2:=z2.2.1
    have zin:InHeap (b43 :: hL r (nodesL (r.rw.take k))) ρ8 l.b:=⟨43,.box 0 [.nilp,.nilp],l,by rfl,hl,by omega,rfl⟩
    obtain ⟨w9,hput,hgr,hpm9⟩:=pm_put hpm8 (c1 r k).cn hcl hn (by have:=nodes_le (r.rw.take k); rw [List.length_take] at this; omega) l.b (hH8.own _ zin) (fun hA=>hA.1 zin) (fun x hx=>⟨hH8.inv.heap.lt x hx,fun e=>hpm8.mA.2 (by rw [← e]; exact hx)⟩)
    refine wpOps_skip (w':=w9) mu12_at mu12_guard (exec_put mu12_op hm8 hs8 hp8 hput) ?_
    rw [mu12_dst]
    show (cdp (nb++[1,1]) bd).wp Tryz.prog _ a8 w9
    have hin9:∀ x,InHeap (p43 .nilp .nilp :: hL r (nodesL (r.rw.take k))) ρ8 x→InHeap (b43 :: hL r (nodesL (r.rw.take k))) ρ8 x:=by
      rintro x ⟨id,b,l2,g1,g2⟩
      simp only [hget] at g1
      by_cases e:43=id
      · subst e; exact ⟨43,.box 0 [.nilp,.nilp],l2,by rfl,g2⟩
      · rw [nbeq_ne e] at g1; exact ⟨id,b,l2,by simp only [hget]; rw [nbeq_ne e]; exact g1,g2⟩
    have hH10:=hH9.world (w':=w9) (fun x hx=>hgr.block x (by
        rcases hx with hx | ⟨id,b,l2,g1,g2,g3,rfl⟩
        · exact hH9.inv.heap.lt x hx
        · obtain ⟨l3, e3, e4⟩ := hH9.inv.heap.get id b g1
          rw [g2] at e3; cases e3
          exact (e4.lt g3).1) (fun e=>by
        have:x=mb:=by cases e; rfl
        subst this
        rcases hx with hx | hx
        · exact hpm8.mA.2 hx
        · exact hpm8.mA.1 (hin9 _ hx))) ⟨hgr.os, hgr.tape, hgr.output, hgr.size, fun d_ => False.elim d_, fun x hx hnx => hgr.block x hx fun e => by
          have:x=mb:=by cases e; rfl
          subst this
          exact hnx hpm8.mg⟩
    have hst9:=pm_stable r w0.heap.size mb (nodesL (r.rw.take k)++[(c1 r k).cn]) (fun m=>if m=(c1 r k).cn then l.b else bk m) lo hi (some (c1 r k).cn)
    have hpm10:PM r w0.heap.size mb (nodesL (r.rw.take k)++[(c1 r k).cn]) (fun m=>if m=(c1 r k).cn then l.b else bk m) lo hi (some (c1 r k).cn) (apart (L12p r (nodesL (r.rw.take k)) k) ρ8 S8) S8 w9 :=
      hst9 _ _ S8 S8 w9 w9 (fun _ h=>h) (fun _ _=>rfl) (Nat.le_refl _) (fun x hx hA=>⟨⟨fun hx'=>hA.1 (hin9 _ hx'),hA.2⟩,rfl⟩) hpm9
    have hnl:=nodes_le (r.rw.take k)
    rw [List.length_take] at hnl
    refine Held.end1 ok okM hst9 (st:=L12p r (nodesL (r.rw.take k)) k) hH10 hpm10 ((e13 r _ k).trans (by
      rw [nleT (show (List.length (nodesL (r.rw.take k))+List.length ([(c1 r k).cn]:List (List UInt8))) * 16≤140737488355328 by simp; omega),nleT (show List.length (nodesL (r.rw.take k))+List.length ([(c1 r k).cn]:List (List UInt8))≤9223372036854775807 by simp; omega)]; rfl)) fun S11 ρ11 a11 w11 hH11 hpm11 => ?_
    show (cdp (bb++[1,1,1,1]) bd).wp Tryz.prog _ a11 w11
    refine Held.end1 ok okM hst9 (st:=L13 r (nodesL (r.rw.take k)++[(c1 r k).cn]) k) hH11 hpm11 (e14 r _ k) fun S12 ρ12 a12 w12 hH12 hpm12 => ?_
    have hnodes:nodesL (r.rw.take (k+1))=nodesL (r.rw.take k)++[(c1 r k).cn]:=by rw [take_c1 hk,nodes_snoc,addN_no hn]
    have hbk:(if (c1 r k).cn=(c1 r k).cn then l.b else bk (c1 r k).cn)=l.b:=if_pos rfl
    obtain ⟨u1,u2,u3,u4,c,T',u5,u6,u7⟩:=hH12.unbox (J:=43) (l:=l) (by rfl) (by decide) (by simp) (by simp) (zipT s1 (vM r k)) (hM r (nodesL (r.rw.take k)++[(c1 r k).cn])) (fun id b hb=>by
      refine ⟨fun e => ?_,?_⟩
      · subst e; cases hb
      · by_cases e : 43 = id
        · subst e; cases hb
        · simp only [hget]; rw [nbeq_ne e]; exact hb)
    have hless:∀ id b,hget (hM r (nodesL (r.rw.take k)++[(c1 r k).cn])) id=some b→hget (p43 (pcell r (loN r k none)) (pcell r (hiN r k none)) :: hM r (nodesL (r.rw.take k)++[(c1 r k).cn])) id=some b:=fun id b hb=>by
      by_cases e:43=id
      · subst e; cases hb
      · simp only [hget]; rw [nbeq_ne e]; exact hb
    have hH13:Held X w0 S0 S12 ρ12 _ (M1 r (nodesL (r.rw.take k)++[(c1 r k).cn]) k) a12 w12:=hH12.less (fun i => .inr rfl) hless
    obtain ⟨x1,hx1,hx1r⟩:=u7 0 _ rfl
    obtain ⟨x2,hx2,hx2r⟩:=u7 1 _ rfl
    have hc:c=#[x1,x2]:=by
      match c,u6,hx1,hx2 with
      | ⟨[y1,y2]⟩,_,hx1,hx2=>cases hx1; cases hx2; rfl
    subst hc
    have hpm13:=hpm12.back (A':=apart (M1 r (nodesL (r.rw.take k)++[(c1 r k).cn]) k) ρ12 S12) (by simp) (fun x hx=>apart_less hless hx) (loN r k none) (hiN r k none) (by rw [hbk]; exact u3) (by rw [hbk]; exact u1) ⟨T',x1,x2,by rw [hbk]; exact u5,hx1r.cellρ E_good (pcell_cell r _),hx2r.cellρ E_good (pcell_cell r _)⟩
    obtain ⟨S14,ρ14,hH14,hpm14⟩:=hH13.norm ok (pm_stable r w0.heap.size mb _ _ _ _ none) hpm13 (nM r _ k)
    obtain ⟨nn1,nn2⟩:=new_none hn
    have hgood:=good_step hk hg (fun _ l1 h1 e1 e2=>by
      subst e1 e2
      rw [nn1,nn2]
      exact ⟨⟨rfl,fun j e=>by cases e⟩,rfl,fun j e=>by cases e⟩) none none (fun hm=>absurd hm hn) (fun _=>⟨rfl,rfl⟩)
    rw [← hnodes] at hH14 hpm14
    exact fin1 (by omega) hH14 (by simpa using hp) hgood hpm14 hQ
end usimpler
end Go.Proofs.YtlkfbblapimhoaaGreatDoor
