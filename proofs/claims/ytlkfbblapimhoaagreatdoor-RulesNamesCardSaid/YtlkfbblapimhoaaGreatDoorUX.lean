/- rules.Simpler: both loops, the whole walk, and the contract. -/
import Derived.Test.YtlkfbblapimhoaaGreatDoorUW
namespace Go.Proofs.YtlkfbblapimhoaaGreatDoor
set_option linter.unusedSectionVars false
set_option linter.unusedSimpArgs false
set_option linter.unusedVariables false
set_option maxRecDepth 100000
namespace usimpler
theorem loop1 (r:Rule) (hlen:r.rw.length≤20) (hnm:∀ c∈r.rw,c.cn.length≤100) {w0:World} {S0:Nat→Prop} {mb:Nat} {Q:Exit→Act→World→Prop} (hQ:∀ a' w',At1 r w0 S0 mb r.rw.length a' w'→Q (.exit 0) a' w') :
    ∀ (n k:Nat) (a:Act) (w:World),r.rw.length < n+k→k≤r.rw.length→At1 r w0 S0 mb k a w→Code.rounds Tryz.prog (cdp lb bd) Q n a w:=by
  intro n
  induction n with
  | zero=>intro k a w h1 h2; omega
  | succ n ih =>
    intro k a w h1 h2 h
    obtain ⟨S,ρ,pin,bk,lo,hi,hH,hp,hg,hpm⟩:=h.ex
    have hst:=pm_stable r w0.heap.size mb (nodesL (r.rw.take k)) bk lo hi none
    show (cdp lb bd).wp Tryz.prog (Exit.then (Code.rounds Tryz.prog (cdp lb bd) Q n) Q) a w
    refine Held.on ok okM hst (c1:=cdp (lb++[0]) bd) (c2:=cdp (lb++[1]) bd) (by kernel_rfl) hH hpm (e6 r _ k) fun S1 ρ1 a1 w1 hH1 hpm1 => ?_
    refine wp_eq (c' := .seq (cdp (lb++[1,0]) bd) (cdp (lb++[1,1]) bd)) (by kernel_rfl) (wp_seq ?_)
    by_cases hk:k < r.rw.length
    · rw [iltT (show (k : Int) < Int.ofNat r.rw.length by simp; omega)] at hH1 hpm1
      refine Held.end1 ok okM hst (st:=L6 r _ k true) hH1 hpm1 (e6t r _ k) fun S2 ρ2 a2 w2 hH2 hpm2 => ?_
      exact round1 r hlen hnm hk ⟨S2,ρ2,pin,bk,lo,hi,hH2,hp,hg,hpm2⟩ fun a' w' h'=>ih (k+1) a' w' (by omega) hk h'
    · have hke : k = r.rw.length := by omega
      rw [iltF (show ¬ (k:Int) < Int.ofNat r.rw.length by simp; omega)] at hH1 hpm1
      refine Held.out ok okM hst 0 (st:=L6 r _ k false) hH1 hpm1 (e6f r _ k) fun S2 ρ2 a2 w2 hH2 hpm2 => ?_
      rw [hke] at hH2 hpm2 hg
      exact hQ a2 w2 ⟨S2,ρ2,pin,bk,lo,hi,hH2,hp,hg,hpm2⟩
noncomputable def outU (r:Rule) (k:Nat):List Cnd:=((nodesL r.rw).take k).flatMap fun n=>pairL n r.rw
def GoodA (r:Rule) (lo hi:List UInt8→Option Nat):Prop:=∀ n∈nodesL r.rw,OK1 r (lo n) (lowO n r.rw)∧OK1 r (hi n) (highO n r.rw)
structure At2 (r:Rule) (w0:World) (S0:Nat→Prop) (mb k:Nat) (a:Act) (w:World):Prop where
  ex:∃ S ρ pin bk lo hi,Held X w0 S0 S ρ pin (L2 r (nodesL r.rw) k (outU r k)) a w∧pin 7000=some (mbL mb)∧GoodA r lo hi∧PM r w0.heap.size mb (nodesL r.rw) bk lo hi none (apart (L2 r (nodesL r.rw) k (outU r k)) ρ S) S w
theorem pair_len (n:List UInt8) (l:List Cnd):(pairL n l).length≤2:=by
  unfold pairL
  rw [List.length_append]
  cases lowO n l<;>cases highO n l<;>simp
theorem outU_len (r:Rule) (k:Nat):(outU r k).length≤2 * k:=by
  unfold outU
  have:∀ l:List (List UInt8),(l.flatMap fun n=>pairL n r.rw).length≤2 * l.length:=by
    intro l
    induction l with
    | nil=>simp
    | cons n l ih =>
      rw [List.flatMap_cons,List.length_append,List.length_cons]
      have:=pair_len n r.rw
      omega
  have h1:=this ((nodesL r.rw).take k)
  have h2:((nodesL r.rw).take k).length≤k:=by rw [List.length_take]; omega
  omega
theorem outU_succ {r:Rule} {k:Nat} (hk:k < (nodesL r.rw).length):outU r (k+1)=outU r k++pairL (nodesL r.rw)[k] r.rw:=by
  unfold outU
  rw [take_lt hk,List.flatMap_append]
  simp
noncomputable def lk23 : Oper := (o23[2]?).getD ⟨none, .move (.const undef), 0, "", #[], none⟩
theorem lk23_at:o23[2]? = some lk23:=by kernel_rfl
theorem lk23_op:lk23.op = .lookup 138 (.tmp 132) (.tmp 133) false:=by kernel_rfl
theorem lk23_dst:lk23.dst=some 134:=by kernel_rfl
theorem lk23_guard:lk23.guard=none:=by kernel_rfl
theorem fitsT {out:List Cnd} {c:Cnd} (h:out.length≤1000):fits out c=true:=by
  unfold fits
  rw [nleT (show (List.length out+List.length ([c]:List Cnd)) * 32≤140737488355328 by simp; omega),nleT (show List.length out+List.length ([c]:List Cnd)≤9223372036854775807 by simp; omega)]
  rfl
noncomputable def cL (r:Rule):Option Nat→List Cnd
  | none=>[]
  | some p=>[c1 r p]
theorem inner (r:Rule) (ns:List (List UInt8)) {w0:World} {S0:Nat→Prop} {k:Nat} {lo hi:Option Nat} {out:List Cnd} (hout:out.length≤900) {S:Nat→Prop} {ρ:Rho} {pin:Nat→Option Loc} {a:Act} {w:World} {G:(Nat→Prop)→(Nat→Prop)→World→Prop} (hst:Stable G) {Q:Exit→Act→World→Prop}
    (h:Held X w0 S0 S ρ pin (I1 r ns k 0 (po r lo) (po r hi) out) a w) (hG:G (apart (I1 r ns k 0 (po r lo) (po r hi) out) ρ S) S w)
    (hQ:∀ S' ρ' a' w',Held X w0 S0 S' ρ' pin (L2 r ns k (out++cL r lo++cL r hi)) a' w'→G (apart (L2 r ns k (out++cL r lo++cL r hi)) ρ' S') S' w'→Q .normal a' w'):(cdp (bc++[1,1,1,1]) bd).wp Tryz.prog Q a w:=by
  refine wp_eq (c' := .block 5 (.loop (cdp ib bd))) (by kernel_rfl) (wp_block (wp_loop_rounds 3 ?_))
  rw [rounds_succ]
  have third:∀ S ρ a w out,Held X w0 S0 S ρ pin (I1 r ns k 2 (po r lo) (po r hi) out) a w→G (apart (I1 r ns k 2 (po r lo) (po r hi) out) ρ S) S w→(∀ S' ρ' a' w',Held X w0 S0 S' ρ' pin (L2 r ns k out) a' w'→G (apart (L2 r ns k out) ρ' S') S' w'→Q .normal a' w') →
      Code.rounds Tryz.prog (cdp ib bd) (Exit.inBlock 5 Q) 1 a w:=fun S ρ a w out h hG hQ=>by
    rw [rounds_succ]
    refine Held.out ok okM hst 5 h hG (i2 r ns k _ _ out) fun S' ρ' a' w' k1 k2 => ?_
    show (if (5:Nat)=5 then Q .normal a' w' else Q (.exit 5) a' w')
    rw [if_pos rfl]
    exact hQ S' ρ' a' w' k1 k2
  have second:∀ S ρ a w out,out.length≤950→Held X w0 S0 S ρ pin (I1 r ns k 1 (po r lo) (po r hi) out) a w→G (apart (I1 r ns k 1 (po r lo) (po r hi) out) ρ S) S w→(∀ S' ρ' a' w',Held X w0 S0 S' ρ' pin (L2 r ns k (out++cL r hi)) a' w'→G (apart (L2 r ns k (out++cL r hi)) ρ' S') S' w'→Q .normal a' w') →
      Code.rounds Tryz.prog (cdp ib bd) (Exit.inBlock 5 Q) 2 a w:=fun S ρ a w out hout h hG hQ=>by
    rw [rounds_succ]
    cases hi with
    | none =>
      refine Held.end1 ok okM hst h hG (i1N r ns k _ out) fun S' ρ' a' w' k1 k2 => ?_
      refine third S' ρ' a' w' out k1 k2 ?_
      simpa [cL] using hQ
    | some q =>
      refine Held.end1 ok okM hst h hG ((i1S r ns k q _ out).trans (by rw [fitsT (by omega)]; rfl)) fun S' ρ' a' w' k1 k2 => ?_
      obtain ⟨S2,ρ2,g1,g2⟩:=Held.norm ok hst (st:=J1 r ns k 2 _ _ _) k1 k2 (nJ r ns k 2 _ _ _)
      exact third S2 ρ2 a' w' _ g1 g2 hQ
  cases lo with
  | none =>
    refine Held.end1 ok okM hst h hG (i0N r ns k _ out) fun S' ρ' a' w' k1 k2 => ?_
    refine second S' ρ' a' w' out (by omega) k1 k2 ?_
    simpa [cL] using hQ
  | some p =>
    refine Held.end1 ok okM hst h hG ((i0S r ns k p _ out).trans (by rw [fitsT (by omega)]; rfl)) fun S' ρ' a' w' k1 k2 => ?_
    obtain ⟨S2,ρ2,g1,g2⟩:=Held.norm ok hst (st:=J1 r ns k 1 _ _ _) k1 k2 (nJ r ns k 1 _ _ _)
    exact second S2 ρ2 a' w' _ (by simp; omega) g1 g2 hQ
theorem cL_lo {r:Rule} {o:Option Nat} {c:Option Cnd} (h:OK1 r o c):cL r o=c.toList:=by
  rw [← h.1]; cases o<;>rfl
theorem clN_eq {r:Rule} {lo hi:Option Nat} {c d:Option Cnd} (h1:OK1 r lo c) (h2:OK1 r hi d):clN r lo hi=clashB c d:=by
  rw [← h1.1,← h2.1]; cases lo<;>cases hi<;>rfl
abbrev Ends (r:Rule) (w0:World) (S0:Nat→Prop) (Q:Exit→Act→World→Prop):Prop:=∀ st' a' w',StRel X (From w0) S0 w0 st' a' w'→RR st'=some (rv (simR r) (simE r),[])→Q .ret a' w'
set_option maxHeartbeats 1000000 in
theorem round2 (r:Rule) (hv:ruleB r=true) (hlen:r.rw.length≤20) (hnm:∀ c∈r.rw,c.cn.length≤100) {w0:World} {S0:Nat→Prop} {mb k:Nat} {a:Act} {w:World} (hk:k < (nodesL r.rw).length) (h:At2 r w0 S0 mb k a w) {Q:Exit→Act→World→Prop}
    (hR:Ends r w0 S0 Q) (hQ:clashB (lowO (nodesL r.rw)[k] r.rw) (highO (nodesL r.rw)[k] r.rw)=false→∀ a' w',At2 r w0 S0 mb (k+1) a' w'→Q .normal a' w'):(cdp (lc++[1,1]) bd).wp Tryz.prog Q a w:=by
  obtain ⟨S,ρ,pin,bk,lo,hi,hH,hp,hg,hpm⟩:=h.ex
  have hns:=nodes_le r.rw
  have hst:=pm_stable r w0.heap.size mb (nodesL r.rw) bk lo hi none
  have hnk:List.getD (nodesL r.rw) k d_str=(nodesL r.rw)[k]:=getD_lt hk _
  have hn:(nodesL r.rw)[k]∈nodesL r.rw:=List.getElem_mem hk
  obtain ⟨n,hnE⟩:∃ n,(nodesL r.rw)[k]=n:=⟨_,rfl⟩
  rw [hnE] at hnk hn hQ
  have hcl:n.length≤maxLen:=by
    obtain ⟨c,hc,he⟩:=mem_nodes.1 hn
    rw [← he]
    exact mlen (hnm c hc)
  obtain ⟨hgl,hgh⟩:=hg n hn
  refine wp_eq (c' := .seq (cdp (lc++[1,1,0]) bd) (cdp (lc++[1,1,1]) bd)) (by kernel_rfl) (wp_seq ?_)
  refine wp_eq (c' := .block 4 (cdp bc bd)) (by kernel_rfl) (wp_block ?_)
  refine Held.on ok okM hst (c1:=cdp (bc++[0]) bd) (c2:=cdp (bc++[1]) bd) (by kernel_rfl) hH hpm ((e22 r _ k _).trans (by rw [inbT hk,hnk]; rfl)) fun S1 ρ1 a1 w1 hH1 hpm1 => ?_
  refine wp_eq (c' := .seq (cdp (bc++[1,0]) bd) (cdp (bc++[1,1]) bd)) (by kernel_rfl) (wp_seq ?_)
  refine wp_eq (c' := .region 23 o23 false) (by kernel_rfl) (wp_region ?_)
  rw [show List.range o23.size=List.range' 0 (o23.toList.take 2++o23.toList.drop 2).length by kernel_rfl]
  refine Held.ops ok okM hst (st:=L22 r _ k _ n) (o23.toList.drop 2) (o23.toList.take 2) 0 hH1 hpm1 (List.take_append_drop 2 _).symm (no_guard (by kernel_rfl)) (e23a r _ k _ n) fun S3 ρ3 a3 w3 hH3 hpm3 => ?_
  rw [show 0+(o23.toList.take 2).length=2 by kernel_rfl,show (o23.toList.drop 2).length=1+1 by kernel_rfl]
  have hm:a3.eval (.tmp 132) = .map (some mb):=map_at hH3 (by rfl) hp (by rfl)
  have hs:a3.eval (.tmp 133) = .string ⟨n.toArray⟩:=str_at hH3 (by rfl)
  have hrun:=(pm_look hpm3 n hcl false).1 hn
  simp only [Bool.false_eq_true,if_false] at hrun
  refine wpOps_hand (v := .pointer (some ⟨bk n,0,none⟩)) (w':=w3) lk23_at lk23_guard (exec_look lk23_op hm hs hrun) ?_
  rw [lk23_dst]
  obtain ⟨q1,q2,q3⟩:=hpm3.bx _ hn
  obtain ⟨q4,q5,T,v1,v2,q6,q7,q8⟩:=q3 (by simp)
  have hH4:=hH3.addbox ok (d:=134) (J:=9000) (b:=bk n) (cs:=[pcell r (lo n),pcell r (hi n)]) (v := .pointer (some ⟨bk n,0,none⟩)) (av := .ptr 9000 0)
    (by kernel_rfl) (by kernel_rfl) (by decide) (fun _=>⟨q5,q2,#[v1,v2],T,q6,rfl,fun j x hj=>by
      match j,hj with
      | 0,hj=>cases hj; exact ⟨v1,rfl,fun ρ'=>q7.cellρ E_good (pcell_cell r _)⟩
      | 1,hj=>cases hj; exact ⟨v2,rfl,fun ρ'=>q8.cellρ E_good (pcell_cell r _)⟩⟩)
    (fun ρ' hρ => .ptr 9000 0 _ hρ)
  have hpm4:=hpm3.out (A':=apart _ _ S3) _ hn fun x hx hne=>addbox_apart (d:=134) (J:=9000) (b:=bk n) (cs:=[pcell r (lo n),pcell r (hi n)]) (t:=(134,.ptr 9000 0) :: t23 (nodesL r.rw) k n) hx fun _=>hne
  have hst2:=pm_stable r w0.heap.size mb (nodesL r.rw) bk lo hi (some n)
  rw [show List.range' (2+1) 1=List.range' 3 (o23.toList.drop 3++[]).length by kernel_rfl]
  refine Held.ops ok okM hst2 [] (o23.toList.drop 3) 3 hH4 hpm4 (List.append_nil _).symm (no_guard (by kernel_rfl)) (e23b r _ k _ n _) fun S5 ρ5 a5 w5 hH5 hpm5 => ?_
  show (cdp (bc++[1,1]) bd).wp Tryz.prog _ a5 w5
  refine wp_eq (c' := .seq (cdp (bc++[1,1,0]) bd) (cdp (bc++[1,1,1]) bd)) (by kernel_rfl) (wp_seq ?_)
  have hce:=clN_eq hgl hgh
  cases hcb:clashB (lowO n r.rw) (highO n r.rw) with
  | true =>
    have e:=q24 r (nodesL r.rw) k (outU r k) (lo n) (hi n)
    rw [hce,hcb] at e
    refine Held.back ok okM hst2 hH5 hpm5 e fun S6 ρ6 a6 w6 hH6 => ?_
    have hH7:Held X w0 S0 S6 ρ6 _ ⟨[(2,.ptr 2 0),(3,.int .i64 12)],[(2,.box 0 zc)]⟩ a6 w6:=hH6.cut (m:=0) (sl:=[2,3]) (ids:=[2]) (by rfl)
    refine hR _ a6 w6 (hH7.done fun id t cs hh=>plainTags_eq (by rfl) hh) ?_
    rw [r1]
    have hf:simF r.rw=true:=List.any_eq_true.2 ⟨n,hn,hcb⟩
    unfold simR simE
    rw [hv,hf]
    rfl
  | false =>
    have e:=q24 r (nodesL r.rw) k (outU r k) (lo n) (hi n)
    rw [hce,hcb] at e
    refine Held.end1 ok okM hst2 hH5 hpm5 e fun S6 ρ6 a6 w6 hH6 hpm6 => ?_
    show (cdp (bc++[1,1,1]) bd).wp Tryz.prog _ a6 w6
    refine Held.on ok okM hst2 (st:=L23 r _ k _ _ _) (c1:=cdp (bc++[1,1,1,0]) bd) (c2:=cdp (bc++[1,1,1,1]) bd) (by kernel_rfl) hH6 hpm6 (q26 r _ k _ _ _) fun S7 ρ7 a7 w7 hH7 hpm7 => ?_
    have hless:∀ id b,hget (hI r (po r (lo n)) (po r (hi n)) (outU r k)) id=some b→id≠9000∧hget (g9 (pcell r (lo n)) (pcell r (hi n)) :: hI r (po r (lo n)) (po r (hi n)) (outU r k)) id=some b:=fun id b hb=>by
      by_cases e:9000=id
      · subst e; cases hb
      · exact ⟨Ne.symm e,by simp only [hget]; rw [nbeq_ne e]; exact hb⟩
    obtain ⟨u1,u2,u3,u4,c,T',u5,u6,u7⟩:=hH7.unbox (J:=9000) (l:=⟨bk n,2,0,0⟩) (by rfl) (by decide) (by rfl) (by simp) (zipT s3 (vI (nodesL r.rw) k 0)) (hI r (po r (lo n)) (po r (hi n)) (outU r k)) hless
    have hH8:Held X w0 S0 S7 ρ7 _ (I1 r (nodesL r.rw) k 0 (po r (lo n)) (po r (hi n)) (outU r k)) a7 w7:=hH7.less (fun i => .inr rfl) fun id b hb=>(hless id b hb).2
    obtain ⟨x1,hx1,hx1r⟩:=u7 0 _ rfl
    obtain ⟨x2,hx2,hx2r⟩:=u7 1 _ rfl
    have hc:c=#[x1,x2]:=by
      match c,u6,hx1,hx2 with
      | ⟨[y1,y2]⟩,_,hx1,hx2=>cases hx1; cases hx2; rfl
    subst hc
    have hpm8:=hpm7.back (A':=apart (I1 r (nodesL r.rw) k 0 (po r (lo n)) (po r (hi n)) (outU r k)) ρ7 S7) hn (fun x hx=>apart_less (fun id b hb=>(hless id b hb).2) hx) (lo n) (hi n) u3 u1 ⟨T',x1,x2,u5,hx1r.cellρ E_good (pcell_cell r _),hx2r.cellρ E_good (pcell_cell r _)⟩
    have elo:(fun m=>if m=n then lo n else lo m)=lo:=funext fun m=>by by_cases e:m=n; rw [if_pos e,e]; rw [if_neg e]
    have ehi:(fun m=>if m=n then hi n else hi m)=hi:=funext fun m=>by by_cases e:m=n; rw [if_pos e,e]; rw [if_neg e]
    rw [elo,ehi] at hpm8
    have hol:=outU_len r k
    refine inner r (nodesL r.rw) (by omega) hst hH8 hpm8 fun S9 ρ9 a9 w9 hH9 hpm9 => ?_
    have hout:outU r k++cL r (lo n)++cL r (hi n)=outU r (k+1):=by
      rw [outU_succ hk,hnE,cL_lo hgl,cL_lo hgh,List.append_assoc]
      rfl
    rw [hout] at hH9 hpm9
    have e:=e32 r (nodesL r.rw) k (outU r (k+1))
    rw [wrapS k (by omega)] at e
    show (cdp (lc++[1,1,1]) bd).wp Tryz.prog Q a9 w9
    exact Held.end1 ok okM hst hH9 hpm9 e fun S' ρ' a' w' k1 k2=>hQ hcb a' w' ⟨S',ρ',_,bk,lo,hi,k1,by simpa using hp,hg,k2⟩
theorem loop2 (r : Rule) (hv : ruleB r = true) (hlen : r.rw.length ≤ 20) (hnm : ∀ c ∈ r.rw, c.cn.length ≤ 100) {w0 : World} {S0 : Nat → Prop} {mb : Nat} {Q : Exit → Act → World → Prop} (hR : Ends r w0 S0 Q) (hQ : simF r.rw = false → ∀ a' w', At2 r w0 S0 mb (nodesL r.rw).length a' w' → Q (.exit 3) a' w') :
    ∀ (n k:Nat) (a:Act) (w:World),(nodesL r.rw).length < n+k→k≤(nodesL r.rw).length→(∀ j (hj:j < (nodesL r.rw).length),j < k→clashB (lowO (nodesL r.rw)[j] r.rw) (highO (nodesL r.rw)[j] r.rw)=false)→At2 r w0 S0 mb k a w→Code.rounds Tryz.prog (cdp lc bd) Q n a w:=by
  intro n
  induction n with
  | zero=>intro k a w h1 h2; omega
  | succ n ih =>
    intro k a w h1 h2 hno h
    obtain ⟨S,ρ,pin,bk,lo,hi,hH,hp,hg,hpm⟩:=h.ex
    have hst:=pm_stable r w0.heap.size mb (nodesL r.rw) bk lo hi none
    show (cdp lc bd).wp Tryz.prog (Exit.then (Code.rounds Tryz.prog (cdp lc bd) Q n) Q) a w
    refine Held.on ok okM hst (c1:=cdp (lc++[0]) bd) (c2:=cdp (lc++[1]) bd) (by kernel_rfl) hH hpm (e21 r _ k _) fun S1 ρ1 a1 w1 hH1 hpm1 => ?_
    refine wp_eq (c' := .seq (cdp (lc++[1,0]) bd) (cdp (lc++[1,1]) bd)) (by kernel_rfl) (wp_seq ?_)
    by_cases hk:k < (nodesL r.rw).length
    · rw [iltT (show (k : Int) < Int.ofNat (nodesL r.rw).length by simp; omega)] at hH1 hpm1
      refine Held.end1 ok okM hst (st:=L21 r _ k _ true) hH1 hpm1 (e21t r _ k _) fun S2 ρ2 a2 w2 hH2 hpm2 => ?_
      refine round2 r hv hlen hnm hk ⟨S2,ρ2,pin,bk,lo,hi,hH2,hp,hg,hpm2⟩ (fun st' a' w' h1 h2=>hR st' a' w' h1 h2) fun hc a' w' h'=>ih (k+1) a' w' (by omega) hk (fun j hj hjk => ?_) h'
      by_cases e:j=k
      · subst e; exact hc
      · exact hno j hj (by omega)
    · have hke : k = (nodesL r.rw).length := by omega
      rw [iltF (show ¬ (k:Int) < Int.ofNat (nodesL r.rw).length by simp; omega)] at hH1 hpm1
      refine Held.out ok okM hst 3 (st:=L21 r _ k _ false) hH1 hpm1 (e21f r _ k _) fun S2 ρ2 a2 w2 hH2 hpm2 => ?_
      have hF:simF r.rw=false:=by
        unfold simF
        rw [List.any_eq_false]
        intro n hn
        obtain ⟨j,hj,rfl⟩:=List.mem_iff_getElem.1 hn
        rw [hno j hj (by omega)]
        simp
      subst hke
      exact hQ hF a2 w2 ⟨S2,ρ2,pin,bk,lo,hi,hH2,hp,hg,hpm2⟩
def triv:(Nat→Prop)→(Nat→Prop)→World→Prop:=fun _ _ _=>True
theorem triv_stable:Stable triv:=fun _ _ _ _ _ _ _ _ _ _ _=>trivial
noncomputable def o3:Array Oper:=opsOf (cdp [1,1,0] bd)
noncomputable def mk3 : Oper := (o3[0]?).getD ⟨none, .move (.const undef), 0, "", #[], none⟩
theorem mk3_at:o3[0]? = some mk3:=by kernel_rfl
theorem mk3_op:mk3.op = .makeMap 138 none:=by kernel_rfl
theorem mk3_dst:mk3.dst=some 20:=by kernel_rfl
theorem mk3_guard:mk3.guard=none:=by kernel_rfl
theorem exec_make {o:Oper} {ev:Operand→Value} {w:World} (hop:o.op = .makeMap 138 none):(execOp ev o).run Tryz.prog w = .ok (.value (.map (some w.heap.size))) (w.alloc (.map #[] 0)):=by
  simp [execOp,hop,Instr.makeMap,Result.andThen]
theorem name_len {s:List UInt8} (h:nameB s=true):s.length≤20:=by
  unfold nameB at h
  simp only [Bool.and_eq_true] at h
  have:=ileI h.2.1
  simp at this
  omega
set_option maxHeartbeats 1000000 in
theorem walk (r : Rule) (S : Nat → Prop) (w : World) (a : Act) (hG : X.E.G w) (h0 : StRel X (From w) S w ⟨args0 [.agg (rc r)] 0, []⟩ a w) (Q : Exit → Act → World → Prop)
    (hk:∀ st' a' w',StRel X (From w) S w st' a' w'→RR st'=some (rv (simR r) (simE r),[])→Q .normal a' w'∧Q .ret a' w'):bd.wp Tryz.prog Q a w:=by
  obtain ⟨S1,ρ1,hi⟩:=h0
  have hR:Ends r w S Q:=fun st' a' w' h1 h2=>(hk st' a' w' h1 h2).2
  have hH:=Held.start hi (fun id t cs hh=>by cases hh)
  refine Held.on ok okM triv_stable (c1:=cdp [0] bd) (c2:=cdp [1] bd) (by kernel_rfl) hH trivial (e0 r) fun S2 ρ2 a2 w2 hH2 _ => ?_
  refine wp_eq (c' := .seq (cdp [1,0] bd) (cdp [1,1] bd)) (by kernel_rfl) (wp_seq ?_)
  cases hv:ruleB r with
  | false =>
    have e:=e1 r
    rw [hv] at e
    refine Held.back ok okM triv_stable (st:=A1 r) hH2 trivial e fun S3 ρ3 a3 w3 hH3 => ?_
    have hH4:Held X w S S3 ρ3 _ ⟨[(2,.ptr 2 0),(3,.int .i64 1)],[(2,.box 0 zc)]⟩ a3 w3:=hH3.cut (m:=0) (sl:=[2,3]) (ids:=[2]) (by rfl)
    refine hR _ a3 w3 (hH4.done fun id t cs hh=>plainTags_eq (by rfl) hh) ?_
    rw [r1]
    unfold simR simE
    rw [hv]
    rfl
  | true =>
    have hv':=hv
    unfold ruleB at hv'
    simp only [Bool.and_eq_true,Bool.not_eq_true'] at hv'
    have hlen:r.rw.length≤20:=by have:=iltN hv'.2.2.1; simp at this; omega
    have hnm:∀ c∈r.rw,c.cn.length≤100:=fun c hc=>by
      have hh:=List.all_eq_true.1 hv'.2.2.2.2 c hc
      unfold cndB at hh
      simp only [Bool.and_eq_true] at hh
      have:=name_len hh.1
      omega
    have e:=e1 r
    rw [hv] at e
    refine Held.end1 ok okM triv_stable (st:=A1 r) hH2 trivial e fun S3 ρ3 a3 w3 hH3 _ => ?_
    show (cdp [1,1] bd).wp Tryz.prog Q a3 w3
    refine wp_eq (c' := .seq (cdp [1,1,0] bd) (cdp [1,1,1] bd)) (by kernel_rfl) (wp_seq ?_)
    refine wp_eq (c' := .region 3 o3 false) (by kernel_rfl) (wp_region ?_)
    rw [show List.range o3.size=List.range' 0 (1+1) by kernel_rfl]
    refine wpOps_hand (v := .map (some w3.heap.size)) (w':=w3.alloc (.map #[] 0)) mk3_at mk3_guard (exec_make mk3_op) ?_
    rw [mk3_dst]
    have hlt:∀ x,InHeap (A1 r).h ρ3 x→x < w3.heap.size:=by
      rintro x ⟨id,b,l2,g1,g2,g3,rfl⟩
      obtain ⟨l3,e3,e4⟩:=hH3.inv.heap.get id b g1
      rw [g2] at e3; cases e3
      exact (e4.lt g3).1
    have hH4:=hH3.world (w':=w3.alloc (.map #[] 0)) (fun x hx=>heap_alloc_old w3 _ x (by
        rcases hx with hx | hx
        · exact hH3.inv.heap.lt x hx
        · exact hlt x hx)) ⟨rfl,rfl,rfl,by simp,fun _=>Nat.le_refl _,fun x hx _=>heap_alloc_old w3 _ x hx⟩
    have hH5:=hH4.addbox ok (d:=20) (J:=7000) (b:=w3.heap.size) (cs:=[]) (v := .map (some w3.heap.size)) (av := .mp 7000) (by kernel_rfl) (by kernel_rfl) (by decide) (fun hc=>absurd rfl hc) (fun ρ' hρ => .mp 7000 _ hρ)
    have hpm:PM r w.heap.size w3.heap.size [] (fun _=>0) (fun _=>none) (fun _=>none) none (apart (⟨(20,.mp 7000) :: zipT [1,2,3] v3,g7 :: b2 r⟩:St U El) ((ρ3.del 7000).set 7000 ⟨w3.heap.size,([]:List (AV U El)).length,0,0⟩) S3) S3 (w3.alloc (.map #[] 0)):=by
      refine ⟨by simp,addbox_apart (st:=A1 r) (t:=(20,.mp 7000) :: zipT [1,2,3] v3) (d:=20) ⟨fun hx=>by have:=hlt _ hx; omega,fun hx=>by have:=hH3.inv.heap.lt _ hx; omega⟩ (fun hc=>absurd rfl hc),hH3.fr.size,⟨.map [],World.ownsMap_made w3 Tryz.prog 9 RP,⟨[],rfl⟩,fun n=>⟨⟨fun h => ?_,fun h => ?_⟩,fun h => ?_⟩⟩,fun n hn => ?_,fun n hn => ?_⟩
      · cases h
      · cases h
      · cases h
      · cases hn
      · cases hn
    have hst:=pm_stable r w.heap.size w3.heap.size [] (fun _=>0) (fun _=>none) (fun _=>none) none
    rw [show List.range' (0+1) 1=List.range' 1 (o3.toList.drop 1++[]).length by kernel_rfl]
    refine Held.ops ok okM hst [] (o3.toList.drop 1) 1 hH5 hpm (List.append_nil _).symm (no_guard (by kernel_rfl)) (e3 r) fun S6 ρ6 a6 w6 hH6 hpm6 => ?_
    show (cdp [1,1,1] bd).wp Tryz.prog Q a6 w6
    refine Held.on ok okM hst (st:=A2 r) (c1:=cdp [1,1,1,0] bd) (c2:=cdp [1,1,1,1] bd) (by kernel_rfl) hH6 hpm6 (e4 r) fun S7 ρ7 a7 w7 hH7 hpm7 => ?_
    refine wp_eq (c' := .seq (cdp [1,1,1,1,0] bd) (cdp [1,1,1,1,1] bd)) (by kernel_rfl) (wp_seq ?_)
    refine Held.on ok okM hst (st:=A4 r) (c1:=cdp [1,1,1,1,0,0] bd) (c2:=cdp [1,1,1,1,0,1] bd) (by kernel_rfl) hH7 hpm7 (e5 r) fun S8 ρ8 a8 w8 hH8 hpm8 => ?_
    obtain ⟨S9,ρ9,hH9,hpm9⟩:=Held.norm ok hst (st:=A5 r) hH8 hpm8 (n5 r)
    refine wp_eq (c' := .block 0 (.loop (cdp lb bd))) (by kernel_rfl) (wp_block (wp_loop_rounds 100 ?_))
    refine loop1 r hlen hnm (w0:=w) (S0:=S) (mb:=w3.heap.size) (fun a9 w9 hA => ?_) 100 0 a8 w8 (by omega) (by omega) ⟨S9,ρ9,_,fun _=>0,fun _=>none,fun _=>none,hH9,by rfl,(show GoodL r 0 (fun _=>none) (fun _=>none) from fun n hn=>by simp [nodesL] at hn),hpm9⟩
    simp only [Exit.inBlock,if_true]
    show (cdp [1,1,1,1,1] bd).wp Tryz.prog Q a9 w9
    obtain ⟨S10,ρ10,pin,bk,lo,hi',hH10,hp,hg,hpm10⟩:=hA.ex
    unfold GoodL at hg
    change PM r w.heap.size w3.heap.size (nodesL (r.rw.take r.rw.length)) bk lo hi' none (apart (L1 r (nodesL (r.rw.take r.rw.length)) r.rw.length) ρ10 S10) S10 w9 at hpm10
    rw [List.take_length] at hH10 hpm10 hg
    have hst2:=pm_stable r w.heap.size w3.heap.size (nodesL r.rw) bk lo hi' none
    refine Held.on ok okM hst2 (c1:=cdp [1,1,1,1,1,0] bd) (c2:=cdp [1,1,1,1,1,1] bd) (by kernel_rfl) hH10 hpm10 (e19 r _ _) fun S11 ρ11 a11 w11 hH11 hpm11 => ?_
    refine wp_eq (c' := .seq (cdp [1,1,1,1,1,1,0] bd) (cdp [1,1,1,1,1,1,1] bd)) (by kernel_rfl) (wp_seq ?_)
    refine Held.on ok okM hst2 (st:=B1 r _) (c1:=cdp [1,1,1,1,1,1,0,0] bd) (c2:=cdp [1,1,1,1,1,1,0,1] bd) (by kernel_rfl) hH11 hpm11 (e20 r _) fun S12 ρ12 a12 w12 hH12 hpm12 => ?_
    obtain ⟨S13,ρ13,hH13,hpm13⟩:=Held.norm ok hst2 (st:=B2 r _) hH12 hpm12 (n20 r _)
    have hns:=nodes_le r.rw
    have h00:outU r 0=[]:=rfl
    have hA2:At2 r w S w3.heap.size 0 a12 w12:=⟨S13,ρ13,pin,bk,lo,hi',by rw [h00]; exact hH13,hp,hg,by rw [h00]; exact hpm13⟩
    refine wp_eq (c' := .block 3 (.loop (cdp lc bd))) (by kernel_rfl) (wp_block (wp_loop_rounds 100 ?_))
    refine loop2 r hv hlen hnm (w0:=w) (S0:=S) (mb:=w3.heap.size) (Q:=Exit.inBlock 3 (Exit.then ((cdp [1,1,1,1,1,1,1] bd).wp Tryz.prog Q) Q)) (fun st' a' w' h1 h2=>hR st' a' w' h1 h2) (fun hF a14 w14 hA => ?_) 100 0 a12 w12 (by omega) (by omega) (fun j hj h=>by omega) hA2
    simp only [Exit.inBlock,if_true]
    show (cdp [1,1,1,1,1,1,1] bd).wp Tryz.prog Q a14 w14
    obtain ⟨S15,ρ15,pin',bk',lo',hi'',hH15,_,_,hpm15⟩:=hA.ex
    refine Held.back ok okM (pm_stable r w.heap.size w3.heap.size (nodesL r.rw) bk' lo' hi'' none) hH15 hpm15 (e33 r _ _ _) fun S16 ρ16 a16 w16 hH16 => ?_
    refine hR _ a16 w16 (hH16.done fun id t cs hh=>plainTags_eq (by rfl) hh) ?_
    refine (r2 r _).trans ?_
    unfold simR simE
    rw [hv,hF]
    have:outU r (nodesL r.rw).length=simC r.rw:=by unfold outU simC; rw [List.take_length]
    rw [this]
    rfl
theorem spec (r:Rule):CallSpec Tryz.prog E 24 [.agg (rc r)] (rv (simR r) (simE r)) [] :=
  runFnH_sound (X:=X) (nm:=nmR) (lds:=[(2,51)]) (res:=[192,3]) (ex:=[]) ok okM Tryz.call24 Tryz.func24 (by kernel_rfl) (by kernel_rfl) (by kernel_rfl) (by show 1≤192; decide) (by decide) (by rfl) (fun S w a hG h0 Q hk=>walk r S w a hG h0 Q hk)
noncomputable def sp:Sp U El:=fun args k=>match args with
  | [.agg [.str r_rn,.lst .cnd r_rw,.str r_rl,.int .i64 r_rs]]=>k (rv (simR (⟨r_rn,r_rw,r_rl,r_rs⟩:Rule)) (simE (⟨r_rn,r_rw,r_rl,r_rs⟩:Rule))) []
  | _=>none
theorem spOk:SpOk Tryz.prog E 24 sp where
  det:=fun vs=>by
    unfold sp
    split
    · exact ⟨some (_,_),fun _=>rfl⟩
    · exact ⟨none,fun _=>rfl⟩
  ok:=fun vs k r h=>by
    unfold sp at h
    split at h
    · exact ⟨_,_,spec ⟨_,_,_,_⟩,h⟩
    · cases h
end usimpler
end Go.Proofs.YtlkfbblapimhoaaGreatDoor
