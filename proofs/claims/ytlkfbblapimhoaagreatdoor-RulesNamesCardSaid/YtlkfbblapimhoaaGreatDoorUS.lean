/- rules.Simpler: the map from names to variables, as the walk keeps it apart. -/
import Derived.Test.YtlkfbblapimhoaaGreatDoorSM
import Derived.Test.YtlkfbblapimhoaaGreatDoorLZ
import Derived.Maps.OwnSet
import Derived.Maps.Views
namespace Go.Proofs.YtlkfbblapimhoaaGreatDoor
set_option linter.unusedSectionVars false
set_option linter.unusedSimpArgs false
set_option linter.unusedVariables false
set_option maxRecDepth 100000
open Go.Maps (has IsMap)
def RP (v:Value):Option (DataW Unit×List MemPlace):=match v with
  | .pointer (some a)=>if a.off=0∧a.spot=none then some (.lit (.int .i64 (a.block:Int)),[]) else none
  | .pointer none=>some (.lit (.int .i64 (-1)),[])
  | _=>none
theorem RP_at (b:Nat):RP (.pointer (some ⟨b,0,none⟩))=some (.lit (.int .i64 (b:Int)),[]):=by simp [RP]
theorem RP_inv {v:Value} {z:Int} {ps:List MemPlace} (h:RP v=some (.lit (.int .i64 z),ps)):(∃ b:Nat,z=(b:Int)∧v = .pointer (some ⟨b,0,none⟩))∨(z = -1∧v = .pointer none):=by
  unfold RP at h
  split at h
  · rename_i a
    split at h
    · rename_i hc
      simp only [Option.some.injEq,Prod.mk.injEq,DataW.lit.injEq,Lit.int.injEq,true_and] at h
      obtain ⟨b,o,f⟩:=a
      simp only at hc h
      refine .inl ⟨b,h.1.symm,?_⟩
      rw [hc.1,hc.2]
    · cases h
  · simp only [Option.some.injEq, Prod.mk.injEq, DataW.lit.injEq, Lit.int.injEq, true_and] at h
    exact .inr ⟨h.1.symm,rfl⟩
  · cases h
def pcell (r:Rule):Option Nat→AV U El
  | none => .nilp
  | some k => .pel .cnd r.rw k 0
structure PM (r:Rule) (base mb:Nat) (ns:List (List UInt8)) (bk:List UInt8→Nat) (lo hi:List UInt8→Option Nat) (ex:Option (List UInt8)) (A S:Nat→Prop) (w:World):Prop where
  mlt:mb < w.heap.size
  mA:A mb
  mg:base≤mb
  map:∃ D:DataW Unit,w.ownsMap Tryz.prog 9 RP mb ns.length D∧IsMap D∧∀ n:List UInt8,(has D (.string n)=true↔n∈ns)∧(n∈ns→∀ z,D.atKey (.string n) z = .lit (.int .i64 (bk n:Int)))
  bx:∀ n∈ns,bk n≠mb∧base≤bk n∧(some n≠ex→bk n < w.heap.size∧A (bk n)∧∃ T v1 v2,w.heap[bk n]? = some (.cells #[v1,v2] T (0,0))∧Rel E S (fun _=>none) w (pcell r (lo n)) v1∧Rel E S (fun _=>none) w (pcell r (hi n)) v2)
  inj:∀ n∈ns,∀ m∈ns,bk n=bk m→n=m
theorem pm_stable (r:Rule) (base mb:Nat) (ns:List (List UInt8)) (bk:List UInt8→Nat) (lo hi:List UInt8→Option Nat) (ex:Option (List UInt8)):Stable (PM r base mb ns bk lo hi ex):=by
  intro A A' S S' w w' hS hw hsz hk h
  obtain ⟨D,⟨es,clock,h1,h2⟩,h3⟩:=h.map
  refine ⟨Nat.lt_of_lt_of_le h.mlt hsz,(hk _ h.mlt h.mA).1,h.mg,⟨D,⟨es,clock,((hk _ h.mlt h.mA).2).trans h1,h2⟩,h3⟩,fun n hn => ?_,h.inj⟩
  obtain ⟨g1,g2,g3⟩:=h.bx n hn
  refine ⟨g1,g2,fun he => ?_⟩
  obtain ⟨g4,g5,T,v1,v2,g6,g7,g8⟩:=g3 he
  exact ⟨Nat.lt_of_lt_of_le g4 hsz,(hk _ g4 g5).1,T,v1,v2,((hk _ g4 g5).2).trans g6,g7.mono hS hw (fun _ _ h=>h),g8.mono hS hw (fun _ _ h=>h)⟩
theorem key_string (w:World) (n:List UInt8) (hn:n.length≤maxLen):keyOf Tryz.prog 9 (.string ⟨n.toArray⟩)=some (.string n):=by
  rw [keyOf_string Tryz.underlying9]
  simp [mapKey,Tryz.underlying9,hn,ByteArray.size]
theorem pm_look {r : Rule} {base mb : Nat} {ns : List (List UInt8)} {bk : List UInt8 → Nat} {lo hi : List UInt8 → Option Nat} {ex : Option (List UInt8)} {A S : Nat → Prop} {w : World} (h : PM r base mb ns bk lo hi ex A S w) (n : List UInt8) (hl : n.length ≤ maxLen) (ok : Bool) :
    (n∈ns→(Instr.lookup 138 (.map (some mb)) (.string ⟨n.toArray⟩) ok).run Tryz.prog w = .ok (if ok then .tuple #[.pointer (some ⟨bk n,0,none⟩),.bool true] else .pointer (some ⟨bk n,0,none⟩)) w) ∧
    (n ∉ ns→ok=true→(Instr.lookup 138 (.map (some mb)) (.string ⟨n.toArray⟩) true).run Tryz.prog w = .ok (.tuple #[.pointer none,.bool false]) w):=by
  obtain ⟨D,h1,h2,h3⟩:=h.map
  have K:=Maps.string_keyed (P:=Tryz.prog) (k:=9) Tryz.underlying9
  have hz:∀ w,(zeroValue 140).run Tryz.prog w = .ok (.pointer none) w:=Tryz.zeroValue140
  have hzd:RP (.pointer none)=some (.lit (.int .i64 (-1)),[]):=rfl
  have hkey:=key_string w n hl
  obtain ⟨g1,g2⟩:=h3 n
  constructor
  · intro hn
    cases ok with
    | true =>
      obtain ⟨v,ps,hrun,hv⟩:=h1.look_ok K Tryz.underlying138 (hz w) hzd hkey
      rw [g2 hn] at hv
      rw [g1.2 hn] at hrun
      rcases RP_inv hv with ⟨b,hb,rfl⟩ | ⟨hb,_⟩
      · have : b = bk n := by omega
        subst this
        exact hrun
      · omega
    | false =>
      obtain ⟨v,ps,hrun,hv⟩:=h1.lookup K Tryz.underlying138 (hz w) hzd hkey
      rw [g2 hn] at hv
      rcases RP_inv hv with ⟨b,hb,rfl⟩ | ⟨hb,_⟩
      · have : b = bk n := by omega
        subst this
        exact hrun
      · omega
  · intro hn _
    obtain ⟨v,ps,hrun,hv⟩:=h1.look_ok K Tryz.underlying138 (hz w) hzd hkey
    have hf:has D (.string n)=false:=by
      cases e:has D (.string n) with
      | false=>rfl
      | true=>exact absurd (g1.1 e) hn
    rw [Maps.atKey_of_not_has hf] at hv
    rw [hf] at hrun
    rcases RP_inv hv with ⟨b,hb,rfl⟩ | ⟨_,rfl⟩
    · omega
    · exact hrun
theorem pm_put {r : Rule} {base mb : Nat} {ns : List (List UInt8)} {bk : List UInt8 → Nat} {lo hi : List UInt8 → Option Nat} {A S : Nat → Prop} {w : World} (h : PM r base mb ns bk lo hi none A S w) (n : List UInt8) (hl : n.length ≤ maxLen) (hn : n ∉ ns) (hs : ns.length < 1000) (b : Nat)
    (hb:base≤b) (hbA:¬ A b) (hS:∀ k,S k→k < w.heap.size∧k≠mb) :
    ∃ w', (Instr.mapUpdate 138 (.map (some mb)) (.string ⟨n.toArray⟩) (.pointer (some ⟨b, 0, none⟩))).run Tryz.prog w = .ok () w' ∧ w.grownBy w' (some mb) ∧
      PM r base mb (ns++[n]) (fun m=>if m=n then b else bk m) lo hi (some n) A S w':=by
  obtain ⟨D,h1,h2,h3⟩:=h.map
  have K:=Maps.string_keyed (P:=Tryz.prog) (k:=9) Tryz.underlying9
  have hkey:=key_string w n hl
  obtain ⟨w',hrun,hown,hgr⟩:=h1.update K Tryz.underlying138 (Nat.lt_trans hs (by decide)) hkey (RP_at b)
  have hsz:=hgr.size
  refine ⟨w',hrun,hgr,?_⟩
  have hsame:∀ k,k < w.heap.size→k≠mb→w'.heap[k]? = w.heap[k]? := fun k hk hne=>hgr.block k hk (fun e=>hne (by cases e; rfl))
  refine ⟨Nat.lt_of_lt_of_le h.mlt hsz,h.mA,h.mg,⟨D.put (.string n) (.lit (.int .i64 (b:Int))),by simpa using hown,?_,fun m => ?_⟩,fun m hm => ?_,fun m hm m' hm' e => ?_⟩
  · obtain ⟨es, rfl⟩ := h2
    exact ⟨_,rfl⟩
  · by_cases e : m = n
    · subst e
      rw [Maps.has_put_same h2 (show WideAt.IsKeyLit (Lit.string m) from trivial)]
      refine ⟨by simp,fun _ z => ?_⟩
      rw [Maps.atKey_put_same h2 (show WideAt.IsKeyLit (Lit.string m) from trivial),if_pos rfl]
    · have hne : (Lit.string m) ≠ Lit.string n := fun h => e (by cases h; rfl)
      rw [Maps.has_put_other hne]
      refine ⟨(h3 m).1.trans (by simp [e]),fun hm z => ?_⟩
      rw [Maps.atKey_put_other hne,if_neg e]
      refine (h3 m).2 ?_ z
      rcases List.mem_append.1 hm with hm | hm
      · exact hm
      · exact absurd (List.mem_singleton.1 hm) e
  · by_cases e : m = n
    · subst e
      rw [if_pos rfl]
      exact ⟨fun e=>hbA (by rw [e]; exact h.mA),hb,fun he=>absurd rfl he⟩
    · rw [if_neg e]
      have hm':m∈ns:=by
        rcases List.mem_append.1 hm with hm | hm
        · exact hm
        · exact absurd (List.mem_singleton.1 hm) e
      obtain ⟨g1,g2,g3⟩:=h.bx m hm'
      refine ⟨g1,g2,fun _ => ?_⟩
      obtain ⟨g4,g5,T,v1,v2,g6,g7,g8⟩:=g3 (by simp)
      have hSw:∀ k,S k→w'.heap[k]? = w.heap[k]? := fun k hk=>hsame k (hS k hk).1 (hS k hk).2
      exact ⟨Nat.lt_of_lt_of_le g4 hsz,g5,T,v1,v2,(hsame _ g4 g1).trans g6,g7.mono (fun _ h=>h) hSw (fun _ _ h=>h),g8.mono (fun _ h=>h) hSw (fun _ _ h=>h)⟩
  · have old : ∀ x, x ∈ ns → x ≠ n → bk x ≠ b := fun x hx hxn e => by
      obtain ⟨_,_,g3⟩:=h.bx x hx
      obtain ⟨_,g5,_⟩:=g3 (by simp)
      exact hbA (by rw [← e]; exact g5)
    have mem:∀ x,x∈ns++[n]→x≠n→x∈ns:=fun x hx hxn=>by
      rcases List.mem_append.1 hx with hx | hx
      · exact hx
      · exact absurd (List.mem_singleton.1 hx) hxn
    by_cases e1:m=n<;>by_cases e2:m'=n
    · rw [e1,e2]
    · rw [if_pos e1, if_neg e2] at e
      exact absurd e.symm (old m' (mem m' hm' e2) e2)
    · rw [if_neg e1, if_pos e2] at e
      exact absurd e (old m (mem m hm e1) e1)
    · rw [if_neg e1, if_neg e2] at e
      exact h.inj m (mem m hm e1) m' (mem m' hm' e2) e
theorem PM.out {r:Rule} {base mb:Nat} {ns:List (List UInt8)} {bk:List UInt8→Nat} {lo hi:List UInt8→Option Nat} {A A' S:Nat→Prop} {w:World} (h:PM r base mb ns bk lo hi none A S w) (n:List UInt8) (hn:n∈ns) (hA:∀ k,A k→k≠bk n→A' k):PM r base mb ns bk lo hi (some n) A' S w:=by
  obtain ⟨g1,_,_⟩:=h.bx n hn
  refine ⟨h.mlt,hA _ h.mA (Ne.symm g1),h.mg,h.map,fun m hm => ?_,h.inj⟩
  obtain ⟨k1,k2,k3⟩:=h.bx m hm
  refine ⟨k1,k2,fun he => ?_⟩
  obtain ⟨g4,g5,g6⟩:=k3 (by simp)
  exact ⟨g4,hA _ g5 fun e=>he (by rw [h.inj m hm n hn e]),g6⟩
theorem PM.back {r:Rule} {base mb:Nat} {ns:List (List UInt8)} {bk:List UInt8→Nat} {lo hi:List UInt8→Option Nat} {A A' S:Nat→Prop} {w:World} {n:List UInt8} (h:PM r base mb ns bk lo hi (some n) A S w) (hn:n∈ns) (hA:∀ k,A k→A' k) (l' h':Option Nat)
    (hlt:bk n < w.heap.size) (hbA:A' (bk n)) (hb:∃ T v1 v2,w.heap[bk n]? = some (.cells #[v1,v2] T (0,0))∧Rel E S (fun _=>none) w (pcell r l') v1∧Rel E S (fun _=>none) w (pcell r h') v2) :
    PM r base mb ns bk (fun m=>if m=n then l' else lo m) (fun m=>if m=n then h' else hi m) none A' S w:=by
  refine ⟨h.mlt,hA _ h.mA,h.mg,h.map,fun m hm => ?_,h.inj⟩
  obtain ⟨k1,k2,k3⟩:=h.bx m hm
  refine ⟨k1,k2,fun _ => ?_⟩
  by_cases e:m=n
  · subst e
    rw [if_pos rfl,if_pos rfl]
    exact ⟨hlt,hbA,hb⟩
  · rw [if_neg e, if_neg e]
    obtain ⟨g4,g5,g6⟩:=k3 (fun h=>e (by cases h; rfl))
    exact ⟨g4,hA _ g5,g6⟩
end Go.Proofs.YtlkfbblapimhoaaGreatDoor
