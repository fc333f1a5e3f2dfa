/- slices.Delete of a row of rules of the caller's own. -/
import Derived.Test.YthdimnlkcgchoaaGreatV
import Derived.WalkKit
import Derived.ProofKit
import Derived.Handy
import Derived.Lib.Builder
import Derived.Lib.Strings
import Derived.Lib.Walk
import Derived.Shelf.RegionOpenPlain
import Derived.Laws.Externs
import Derived.Deep.LoopGhost
import Derived.Deep.RegionLaw
import Derived.Lib.SliceRun
import Derived.Sort.WalkB12
namespace Go.Proofs.YthdimnlkcgchoaaGreat
set_option linter.unusedSectionVars false
set_option linter.unusedSimpArgs false
set_option linter.unusedVariables false
open Go.ChangeShapes Go.WideShapes Go.ChangeAt Go.RowKit Go.Lib
theorem je {P:Program} {ops:Array Oper} {o:Oper} {a:Act} {w w':World} {K:Act→World→Prop} {Q:Exit→Act→World→Prop} {F:Prop} (hg:o.guard=none) (s x:Operand) (t:TypeId) (hop:o.op=Op.call { callee:=Callee.builtin Builtin.append,args:=#[s,x],argTypes:=#[t,t] })
    {vs vx v':Value} (hs:a.eval s=vs) (hx:a.eval x=vx) (hrun:(Builtin.append_ #[t,t] o.type #[vs,vx]).run P w = .ok v' w') (hK:K (a.put o.dst v') w') :
    if Region.wanted o (yielded ops a.tmps)=true then Oper.wp P o a w K Q else F:=by
  have hw:Region.wanted o (yielded ops a.tmps)=true:=by simp [Region.wanted,hg]
  rw [if_pos hw]
  unfold Oper.wp execOp
  simp only [hop,resolve,invoke,builtin,Sem.run_bind,Sem.run_pure,Result.andThen_ok,List.map_toArray,List.map_cons,List.map_nil,hs,hx,hrun]
  exact hK
set_option maxHeartbeats 4000000 in
set_option maxRecDepth 1000000 in
theorem nH (b i j n cap : Nat) (w : World) (cur : Array Value) (hb : w.heap[b]? = some (.cells cur 49 (0, 0))) (hij : i < j) (hj : j ≤ n) (hn : n ≤ cap) (hcap : cap * 4 ≤ cur.size) (h1 : ∀ x ∈ cur.toList.take (n * 4), x.oneCell' = true) :
    Calls Tryz.prog 51 #[.slice (some ⟨b,0,none⟩) n cap,.int .i64 i,.int .i64 j] w fun e w'=>e = .returned (.slice (some ⟨b,0,none⟩) (i+(n - j)) cap)∧SameBut (some b) w w' ∧
      ∃ cur',w'.heap[b]? = some (.cells cur' 49 (0,0))∧cur'.size=cur.size∧cur'.toList.take ((i+(n - j)) * 4)=cur.toList.take (i * 4)++(cur.toList.drop (j * 4)).take ((n - j) * 4):=by
  have mixed:Tryz.prog.follows .mixedOrders=true:=by kernel_rfl
  obtain ⟨news,hnews⟩:∃ news,news=(cur.toList.drop (j * 4)).take ((n - j) * 4):=⟨_,rfl⟩
  have hlen:news.length=(n - j) * 4:=by rw [hnews]; simp; omega
  have hu:Tryz.prog.underlying 22=some (.slice 49):=Tryz.underlying22
  obtain ⟨ie,hi,his,z,hz,hzl,hz1⟩:∃ ie,Tryz.prog.info? 49=some ie∧ie.size=4∧∃ z,(∀ w,(zeroValue 49).run Tryz.prog w = .ok z w)∧z.cells.size=4∧∀ x∈z.cells.toList,x.oneCell'=true :=
    ⟨_,Tryz.type49,rfl,_,fun w=>Tryz.zeroValue49 w,rfl,by decide⟩
  have hnd:∀ x∈news,x.oneCell'=true:=fun x hx=>by
    rw [hnews] at hx
    refine h1 x ?_
    obtain ⟨k,hk⟩:=List.getElem?_of_mem hx
    rw [List.getElem?_take] at hk
    split at hk
    · rw [List.getElem?_drop] at hk
      refine List.mem_of_getElem? (i:=j * 4+k) ?_
      rw [List.getElem?_take,if_pos (by omega)]
      exact hk
    · cases hk
  obtain ⟨A,hA,hsrc⟩:∃ A:Addr,(if cap=j then some (⟨b,0,none⟩:Addr) else some ⟨b,j * 4,none⟩)=some A∧Hid (∀ t u,news[t]? = some u→w.drew.cell? (A.add t)=some u):=by
    by_cases h:cap=j
    · refine ⟨⟨b, 0, none⟩, by simp [h], fun t u hu => ?_⟩
      have h0:news.length=0:=by rw [hlen]; omega
      rw [List.length_eq_zero_iff.1 h0] at hu
      simp at hu
    · refine ⟨⟨b, j * 4, none⟩, by simp [h], fun t u hu => ?_⟩
      have ht:t < (n - j) * 4:=by
        have:=(List.getElem?_eq_some_iff.1 hu).1
        rwa [hlen] at this
      rw [hnews,List.getElem?_take,if_pos ht,List.getElem?_drop] at hu
      have hb':w.drew.heap[b]? = some (.cells cur 49 (0,0)):=hb
      rw [cu,Lib.cell_of_heap hb']
      simpa using hu
  have hb':w.drew.heap[b]? = some (.cells cur 49 (0,0)):=hb
  have hap:=run_append_room (P:=Tryz.prog) w.drew 22 22 49 ie hu hi b i cap cur hb' A (n - j) (cap - j) news (by rw [his]; exact hlen) hsrc.out hnd (by omega) (by rw [his,hlen]; omega)
  rw [his] at hap
  obtain ⟨cur1,hcur1⟩:∃ c:Array Value,c=(cur.toList.take (i * 4)++news++cur.toList.drop (i * 4+news.length)).toArray:=⟨_,rfl⟩
  rw [← hcur1] at hap
  have hsz1:cur1.size=cur.size:=by rw [hcur1]; simp; omega
  obtain ⟨W1,hW1⟩:∃ W1,W1=w.drew.setRow b cur1:=⟨_,rfl⟩
  rw [← hW1] at hap
  have hb1:W1.heap[b]? = some (.cells cur1 49 (0,0)):=by rw [hW1]; exact setRow_heap w.drew b cur cur1 _ _ hb'
  have hzcl:(Builtin.zeroCells z.cells (n - (i+(n - j)))).toList.length=(n - (i+(n - j))) * 4:=by
    rw [Array.length_toList,size_zeroCells,hzl]
  have hzc1:∀ x∈(Builtin.zeroCells z.cells (n - (i+(n - j)))).toList,x.oneCell'=true:=fun x hx=>by
    simp only [Builtin.zeroCells,Array.toList_map,List.mem_map] at hx
    obtain ⟨k,_,rfl⟩:=hx
    have hk:k%z.cells.size < z.cells.size:=Nat.mod_lt _ (by omega)
    rw [getElem!_pos z.cells _ hk]
    exact hz1 _ (by simp)
  have hcl:=fun ty=>gn (P:=Tryz.prog) W1 22 49 ty z hu hz b ((i+(n - j)) * 4) (n - (i+(n - j))) (cap - (i+(n - j))) (by omega) cur1 49 hb1 (by rw [hzcl,hsz1]; omega) hzc1
  obtain ⟨cur2,hcur2⟩:∃ c:Array Value,c=(cur1.toList.take ((i+(n - j)) * 4)++(Builtin.zeroCells z.cells (n - (i+(n - j)))).toList++cur1.toList.drop ((i+(n - j)) * 4+(Builtin.zeroCells z.cells (n - (i+(n - j)))).toList.length)).toArray:=⟨_,rfl⟩
  rw [← hcur2] at hcl
  have hend:SameBut (some b) w (W1.setRow b cur2)∧∃ cur',(W1.setRow b cur2).heap[b]? = some (.cells cur' 49 (0,0))∧cur'.size=cur.size∧cur'.toList.take ((i+(n - j)) * 4)=cur.toList.take (i * 4)++(cur.toList.drop (j * 4)).take ((n - j) * 4):=by
    refine ⟨⟨?_,?_,?_,?_,?_,?_⟩,cur2,setRow_heap W1 b cur1 cur2 _ _ hb1,?_,?_⟩
    · rw [hW1]; rfl
    · rw [hW1]; rfl
    · rw [hW1]; rfl
    · rw [hW1]; simp
    · rw [hW1]; exact Nat.le_succ _
    · intro k hk
      have hk':k≠b:=fun e=>hk (by rw [e])
      rw [setRow_other W1 b k cur2 hk',hW1,setRow_other w.drew b k cur1 hk']
      rfl
    · rw [hcur2]; simp only [List.size_toArray,List.length_append,List.length_take,List.length_drop,Array.length_toList,hzcl]; rw [hsz1]; omega
    · rw [hcur2]
      simp only []
      rw [List.append_assoc,List.take_append_of_le_length (by simp; omega),List.take_of_length_le (by simp; omega),hcur1]
      simp only []
      rw [← hnews]
      exact List.take_left' (by simp; omega)
  clear hcur2 hcur1 hnews hW1 hnd hb' hzcl hzc1 hsz1 hb1
  have hic:i≤cap:=by omega
  have hjc:j≤cap:=by omega
  go_enter Tryz.func51,Tryz.ntmps51
  go_wp2_with fail
  go_region_law_o (refine je rfl _ _ 22 rfl rfl rfl hap ?_)
  go_wp2
  go_ret
  exact ⟨rfl,hend⟩
noncomputable def delSp:SpM U El:=fun d args st k=>match args with
  | [.ful id, .int .i64 i, .int .i64 j] => match al st.h id with
    | some (.rows .rule xs)=>chk (ile 0 i&&(ilt i j&&(ile j (Int.ofNat (List.length xs))&&(nle (List.length xs) 1000000 && !(Nat.beq id d)))))
        (k (.ful d) ⟨((st.forget id).forget d).t,(d,.rows .rule (List.take i.toNat xs++List.drop j.toNat xs)) :: ((st.forget id).forget d).h⟩)
    | _=>none
  | _=>none
theorem ta {X : Ctx U El} (hE : X.E = E) (hX : CtxOk Tryz.prog X) : gq Tryz.prog X 51 delSp := by
  refine ⟨Tryz.call51,?_⟩
  intro B S0 w0 S ρ st a w d args vs k r hi hr hv
  unfold delSp at hv
  split at hv
  · rename_i id i j
    split at hv
    · rename_i xs hg
      obtain ⟨hck,hk⟩:=af hv
      simp only [Bool.and_eq_true,Bool.not_eq_true',nle,ile,ilt,decide_eq_true_eq] at hck
      obtain ⟨hi0,hij,hj,hl,hne⟩:=hck
      have hne:id≠d:=by rintro rfl; rw [Nat.beq_refl] at hne; cases hne
      obtain ⟨i,rfl⟩:=Int.eq_ofNat_of_zero_le hi0
      obtain ⟨j,rfl⟩:=Int.eq_ofNat_of_zero_le (show 0≤j by omega)
      simp only [Int.ofNat_eq_natCast] at hj
      have hj:j≤xs.length:=by omega
      have hij:i < j:=by omega
      obtain ⟨v1,v2,v3,rfl,r1,r2,r3⟩:∃ v1 v2 v3,vs=#[v1,v2,v3]∧Rel X.E S ρ w (.ful id) v1∧Rel X.E S ρ w (.int .i64 i) v2∧Rel X.E S ρ w (.int .i64 j) v3:=by
        obtain ⟨h1,h2⟩:=hr
        match vs,h1,h2 with
        | ⟨[v1,v2,v3]⟩,_,h2=>exact ⟨v1,v2,v3,rfl,h2 0 _ v1 rfl rfl,h2 1 _ v2 rfl rfl,h2 2 _ v3 rfl rfl⟩
      cases r2; cases r3
      obtain ⟨l,hl1,hbl⟩:=hi.heap.get _ _ hg
      have hbl':=hbl
      obtain ⟨c1,c2,c3,c4⟩:=hbl
      have hsz:X.E.sz .rule=4:=by rw [hE]; rfl
      rw [hsz] at c1 c3
      have hn0:l.n≠0:=by omega
      obtain ⟨c5,c6,cur,hh,c7,c8⟩:=c4 hn0
      have htid:X.E.tid .rule=49:=by rw [hE]; rfl
      rw [htid] at hh
      cases r1 with
      | fulN _ l' hl' e1 e2=>rw [hl1] at hl'; cases hl'; exact absurd e1 hn0
      | ful _ cap l' hl' e1 e2 =>
        rw [hl1] at hl'; cases hl'
        rw [c1] at e1
        have hone:∀ x∈cur.toList.take (l.ln * 4),x.oneCell'=true:=fun x hx=>by
          obtain ⟨q,hq⟩:=List.getElem?_of_mem hx
          rw [List.getElem?_take] at hq
          split at hq
          · rename_i hq4
            have hqi:q / 4 < xs.length:=by omega
            have hqj:q%4 < (X.E.enc .rule xs[q / 4]).length:=by rw [hX.u.len,hsz]; omega
            obtain ⟨v,hv,hrv⟩:=c8 (q / 4) _ (q%4) _ (List.getElem?_eq_getElem hqi) (List.getElem?_eq_getElem hqj)
            rw [hsz,show q / 4 * 4+q%4=q by omega] at hv
            have:x=v:=by rw [Array.getElem?_toList,hv] at hq; exact (Option.some.inj hq).symm
            rw [this]
            exact g7 hrv (jL (hX.u.cell _ _ _ (List.getElem_mem hqj)))
          · cases hq
        rw [c2] at e2 hone ⊢
        refine (nH l.b i j xs.length cap w cur hh hij hj e2 (by rw [c7]; exact e1) hone).mono ?_
        rintro e w' ⟨rfl,hs,cur',hh',hsz',htk⟩
        have hq:=(hi.quit hX hg hl1 (hs.mono (fun k' h=>⟨hn0,Option.some.inj h⟩))).forget hX d
        have hlen':(List.take i xs++List.drop j xs).length=i+(xs.length - j):=by simp; omega
        have hrd:((ρ.del id).del d) d=none:=by simp [Rho.del]
        have hS:∀ b,S b→w'.heap[b]? = w.heap[b]? := fun b hb=>hs.block b (fun e=>c6 (by rw [← Option.some.inj e]; exact hb))
        have hadd:=hq.add (s:=d) (u := .rule) (xs:=List.take i xs++List.drop j xs) (l:=⟨l.b,l.n,4,i+(xs.length - j)⟩) hrd (fun ρ'=>⟨by rw [hsz],hlen'.symm,by rw [hlen',hsz]; show (i+(xs.length - j)) * 4≤l.n; omega,fun _=>⟨c5,c6,cur',by rw [htid]; exact hh',by rw [hsz']; exact c7,fun i' x j' c hx hc => ?_⟩⟩) (fun q b l' hgq hlq hn hn' => ?_)
        · refine ⟨_,.ful d,_,S,_,rfl,hk,hadd,.ful d cap ⟨l.b,l.n,4,i+(xs.length - j)⟩ (by show (if d=d then some _ else _)=_; rw [if_pos rfl]) e1 (show i+(xs.length - j)≤cap by omega)⟩
        · have hj4 : j' < 4 := by rw [← hsz, ← hX.u.len _ x]; exact (List.getElem?_eq_some_iff.1 hc).1
          have hil:i' < i+(xs.length - j):=by rw [← hlen']; exact (List.getElem?_eq_some_iff.1 hx).1
          have hcell:cur'[i' * 4+j']? = (cur.toList.take (i * 4)++(cur.toList.drop (j * 4)).take ((xs.length - j) * 4))[i' * 4+j']? := by
            rw [← htk,List.getElem?_take,if_pos (by omega),Array.getElem?_toList]
          rw [hsz,hcell]
          have fin:∀ v,Rel X.E S ρ w c v→Rel X.E S ρ' w' c v:=fun v h=>(h.mono (ρ':=ρ) (fun _ h=>h) hS (fun _ _ h=>h)).cellρ hX.u (hX.u.cell _ _ _ (List.mem_of_getElem? hc))
          by_cases hlt:i' < i
          · rw [List.getElem?_append_left (by simp; omega), List.getElem?_take, if_pos hlt] at hx
            obtain ⟨v,hv,hrv⟩:=c8 i' x j' c hx hc
            rw [hsz] at hv
            refine ⟨v,?_,fin v hrv⟩
            rw [List.getElem?_append_left (by simp; omega),List.getElem?_take,if_pos (by omega),Array.getElem?_toList]
            exact hv
          · rw [List.getElem?_append_right (by simp; omega), List.getElem?_drop] at hx
            obtain ⟨v,hv,hrv⟩:=c8 _ x j' c hx hc
            rw [hsz] at hv
            refine ⟨v,?_,fin v hrv⟩
            rw [List.getElem?_append_right (by simp; omega),List.getElem?_take,if_pos (by simp; omega),List.getElem?_drop,Array.getElem?_toList,← hv]
            congr 1
            simp
            omega
        · simp only [St.forget, cT, cw, Option.map_eq_some_iff] at hgq
          obtain ⟨b0,h0,_⟩:=hgq
          split at h0
          · cases h0
          · simp only [Option.map_eq_some_iff] at h0
            obtain ⟨b1,h1,_⟩:=h0
            split at h1
            · cases h1
            · rename_i e1' e2'
              have hlj':ρ q=some l':=by
                unfold Rho.del at hlq
                split at hlq
                · cases hlq
                · first
                  | exact hlq
                  | (split at hlq
                     · cases hlq
                     · exact hlq)
              exact hi.heap.inj q id b1 _ l' l h1 hg e2' hlj' hl1 hn hn0
    · cases hv
  · cases hv
end Go.Proofs.YthdimnlkcgchoaaGreat
