import Derived.Test.YtlkfbblapimhoaaGreatDoorLO
import Derived.Lib.AppendStr
import Derived.Lib.UnsafeStr
import Derived.Lib.LaidTab
import Derived.Lib.ItoaNum
namespace Go.Proofs.YtlkfbblapimhoaaGreatDoor
set_option linter.all false
open Go.RowKit Go.Lib
section
variable {U:Type} {El:U→Type} {P:Program} {X:Ctx U El} {S S0:Nat→Prop} {ρ:Rho} {w w0:World} [DecidableEq U] [Drw]
variable {a:Act} {st:St U El} {B:Bd} {d:Nat} {r:Fin U El}
theorem tab_below {n:String} {k:IntKind} {zs:List Int} {w w':World} (h:TabIs P w n k zs) (hb:Below w.heap.size w w'):TabIs P w' n k zs:=by
  unfold TabIs World.var? at h ⊢
  cases hg:P.globalNamed n with
  | none=>rw [hg] at h; cases h
  | some g =>
    rw [hg] at h
    simp only [Option.bind_some] at h ⊢
    have hlt:g < w.heap.size:=by
      rcases Nat.lt_or_ge g w.heap.size with h' | h'
      · exact h'
      · rw [Array.getElem?_eq_none h'] at h; cases h
    rw [hb.block g hlt]
    exact h
structure ByteU (E:Univ U El) (u:U) (mk:List UInt8→List (El u)) (un:List (El u)→List UInt8):Prop where
 sz:E.sz u=1
 by_:E.by_ u=1
 len:∀ s,(mk s).length=s.length
 enc:∀ (s:List UInt8) (i:Nat),i < s.length→∃ y,(mk s)[i]? = some y∧E.enc u y=[.int .u8 (s.getD i 0).toNat]
 lenU:∀ xs,(un xs).length=xs.length
 encU:∀ (xs:List (El u)) (i:Nat) (y:El u),xs[i]? = some y→∃ b:UInt8,(un xs)[i]? = some b∧E.enc u y=[.int .u8 b.toNat]
theorem strCells_get (s:List UInt8) (i:Nat) (h:i < s.length):(strCells ⟨s.toArray⟩)[i]? = some (.int .u8 (s.getD i 0).toNat):=by
 simp [strCells,h,List.getD]
theorem appendS_run {u : U} {mk : List UInt8 → List (El u)} {un : List (El u) → List UInt8} {xs : List (El u)} {s : List UInt8} {sv : Value} {ty sty ot : TypeId} {old : Option Nat} (hu : UGood P X.E) (hb8 : ByteU X.E u mk un) (hB : ∀ k, w.heap.size ≤ k → B.own k) (hlt : ∀ b, S b → b < w.heap.size)
    (hty:P.underlying ty=some (.slice (X.E.tid u))) (hsty:P.underlying sty=some .string)
    (hs:(sv=.slice none 0 0∧xs=[]∧old=none)∨∃ l cap,sv=.slice (some ⟨l.b,0,none⟩) xs.length cap∧old=(if l.n=0 then none else some l.b)∧cap * X.E.sz u≤l.n∧xs.length≤cap∧0 < cap∧BlkRel X.E S ρ w B l (.rows u xs))
    (hm:xs.length+s.length≤140737488355328) :
    ∃ v' w' l',(Builtin.append_ #[ty,sty] ot #[sv,.string ⟨s.toArray⟩]).run P w=.ok v' w'∧AppRes X S ρ B w u (xs++mk s) old v' w' l'∧(∀ ao n,v' ≠ .slice (some ao) n 0):=by
  obtain ⟨ie,z,hi,hsz,hby,hz,hzs,_⟩:=hu.info u
  have hse:X.E.sz u=1:=hb8.sz
  have hbe:X.E.by_ u=1:=hb8.by_
  have hss:(⟨s.toArray⟩:ByteArray).size=s.length:=by simp [ByteArray.size]
  have hcells:strCells ⟨s.toArray⟩=s.map (fun b=>Value.int .u8 b.toNat):=by simp [strCells]
  have hcl:(strCells ⟨s.toArray⟩).length=s.length:=by simp [strCells]
  have hnr:∀ (i:Nat) y (j:Nat) c,(mk s)[i]? = some y→(X.E.enc u y)[j]? = some c→∃ v,(strCells ⟨s.toArray⟩)[i * X.E.sz u+j]? = some v∧Rel X.E S ρ w c v:=fun i y j c hi hj=>by
    have hil:i < s.length:=by rw [← hb8.len]; exact (List.getElem?_eq_some_iff.1 hi).1
    obtain ⟨y',h1,h2⟩:=hb8.enc s i hil
    rw [hi] at h1; cases h1
    rw [h2] at hj
    match j,hj with
    | 0, hj =>
      cases hj
      exact ⟨_,by rw [hse,Nat.mul_one,Nat.add_zero]; exact strCells_get s i hil,.int _ _⟩
  have hXe:CtxOk P X→True:=fun _=>trivial
  have rowsapp:∀ {vx:List Value} {c:Array Value} {w':World} {ρ':Rho},(∀ k,S k→w'.heap[k]? = w.heap[k]?)→vx.length=xs.length * X.E.sz u →
      (∀ (i:Nat) y (j:Nat) c,xs[i]? = some y→(X.E.enc u y)[j]? = some c→∃ v,vx[i * X.E.sz u+j]? = some v∧Rel X.E S ρ w c v) →
      (∀ (j:Nat) v,(vx++strCells ⟨s.toArray⟩)[j]? = some v→c[j]? = some v) →
      ∀ (i:Nat) y (j:Nat) e,(xs++mk s)[i]? = some y→(X.E.enc u y)[j]? = some e→∃ v,c[i * X.E.sz u+j]? = some v∧Rel X.E S ρ' w' e v:=by
    intro vx c w' ρ' hS hlx hx hc i y j e hi hj
    have fin:∀ v,Rel X.E S ρ w e v→Rel X.E S ρ' w' e v:=fun v h=>(h.mono (ρ':=ρ) (fun _ h=>h) hS (fun _ _ h=>h)).cellρ hu (hu.cell u y e (List.mem_of_getElem? hj))
    by_cases h:i < xs.length
    · rw [List.getElem?_append_left h] at hi
      obtain ⟨v,hv,hr⟩:=hx i y j e hi hj
      exact ⟨v,hc _ v (by rw [List.getElem?_append_left ((List.getElem?_eq_some_iff.1 hv).1)]; exact hv),fin v hr⟩
    · rw [List.getElem?_append_right (by omega)] at hi
      obtain ⟨v,hv,hr⟩:=hnr _ y j e hi hj
      have hjl:j < X.E.sz u:=by rw [← hu.len u y]; exact (List.getElem?_eq_some_iff.1 hj).1
      refine ⟨v,hc _ v ?_,fin v hr⟩
      rw [List.getElem?_append_right (by rw [hlx,hse]; omega),← hv]
      congr 1
      rw [hlx,hse]
      omega
  have hns:¬ S w.heap.size:=fun h=>by have:=hlt _ h; omega
  have grown:∀ (vx:List Value) (old:Option Nat) (sc:Nat),sc < xs.length+s.length→vx.length=xs.length * X.E.sz u→(∀ (i:Nat) y (j:Nat) c,xs[i]? = some y→(X.E.enc u y)[j]? = some c→∃ v,vx[i * X.E.sz u+j]? = some v∧Rel X.E S ρ w c v) →
      AppRes X S ρ B w u (xs++mk s) old (.slice (some ⟨w.heap.size,0,none⟩) (xs.length+s.length) (grownCap w (xs.length+s.length) sc (X.E.tid u)))
        (w.drew.alloc (.cells (vx.toArray++(strCells ⟨s.toArray⟩).toArray++Builtin.zeroCells z.cells (grownCap w (xs.length+s.length) sc (X.E.tid u) - (xs.length+s.length))) (X.E.tid u)))
        ⟨w.heap.size,grownCap w (xs.length+s.length) sc (X.E.tid u) * X.E.sz u,X.E.sz u,xs.length+s.length⟩∧(∀ ao n,(Value.slice (some ⟨w.heap.size,0,none⟩) (xs.length+s.length) (grownCap w (xs.length+s.length) sc (X.E.tid u))) ≠ .slice (some ao) n 0):=by
    intro vx old sc hsc hvl hvr
    have hge:=grownCap_ge w (xs.length+s.length) sc (X.E.tid u)
    refine ⟨⟨rfl,rfl,rfl,by simp,fun _=>Nat.le_succ _,fun k hk _=>heap_alloc_old w.drew _ k hk,fun _=>.inr (Nat.le_refl _),fun ρ'=>⟨rfl,by simp [hb8.len],by simp only [List.length_append,hb8.len]; exact Nat.mul_le_mul_right _ hge,fun _=>⟨hB _ (Nat.le_refl _),hns,_,heap_alloc_new w.drew _,?_,?_⟩⟩,.inl ⟨_,rfl,Nat.le_refl _,hge⟩⟩,fun ao n h=>?_⟩
    · simp only [Array.size_append, List.size_toArray, size_zeroCells, hzs, hvl, hcl, hse]
      omega
    · refine rowsapp (fun k hk => heap_alloc_old w.drew _ k (hlt k hk)) hvl hvr (fun j v hj => ?_)
      rw [← Array.getElem?_toList]
      simp only [Array.toList_append]
      rw [List.getElem?_append_left (List.getElem?_eq_some_iff.1 hj).1]
      exact hj
    · injection h with _ _ h3
      omega
  rcases hs with ⟨rfl,rfl,rfl⟩ | ⟨l,cap,rfl,rfl,hcap,hle,hc0,hblk⟩
  · by_cases h0 : s.length = 0
    · have hs0 : s = [] := List.eq_nil_of_length_eq_zero h0
      subst hs0
      have hmk:mk []=[]:=List.eq_nil_of_length_eq_zero (by rw [hb8.len]; rfl)
      refine ⟨.slice none 0 0,w,⟨0,0,X.E.sz u,0⟩,?_,⟨rfl,rfl,rfl,Nat.le_refl _,fun _=>Nat.le_refl _,fun _ _ _=>rfl,fun h=>absurd rfl h,fun ρ'=>⟨rfl,by simp [hmk],by simp [hmk],fun h=>absurd rfl h⟩,.inr ⟨rfl,rfl,rfl⟩⟩,fun _ _ h=>by simp at h⟩
      have hf:=run_firstCells_string (P:=P) w 1 ⟨([]:List UInt8).toArray⟩
      simp only [ByteArray.size,List.size_toArray,List.length_nil] at hf
      simp [Builtin.append_,run_underlying hty,run_underlying hsty,sizeOf,typeInfo,hi,hsz,hse,Builtin.lenOf,ByteArray.size,hf]
    · have hr := run_append_nil_string (P := P) w ty sty ot (X.E.tid u) ie z hty hsty hi hz ⟨s.toArray⟩ (by rw [hss]; omega) (by rw [hss]; simp at hm; omega) (by rw [hss, hby, hbe]; simp at hm; omega)
      have hg:=grown [] none 0 (by simp; omega) (by simp) (by simp)
      simp only [List.length_nil,Nat.zero_add,Array.empty_append] at hg
      rw [hss] at hr
      have e1:((⟨s.toArray⟩:ByteArray).data.map fun b=>Value.int .u8 b.toNat)=(strCells ⟨s.toArray⟩).toArray:=by
        apply Array.ext'
        simp [strCells]
      rw [e1] at hr
      exact ⟨_,_,_,hr,hg⟩
  · have hn : l.n ≠ 0 := by rw [hse] at hcap; omega
    have hblk':=hblk
    obtain ⟨h1,h2,h3,h4⟩:=hblk
    obtain ⟨h5,h6,cur,hh,h7,h8⟩:=h4 hn
    by_cases hroom:xs.length+s.length≤cap
    · have hfit : xs.length + s.length ≤ cur.size := by rw [h7]; rw [hse] at hcap; omega
      have hr:=run_append_room_string (P:=P) w ty sty ot (X.E.tid u) ie hty hsty hi (by rw [hsz,hse]) l.b xs.length cap cur hh ⟨s.toArray⟩ (by rw [hss]; exact hroom) (by rw [hss]; exact hfit)
      rw [hss] at hr
      refine ⟨_,_,⟨l.b,l.n,X.E.sz u,xs.length+s.length⟩,hr,⟨rfl,rfl,rfl,by simp,fun _=>Nat.le_refl _,fun k hk hne=>setRow_other w l.b k _ (fun e=>hne (by rw [e,if_neg hn])),fun _=>.inl (by rw [if_neg hn]),fun ρ'=>⟨rfl,by simp [hb8.len],?_,fun _=>⟨h5,h6,_,setRow_heap w l.b cur _ _ _ hh,?_,?_⟩⟩,.inl ⟨cap,rfl,hcap,hroom⟩⟩,fun ao n h=>?_⟩
      · simp only [List.length_append, hb8.len, hse]
        rw [hse] at hcap
        omega
      · simp [hcl]; omega
      · have hlx : (cur.toList.take xs.length).length = xs.length * X.E.sz u := by simp [hse]; omega
        refine rowsapp (fun k hk=>setRow_other w l.b k _ (by rintro rfl; exact h6 hk)) hlx (fun i y j c hi hj=>?_) (fun j v hj=>?_)
        · obtain ⟨v, hv, hr⟩ := h8 i y j c hi hj
          have hil:i < xs.length:=(List.getElem?_eq_some_iff.1 hi).1
          have hjl:j < X.E.sz u:=by rw [← hu.len u y]; exact (List.getElem?_eq_some_iff.1 hj).1
          rw [hse] at hjl
          refine ⟨v,?_,hr⟩
          rw [List.getElem?_take_of_lt (by rw [hse]; omega)]
          simpa using hv
        · rw [List.getElem?_toArray, List.getElem?_append_left (List.getElem?_eq_some_iff.1 hj).1]
          exact hj
      · injection h with _ _ h3
        omega
    · have hsh : ∃ vx : List Value, vx.length = xs.length * X.E.sz u ∧ (∀ j v, vx[j]? = some v → w.cell? ((⟨l.b, 0, none⟩ : Addr).add j) = some v) ∧ (∀ (i : Nat) y (j : Nat) c, xs[i]? = some y → (X.E.enc u y)[j]? = some c → ∃ v, vx[i * X.E.sz u + j]? = some v ∧ Rel X.E S ρ w c v) := by
        have hxl:xs.length≤cur.size:=by rw [h7]; rw [hse] at hcap; omega
        refine ⟨cur.toList.take xs.length,by simp [hse]; omega,fun j v hj=>?_,fun i y j c hi hj=>?_⟩
        · rw [addr_add, Nat.zero_add, cell_of_row w l.b _ cur _ (0, 0) hh]
          rw [List.getElem?_take] at hj
          split at hj
          · simpa using hj
          · cases hj
        · obtain ⟨v, hv, hr⟩ := h8 i y j c hi hj
          have hil:i < xs.length:=(List.getElem?_eq_some_iff.1 hi).1
          have hjl:j < X.E.sz u:=by rw [← hu.len u y]; exact (List.getElem?_eq_some_iff.1 hj).1
          rw [hse] at hjl
          refine ⟨v,?_,hr⟩
          rw [List.getElem?_take_of_lt (by rw [hse]; omega)]
          simpa using hv
      obtain ⟨vx,g1,g2,g4⟩:=hsh
      have hr:=run_append_grow_string (P:=P) w ty sty ot (X.E.tid u) ie z hty hsty hi hz ⟨l.b,0,none⟩ xs.length cap vx (by rw [hsz]; exact g1) g2 ⟨s.toArray⟩ (by rw [hss]; omega) (by rw [hss]; omega) (by rw [hss,hby,hbe]; exact growslice_fits (by omega) (by omega))
      rw [hss] at hr
      exact ⟨_,_,_,hr,grown vx _ cap (by omega) g1 g4⟩
theorem wpList_append_run {ops:Array Oper} {rest:List Oper} {o:Oper} {Q:Exit→Act→World→Prop} (hgd:o.guard=none) (sl x:Operand) (t u:TypeId)
  (ho:o.op=.call { callee:=.builtin .append,args:=#[sl,x],argTypes:=#[t,u] }) {v v':Value} {w':World} {s:ByteArray} (hs:a.eval sl=v) (hx:a.eval x=.string s)
  (hr:(Builtin.append_ #[t,u] o.type #[v,.string s]).run P w=.ok v' w') (h:wpList P ops Q rest (a.put o.dst v') w'):wpList P ops Q (o :: rest) a w:=by
 refine wpList_plain hgd fun K hK=>?_
 unfold Oper.wp execOp
 simp only [ho,resolve,invoke,builtin,Sem.run_bind,Sem.run_pure,Result.andThen_ok,List.map_toArray,List.map_cons,List.map_nil,hs,hx,hr]
 exact hK _ _ h
abbrev SpM (U:Type) (El:U→Type):=Nat→List (AV U El)→St U El→(AV U El→St U El→Option (Fin U El))→Option (Fin U El)
def mspecOf:List (FuncId×SpM U El)→FuncId→Option (SpM U El)
 | [],_=>none
 | (g,sp) :: l,f=>bif Nat.beq g f then some sp else mspecOf l f
theorem mspecOf_ok:∀ (l:List (FuncId×SpM U El)),(∀ p∈l,SpMOk P X p.1 p.2)→∀ g sp,mspecOf l g=some sp→SpMOk P X g sp:=by
  intro l
  induction l with
  | nil=>intro _ g sp h; cases h
  | cons p l ih =>
    intro h g sp hg
    obtain ⟨f,q⟩:=p
    simp only [mspecOf] at hg
    by_cases e:f=g
    · subst e; rw [Nat.beq_refl] at hg; cases hg; exact h (f,sp) (by simp)
    · rw [nbeq_ne e] at hg; exact ih (fun p hp=>h p (by simp [hp])) g sp hg
theorem Inv.bldWrite (hX:CtxOk P X) {id j:Nat} {T:TypeId} {u:U} {xs zs:List (El u)} {lb lj l':Loc} {v':Value} {w':World} (hi:Inv X B S0 w0 S ρ st a w) (hne:id ≠ j) (hg:hget st.h id=some (.bld T j)) (hgj:hget st.h j=some (.rows u xs)) (hlb:ρ id=some lb) (hlj:ρ j=some lj)
  (hos:w'.os=w.os) (htape:w'.tape=w.tape) (hout:w'.output=w.output) (hsize:w.heap.size≤w'.heap.size) (hdrawn:Drw.on→w.drawn≤w'.drawn) (hblock:∀ k,k < w.heap.size→k≠lb.b→(lj.n≠0→k≠lj.b)→w'.heap[k]? = w.heap[k]?)
  (hself:w'.heap[lb.b]? = some (.cells #[.pointer (some ⟨lb.b,0,none⟩),v'] T (0,0))) (hat:l'.n≠0→(lj.n≠0∧l'.b=lj.b)∨w.heap.size≤l'.b) (hblk:∀ ρ',BlkRel X.E S ρ' w' B l' (.rows u zs))
  (hval:(∃ cap,v'=.slice (some ⟨l'.b,0,none⟩) l'.ln cap∧cap * l'.s≤l'.n∧l'.ln≤cap∧0 < cap)∨(v'=.slice none 0 0∧l'.n=0∧l'.ln=0)) :
  Inv X B S0 w0 S ((ρ.del j).set j l') ⟨(st.forget j).t,(id,.bld T j) :: (j,.rows u zs) :: hdel (st.forget j).h id⟩ a w':=by
 have hj:=hi.forget hX j
 obtain ⟨lb',e1,hbl⟩:=hi.heap.get _ _ hg
 rw [hlb] at e1; cases e1
 obtain ⟨lj',e2,hbj⟩:=hi.heap.get _ _ hgj
 rw [hlj] at e2; cases e2
 obtain ⟨n2,hBb,hnS,_⟩:=hbl
 have hbn:lb.n≠0:=by omega
 have hblt:=(BlkRel.lt (b:=Blk.bld T j) ⟨n2,hBb,hnS,‹_›⟩ hbn).1
 have sepj:lj.n≠0→lb.b≠lj.b:=fun h=>hi.heap.inj id j _ _ lb lj hg hgj hne hlb hlj hbn h
 have hjn:(ρ.del j) j=none:=by simp [Rho.del]
 have hS:∀ b,S b→w'.heap[b]? = w.heap[b]?:=fun b hb=>hblock b (hi.heap.lt b hb) (by rintro rfl; exact hnS hb) (fun hn=>by rintro rfl; exact (hbj.lt hn).2.2 hb)
 have hext:∀ i l,(ρ.del j) i=some l→((ρ.del j).set j l') i=some l:=fun i l h=>by
  by_cases e:i=j
  ·subst e; rw [hjn] at h; cases h
  ·simp [Rho.set,e,h]
 have eid:((ρ.del j).set j l') id=some lb:=hext id lb (by simp [Rho.del,hne,hlb])
 have ej:((ρ.del j).set j l') j=some l':=by simp [Rho.set]
 have old:∀ i b,hget (hdel (st.forget j).h id) i=some b→i≠id∧i≠j∧(∃ b0,hget st.h i=some b0)∧∃ l,ρ i=some l∧(ρ.del j) i=some l∧BlkRel X.E S (ρ.del j) w B l b:=fun i b h=>by
  rw [hget_del] at h
  split at h
  ·cases h
  ·rename_i e
   obtain ⟨l,hl,hb⟩:=hj.heap.get i b h
   have h':=h
   simp only [St.forget,hget_kill,hget_del,Option.map_eq_some_iff] at h'
   obtain ⟨b0,hb0,_⟩:=h'
   split at hb0
   ·cases hb0
   ·rename_i e'
    exact ⟨e,e',⟨b0,hb0⟩,l,by simpa [Rho.del,e'] using hl,hl,hb⟩
 have keep:∀ i b l,hget (hdel (st.forget j).h id) i=some b→(ρ.del j) i=some l→l.n≠0→w'.heap[l.b]? = w.heap[l.b]? ∧ l.b≠lb.b∧(lj.n≠0→l.b≠lj.b)∧l.b < w.heap.size∧¬ S l.b:=fun i b l h hl hn=>by
  obtain ⟨e,e',⟨b0,hb0⟩,l2,hl2,hl3,hb⟩:=old i b h
  rw [hl] at hl3; cases hl3
  have c1:l.b≠lb.b:=hi.heap.inj i id b0 _ l lb hb0 hg e hl2 hlb hn hbn
  have c2:lj.n≠0→l.b≠lj.b:=fun hn2=>hi.heap.inj i j b0 _ l lj hb0 hgj e' hl2 hlj hn hn2
  exact ⟨hblock _ (hb.lt hn).1 c1 c2,c1,c2,(hb.lt hn).1,(hb.lt hn).2.2⟩
 refine ⟨hi.defers,hi.size,hi.below.trans ⟨hos,htape,hout,hsize,hdrawn,fun k hk hbk=>?_⟩,fun k hk=>hi.hB k (Nat.le_trans hsize hk),hi.s0,hi.s1,hi.g0,fun i=>(hj.tmps i).mono (fun _ h=>h) hS hext,⟨fun i b hgi=>?_,fun i i' b b' l l2 hgi hgi' hii hli hli' hn hn2=>?_,fun b hb=>Nat.lt_of_lt_of_le (hi.heap.lt b hb) hsize⟩⟩
 ·exact hblock k hk (by rintro rfl; exact hbk hBb) (fun hn=>by rintro rfl; exact hbk (hbj.lt hn).2.1)
 ·simp only [hget] at hgi
  by_cases e:id=i
  ·subst e
   rw [Nat.beq_refl] at hgi
   cases hgi
   refine ⟨lb,eid,n2,hBb,hnS,_,v',hself,.inr rfl,fun ao n h=>?_,?_⟩
   ·rcases hval with ⟨cap,rfl,_,_,h0⟩ | ⟨rfl,_⟩
    ·injection h with _ _ h3; omega
    ·simp at h
   ·rcases hval with ⟨cap,rfl,h1,h2,_⟩ | ⟨rfl,h1,h2⟩
    ·exact .ful j cap l' ej h1 h2
    ·exact .fulN j l' ej h1 h2
  ·rw [nbeq_ne e] at hgi
   simp only [cond] at hgi
   by_cases e':j=i
   ·subst e'
    rw [Nat.beq_refl] at hgi
    cases hgi
    exact ⟨l',ej,hblk _⟩
   ·rw [nbeq_ne e'] at hgi
    simp only [cond] at hgi
    obtain ⟨_,_,_,l,_,hl,hb⟩:=old i b hgi
    exact ⟨l,hext i l hl,hb.mono (fun _ h=>h) hS hext fun hn=>⟨(keep i b l hgi hl hn).1,(hb.lt hn).2.2⟩⟩
 ·
  have kind:∀ i b l,hget ((id,Blk.bld T j) :: (j,Blk.rows u zs) :: hdel (st.forget j).h id) i=some b→((ρ.del j).set j l') i=some l→(i=id∧l=lb)∨(i=j∧l=l')∨(i≠id∧i≠j∧hget (hdel (st.forget j).h id) i=some b∧(ρ.del j) i=some l):=fun i b l h hl=>by
   simp only [hget] at h
   by_cases e:id=i
   ·subst e; rw [eid] at hl; cases hl; exact .inl ⟨rfl,rfl⟩
   ·rw [nbeq_ne e] at h
    simp only [cond] at h
    by_cases e':j=i
    ·subst e'; rw [ej] at hl; cases hl; exact .inr (.inl ⟨rfl,rfl⟩)
    ·rw [nbeq_ne e'] at h
     simp only [cond] at h
     exact .inr (.inr ⟨Ne.symm e,Ne.symm e',h,by simpa [Rho.set,Ne.symm e'] using hl⟩)
  have sepN:l'.n≠0→l'.b≠lb.b:=fun h=>by
   rcases hat h with ⟨h1,h2⟩ | h1
   ·rw [h2]; exact (sepj h1).symm
   ·omega
  have sepO:∀ i b l,hget (hdel (st.forget j).h id) i=some b→(ρ.del j) i=some l→l.n≠0→l'.n≠0→l.b≠l'.b:=fun i b l h hl hn hn'=>by
   obtain ⟨_,c1,c2,c3,_⟩:=keep i b l h hl hn
   rcases hat hn' with ⟨h1,h2⟩ | h1
   ·rw [h2]; exact c2 h1
   ·omega
  rcases kind i b l hgi hli with ⟨rfl,rfl⟩ | ⟨rfl,rfl⟩ | ⟨k1,k2,k3,k4⟩<;>rcases kind i' b' l2 hgi' hli' with ⟨rfl,rfl⟩ | ⟨rfl,rfl⟩ | ⟨m1,m2,m3,m4⟩
  ·exact absurd rfl hii
  ·exact (sepN hn2).symm
  ·exact (keep _ _ _ m3 m4 hn2).2.1.symm
  ·exact sepN hn
  ·exact absurd rfl hii
  ·exact (sepO _ _ _ m3 m4 hn2 hn).symm
  ·exact (keep _ _ _ k3 k4 hn).2.1
  ·exact sepO _ _ _ k3 k4 hn hn2
  ·obtain ⟨_,_,⟨b1,hb1⟩,_,r1,r2,_⟩:=old i b k3
   obtain ⟨_,_,⟨b2,hb2⟩,_,r3,r4,_⟩:=old i' b' m3
   rw [k4] at r2; cases r2
   rw [m4] at r4; cases r4
   exact hi.heap.inj i i' b1 b2 l l2 hb1 hb2 hii r1 r3 hn hn2
structure SameBut (g:Option Nat) (w w':World):Prop where
 os:w'.os=w.os
 tape:w'.tape=w.tape
 output:w'.output=w.output
 size:w'.heap.size=w.heap.size
 drawn:Drw.on→w.drawn≤w'.drawn
 block:∀ k,some k≠g→w'.heap[k]? = w.heap[k]?
theorem SameBut.drew (w:World) (g:Option Nat):SameBut g w w.drew:=⟨rfl,rfl,rfl,rfl,fun _=>Nat.le_succ _,fun _ _=>rfl⟩
theorem SameBut.freeze {w:World} (g n:Nat):SameBut (some g) w (w.drew.freeze ⟨g,0,none⟩ n):=by
 unfold World.freeze
 split
 ·exact SameBut.drew w _
 ·exact ⟨rfl,rfl,rfl,Array.size_modify,fun _=>Nat.le_succ _,fun k hk=>by
   simp only [Array.getElem?_modify]
   rw [if_neg (by intro e; exact hk (by rw [e]))]
   rfl⟩
structure SameAt (Q:Nat→Prop) (w w':World):Prop where
 os:w'.os=w.os
 tape:w'.tape=w.tape
 output:w'.output=w.output
 size:w.heap.size≤w'.heap.size
 drawn:Drw.on→w.drawn≤w'.drawn
 block:∀ k,k < w.heap.size→¬ Q k→w'.heap[k]? = w.heap[k]?
theorem SameBut.mono {g:Option Nat} {Q:Nat→Prop} {w':World} (h:SameBut g w w') (hq:∀ k,some k=g→Q k):SameAt Q w w' :=
 ⟨h.os,h.tape,h.output,Nat.le_of_eq h.size.symm,h.drawn,fun k _ hk=>h.block k (fun e=>hk (hq k e))⟩
theorem Inv.add {s:Nat} {u:U} {xs:List (El u)} {l:Loc} (hi:Inv X B S0 w0 S ρ st a w) (hs:ρ s=none) (hb:∀ ρ',BlkRel X.E S ρ' w B l (.rows u xs))
  (hsep:∀ j b l',hget st.h j=some b→ρ j=some l'→l'.n≠0→l.n≠0→l'.b≠l.b):Inv X B S0 w0 S (ρ.set s l) ⟨st.t,(s,.rows u xs) :: st.h⟩ a w:=by
 have e1:(ρ.set s l) s=some l:=by simp [Rho.set]
 have hext:∀ j l',ρ j=some l'→(ρ.set s l) j=some l':=fun j l' h=>by
  by_cases e:j=s
  ·subst e; rw [hs] at h; cases h
  ·simp [Rho.set,e,h]
 refine ⟨hi.defers,hi.size,hi.below,hi.hB,hi.s0,hi.s1,hi.g0,fun i=>(hi.tmps i).mono (fun _ h=>h) (fun _ _=>rfl) hext,⟨fun j b hg=>?_,fun i j b b' l1 l2 hgi hgj hne hli hlj hn1 hn2=>?_,hi.heap.lt⟩⟩
 ·simp only [hget] at hg
  by_cases e:s=j
  ·subst e; rw [Nat.beq_refl] at hg; cases hg; exact ⟨l,e1,hb _⟩
  ·rw [nbeq_ne e] at hg
   obtain ⟨l',h1,h2⟩:=hi.heap.get j b hg
   exact ⟨l',hext j l' h1,h2.mono (fun _ h=>h) (fun _ _=>rfl) hext (fun hn=>⟨rfl,(h2.lt hn).2.2⟩)⟩
 ·simp only [hget] at hgi hgj
  by_cases ei:s=i
  ·subst ei
   rw [e1] at hli; cases hli
   rw [nbeq_ne hne] at hgj
   have hlj':ρ j=some l2:=by simpa [Rho.set,Ne.symm hne] using hlj
   exact (hsep j b' l2 hgj hlj' hn2 hn1).symm
  ·rw [nbeq_ne ei] at hgi
   have hli':ρ i=some l1:=by simpa [Rho.set,Ne.symm ei] using hli
   by_cases ej:s=j
   ·subst ej
    rw [e1] at hlj; cases hlj
    exact hsep i b l1 hgi hli' hn1 hn2
   ·rw [nbeq_ne ej] at hgj
    have hlj':ρ j=some l2:=by simpa [Rho.set,Ne.symm ej] using hlj
    exact hi.heap.inj i j b b' l1 l2 hgi hgj hne hli' hlj' hn1 hn2
theorem Inv.quit (hX:CtxOk P X) {j:Nat} {bj:Blk U El} {lj:Loc} {w':World} (hi:Inv X B S0 w0 S ρ st a w) (hgj:hget st.h j=some bj) (hlj:ρ j=some lj) (hs:SameAt (fun k=>lj.n≠0∧k=lj.b) w w') :
  Inv X B S0 w0 S (ρ.del j) (st.forget j) a w':=by
 have hj:=hi.forget hX j
 obtain ⟨lj',e2,hbj⟩:=hi.heap.get _ _ hgj
 rw [hlj] at e2; cases e2
 have hS:∀ b,S b→w'.heap[b]? = w.heap[b]?:=fun b hb=>hs.block b (hi.heap.lt b hb) (fun ⟨hn,e⟩=>by subst e; exact (hbj.lt hn).2.2 hb)
 refine ⟨hi.defers,hi.size,hi.below.trans ⟨hs.os,hs.tape,hs.output,hs.size,hs.drawn,fun k hk hbk=>hs.block k hk (fun ⟨hn,e⟩=>hbk (by rw [e]; exact (hbj.lt hn).2.1))⟩,fun k hk=>hi.hB k (Nat.le_trans hs.size hk),hi.s0,hi.s1,hi.g0,fun i=>(hj.tmps i).mono (fun _ h=>h) hS (fun _ _ h=>h),⟨fun i b h=>?_,hj.heap.inj,fun b hb=>Nat.lt_of_lt_of_le (hi.heap.lt b hb) hs.size⟩⟩
 obtain ⟨l,hl,hb⟩:=hj.heap.get i b h
 refine ⟨l,hl,hb.mono (fun _ h=>h) hS (fun _ _ h=>h) fun hn=>⟨hs.block _ (hb.lt hn).1 (fun ⟨hn',e⟩=>?_),(hb.lt hn).2.2⟩⟩
 simp only [St.forget,hget_kill,hget_del,Option.map_eq_some_iff] at h
 obtain ⟨b0,hb0,_⟩:=h
 split at hb0
 ·cases hb0
 ·rename_i e'
  exact hi.heap.inj i j b0 bj l lj hb0 hgj e' (by simpa [Rho.del,e'] using hl) hlj hn hn' e
end
end Go.Proofs.YtlkfbblapimhoaaGreatDoor
