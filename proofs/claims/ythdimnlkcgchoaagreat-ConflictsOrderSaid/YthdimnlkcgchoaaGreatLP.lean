import Derived.Test.YthdimnlkcgchoaaGreatLN
import Derived.KernelRfl
import Derived.Lib.AppendStr
import Derived.Lib.UnsafeStr
import Derived.Lib.LaidTab
import Derived.Lib.ItoaNum
namespace Go.Proofs.YthdimnlkcgchoaaGreat
set_option linter.all false
def cdp:List Nat→Code→Code
 | [],c=>c
 | 0 :: p,.seq a _=>cdp p a
 | 1 :: p,.seq _ b=>cdp p b
 | 0 :: p,.cond _ a _=>cdp p a
 | 1 :: p,.cond _ _ b=>cdp p b
 | 0 :: p,.block _ b=>cdp p b
 | 0 :: p,.loop b=>cdp p b
 | _,_=>.skip
section
variable {U:Type} {El:U→Type} {P:Program} {E:Univ U El} [Drw]
def bldZ : Option Value → Bool
  | some (.agg cs) => match cs.toList with
    | [.pointer none,.slice none 0 0]=>true
    | _=>false
  | _=>false
theorem bldZ_ok {z:Option Value} (h:bldZ z=true):z=some (.agg #[.pointer none,.slice none 0 0]):=by
 unfold bldZ at h
 split at h
 ·rename_i cs
  split at h
  ·rename_i e; congr 2; apply Array.ext'; simpa using e
  ·cases h
 ·cases h
def ptrZ:Option Value→Bool
 | some (.pointer none)=>true
 | _=>false
theorem ptrZ_ok {z:Option Value} (h:ptrZ z=true):z=some (.pointer none):=by
 unfold ptrZ at h
 split at h
 ·rfl
 ·cases h
def tdChk (P : Program) (E : Univ U El) (t : TypeId) (td : TD U) : Bool :=
  (match P.info? t with | some i=>agT P t||Nat.beq i.size 1 | none=>false) &&
  match P.underlying t,td with
  | some d,.one=>!(agD d)
  | some .bool,.bool=>true
  | some (.pointer _),.ptr=>true
  | some (.interface _),.iface=>true
  | some (.int k),.int k'=>decide (k=k')
  | some .string,.str=>true
  | some (.slice e),.slice u=>Nat.beq e (E.tid u)
  | some (.map k e),.map u v=>Nat.beq k (E.tid u)&&Nat.beq e (E.tid v)
  | some (.map k e), .amap u => Nat.beq k (E.tid u) && (match P.underlying e, P.info? e with
    | some (.pointer _),some i=>ptrZ i.zero
    | _,_=>false)
  | some (.struct fields), .struct fs sz =>
    (match P.info? t with | some i=>Nat.beq i.size sz&&(match i.zero with | some z=>Nat.beq z.cells.size sz | none=>false) | none=>false) &&
    !(P.stoodInHeld t) && !(P.eqGuardType P.depth t)&&decide (fs=fields.toList.map (fun f=>(f.offset,szT P f.type,agT P f.type))) &&
    fields.toList.all fun f=>(P.underlying f.type).isSome&&(match P.info? f.type with | some i=>!(Nat.beq i.size 0) | none=>false)
  | some _,.bld u=>Nat.beq (E.sz u) 1&&(match P.info? t with | some i=>Nat.beq i.size 2&&bldZ i.zero | none=>false)
  | some (.array n e), .arr n' es ea sz =>
    Nat.beq n n'&&(match P.info? t with | some i=>Nat.beq i.size sz&&(match i.zero with | some z=>Nat.beq z.cells.size sz | none=>false) | none=>false) &&
    (match P.info? e with | some i=>Nat.beq i.size es | none=>false)&&(match P.underlying e with | some d=>agD d == ea | none=>false)
  | _,_=>false
theorem tdChk_ok {t:TypeId} {td:TD U} (h:tdChk P E t td=true):TDOk P E t td ∧ ∃ i,P.info? t=some i ∧ (agT P t=false → i.size=1):=by
 unfold tdChk at h
 rw [Bool.and_eq_true] at h
 obtain ⟨h0,h⟩:=h
 refine ⟨?_,?_⟩
 ·split at h
  ·rename_i d hu; exact ⟨d,hu,by simpa using h⟩
  ·rename_i hu; exact hu
  ·rename_i e hu; exact ⟨e,hu⟩
  ·rename_i e hu; exact ⟨e,hu⟩
  ·rename_i k k' hu; have:k=k':=by simpa using h
   subst this; exact hu
  ·rename_i hu; exact hu
  ·rename_i e u hu; have:=Nat.eq_of_beq_eq_true h
   subst this; exact hu
  ·rename_i k e u v hu
   simp only [Bool.and_eq_true] at h
   have h1:=Nat.eq_of_beq_eq_true h.1
   have h2:=Nat.eq_of_beq_eq_true h.2
   subst h1 h2; exact hu
  ·rename_i k e u hu
   simp only [Bool.and_eq_true] at h
   have h1:=Nat.eq_of_beq_eq_true h.1
   subst h1
   have h2:=h.2
   split at h2
   ·rename_i e' i hue hi
    exact ⟨e,e',hu,hue,i,hi,ptrZ_ok h2⟩
   ·cases h2
  ·rename_i fields fs sz hu
   simp only [Bool.and_eq_true,Bool.not_eq_true',decide_eq_true_eq] at h
   obtain ⟨⟨⟨⟨h1,h2⟩,h3⟩,h4⟩,h5⟩:=h
   refine ⟨fields,hu,?_,h2,h3,h4,fun f hf=>?_⟩
   ·split at h1
    ·rename_i i hi
     simp only [Bool.and_eq_true] at h1
     obtain ⟨e1,e2⟩:=h1
     split at e2
     ·rename_i z hz; exact ⟨i,hi,Nat.eq_of_beq_eq_true e1,z,hz,Nat.eq_of_beq_eq_true e2⟩
     ·cases e2
    ·cases h1
   ·have:=List.all_eq_true.1 h5 f hf
    simp only [Bool.and_eq_true] at this
    obtain ⟨e1,e2⟩:=this
    refine ⟨Option.isSome_iff_exists.1 e1,?_⟩
    split at e2
    ·rename_i i hi; exact ⟨i,hi,fun e=>by rw [e] at e2; cases e2⟩
    ·cases e2
  ·rename_i d u hu
   simp only [Bool.and_eq_true] at h
   obtain ⟨h1,h2⟩:=h
   split at h2
   ·rename_i i hi
    simp only [Bool.and_eq_true] at h2
    exact ⟨Nat.eq_of_beq_eq_true h1,⟨d,hu⟩,i,hi,Nat.eq_of_beq_eq_true h2.1,bldZ_ok h2.2⟩
   ·cases h2
  ·rename_i n e n' es ea sz hu
   simp only [Bool.and_eq_true] at h
   obtain ⟨⟨⟨h1,h2⟩,h3⟩,h4⟩:=h
   obtain rfl:=Nat.eq_of_beq_eq_true h1
   refine ⟨e,hu,?_,?_,?_⟩
   ·split at h2
    ·rename_i i hi
     simp only [Bool.and_eq_true] at h2
     obtain ⟨e1,e2⟩:=h2
     split at e2
     ·rename_i z hz; exact ⟨i,hi,Nat.eq_of_beq_eq_true e1,z,hz,Nat.eq_of_beq_eq_true e2⟩
     ·cases e2
    ·cases h2
   ·split at h3
    ·rename_i i hi; exact ⟨i,hi,Nat.eq_of_beq_eq_true h3⟩
    ·cases h3
   ·split at h4
    ·rename_i d hd; exact ⟨d,hd,by simpa using h4⟩
    ·cases h4
  ·cases h
 ·split at h0
  ·rename_i i hi
   refine ⟨i,hi,fun he=>?_⟩
   rw [he] at h0
   exact Nat.eq_of_beq_eq_true (by simpa using h0)
  ·cases h0
def eqChk (P:Program) (t:TypeId) (ts:List Nat):Bool :=
  match P.underlying t with
  | some (.struct fields) => !(P.stoodInHeld t) && !(P.eqGuardType P.depth t)&&Nat.beq fields.toList.length ts.length &&
      (fields.toList.zip ts).zipIdx.all fun ((f, k), i) => !(f.name == "_") && Nat.beq f.offset i && (match k, P.underlying f.type with
        | 0,some (.int _)=>true
        | 1,some .bool=>true
        | 2,some .string=>true
        | _,_=>false)
  | some (.array n e) => !(P.eqGuardType P.depth t)&&(P.info? e).isSome&&Nat.beq (P.cellsOf e) 1&&(match ts with
      | k :: _ => decide (ts = List.replicate n k) && (match k, P.underlying e with
        | 0,some (.int _)=>true
        | 1,some .bool=>true
        | 2,some .string=>true
        | _,_=>false)
      | []=>false)
  | _=>false
theorem eqChk_ok {t:TypeId} {ts:List Nat} (h:eqChk P t ts=true):EqOk P t ts:=by
 unfold eqChk at h
 split at h
 ·rename_i fields hu
  simp only [Bool.and_eq_true,Bool.not_eq_true'] at h
  obtain ⟨⟨⟨h1,h2⟩,h3⟩,h4⟩:=h
  refine .inl ⟨fields,hu,h1,h2,Nat.eq_of_beq_eq_true h3,fun i f k hf hk=>?_⟩
  have hz:((f,k),i)∈(fields.toList.zip ts).zipIdx:=by
   rw [List.mem_zipIdx_iff_getElem?]
   simp [List.getElem?_zip_eq_some,hf,hk]
  have:=List.all_eq_true.1 h4 _ hz
  simp only [Bool.and_eq_true,Bool.not_eq_true'] at this
  obtain ⟨⟨e1,e2⟩,e3⟩:=this
  refine ⟨by simpa using e1,Nat.eq_of_beq_eq_true e2,?_⟩
  split at e3
  ·rename_i kd hk'; exact ⟨kd,hk'⟩
  ·rename_i hk'; exact hk'
  ·rename_i hk'; exact hk'
  ·cases e3
 ·rename_i n e hu
  simp only [Bool.and_eq_true,Bool.not_eq_true'] at h
  obtain ⟨⟨⟨h1,h2⟩,h3⟩,h4⟩:=h
  obtain ⟨ie,hi⟩:=Option.isSome_iff_exists.1 h2
  split at h4
  ·rename_i k ts'
   simp only [Bool.and_eq_true,decide_eq_true_eq] at h4
   refine .inr ⟨n,e,ie,k,hu,hi,Nat.eq_of_beq_eq_true h3,h1,h4.1,?_⟩
   have h5:=h4.2
   split at h5
   ·rename_i kd hk'; exact ⟨kd,hk'⟩
   ·rename_i hk'; exact hk'
   ·rename_i hk'; exact hk'
   ·cases h5
  ·cases h4
 ·cases h
theorem tabOk [DecidableEq U] {tds:List (TypeId×TD U)} {zeros:List (TypeId×Value)} {eqs:List (TypeId×List Nat)} (hm:P.follows .mixedOrders=true) (hu:UGood P E) (ht:(tds.all fun p=>tdChk P E p.1 p.2)=true)
  (hz:∀ p∈zeros,∃ i,P.info? p.1=some i∧i.zero=some p.2) (he:(eqs.all fun p=>eqChk P p.1 p.2)=true):TabOk P E tds zeros eqs :=
 ⟨hm,hu,td_all fun p hp=>(tdChk_ok (List.all_eq_true.1 ht p hp)).1,z_all hz,td_all fun p hp=>(tdChk_ok (List.all_eq_true.1 ht p hp)).2,e_all fun p hp=>eqChk_ok (List.all_eq_true.1 he p hp)⟩
end
end Go.Proofs.YthdimnlkcgchoaaGreat
namespace Go.Proofs.YthdimnlkcgchoaaGreat
set_option linter.all false
open Go.RowKit Go.Lib
section
variable {U:Type} {El:U→Type} {P:Program} {X:Ctx U El} {S S0:Nat→Prop} {ρ:Rho} {w w0:World} [DecidableEq U] [Drw]
variable {a:Act} {st:St U El} {B:Bd} {d:Nat} {r:Fin U El}
structure ByteU (E:Univ U El) (u:U) (mk:List UInt8→List (El u)) (un:List (El u)→List UInt8):Prop where
 sz:E.sz u=1
 by_:E.by_ u=1
 len:∀ s,(mk s).length=s.length
 enc:∀ (s:List UInt8) (i:Nat),i < s.length→∃ y,(mk s)[i]? = some y∧E.enc u y=[.int .u8 (s.getD i 0).toNat]
 lenU:∀ xs,(un xs).length=xs.length
 encU:∀ (xs:List (El u)) (i:Nat) (y:El u),xs[i]? = some y→∃ b:UInt8,(un xs)[i]? = some b∧E.enc u y=[.int .u8 b.toNat]
abbrev SpM (U:Type) (El:U→Type):=Nat→List (AV U El)→St U El→(AV U El→St U El→Option (Fin U El))→Option (Fin U El)
def mspecOf:List (FuncId×SpM U El)→FuncId→Option (SpM U El)
 | [],_=>none
 | (g,sp) :: l,f=>bif Nat.beq g f then some sp else mspecOf l f
theorem mspecOf_ok:∀ (l:List (FuncId×SpM U El)),(∀ p∈l,SpMOk P X p.1 p.2)→∀ g sp,mspecOf l g=some sp→SpMOk P X g sp:=by
  intro l
  induction l with
  | nil=>intro _ g sp h; cases h
  | cons p l ih =>
    intro h g sp hg
    obtain ⟨f,q⟩:=p
    simp only [mspecOf] at hg
    by_cases e:f=g
    · subst e; rw [Nat.beq_refl] at hg; cases hg; exact h (f,sp) (by simp)
    · rw [nbeq_ne e] at hg; exact ih (fun p hp=>h p (by simp [hp])) g sp hg
structure SameBut (g:Option Nat) (w w':World):Prop where
 os:w'.os=w.os
 tape:w'.tape=w.tape
 output:w'.output=w.output
 size:w'.heap.size=w.heap.size
 drawn:Drw.on→w.drawn≤w'.drawn
 block:∀ k,some k≠g→w'.heap[k]? = w.heap[k]?
theorem SameBut.drew (w:World) (g:Option Nat):SameBut g w w.drew:=⟨rfl,rfl,rfl,rfl,fun _=>Nat.le_succ _,fun _ _=>rfl⟩
structure SameAt (Q:Nat→Prop) (w w':World):Prop where
 os:w'.os=w.os
 tape:w'.tape=w.tape
 output:w'.output=w.output
 size:w.heap.size≤w'.heap.size
 drawn:Drw.on→w.drawn≤w'.drawn
 block:∀ k,k < w.heap.size→¬ Q k→w'.heap[k]? = w.heap[k]?
theorem SameBut.mono {g:Option Nat} {Q:Nat→Prop} {w':World} (h:SameBut g w w') (hq:∀ k,some k=g→Q k):SameAt Q w w' :=
 ⟨h.os,h.tape,h.output,Nat.le_of_eq h.size.symm,h.drawn,fun k _ hk=>h.block k (fun e=>hk (hq k e))⟩
theorem Inv.add {s:Nat} {u:U} {xs:List (El u)} {l:Loc} (hi:Inv X B S0 w0 S ρ st a w) (hs:ρ s=none) (hb:∀ ρ',BlkRel X.E S ρ' w B l (.rows u xs))
  (hsep:∀ j b l',hget st.h j=some b→ρ j=some l'→l'.n≠0→l.n≠0→l'.b≠l.b):Inv X B S0 w0 S (ρ.set s l) ⟨st.t,(s,.rows u xs) :: st.h⟩ a w:=by
 have e1:(ρ.set s l) s=some l:=by simp [Rho.set]
 have hext:∀ j l',ρ j=some l'→(ρ.set s l) j=some l':=fun j l' h=>by
  by_cases e:j=s
  ·subst e; rw [hs] at h; cases h
  ·simp [Rho.set,e,h]
 refine ⟨hi.defers,hi.size,hi.below,hi.hB,hi.s0,hi.s1,hi.g0,fun i=>(hi.tmps i).mono (fun _ h=>h) (fun _ _=>rfl) hext,⟨fun j b hg=>?_,fun i j b b' l1 l2 hgi hgj hne hli hlj hn1 hn2=>?_,hi.heap.lt⟩⟩
 ·simp only [hget] at hg
  by_cases e:s=j
  ·subst e; rw [Nat.beq_refl] at hg; cases hg; exact ⟨l,e1,hb _⟩
  ·rw [nbeq_ne e] at hg
   obtain ⟨l',h1,h2⟩:=hi.heap.get j b hg
   exact ⟨l',hext j l' h1,h2.mono (fun _ h=>h) (fun _ _=>rfl) hext (fun hn=>⟨rfl,(h2.lt hn).2.2⟩)⟩
 ·simp only [hget] at hgi hgj
  by_cases ei:s=i
  ·subst ei
   rw [e1] at hli; cases hli
   rw [nbeq_ne hne] at hgj
   have hlj':ρ j=some l2:=by simpa [Rho.set,Ne.symm hne] using hlj
   exact (hsep j b' l2 hgj hlj' hn2 hn1).symm
  ·rw [nbeq_ne ei] at hgi
   have hli':ρ i=some l1:=by simpa [Rho.set,Ne.symm ei] using hli
   by_cases ej:s=j
   ·subst ej
    rw [e1] at hlj; cases hlj
    exact hsep i b l1 hgi hli' hn1 hn2
   ·rw [nbeq_ne ej] at hgj
    have hlj':ρ j=some l2:=by simpa [Rho.set,Ne.symm ej] using hlj
    exact hi.heap.inj i j b b' l1 l2 hgi hgj hne hli' hlj' hn1 hn2
end
end Go.Proofs.YthdimnlkcgchoaaGreat
