/- What the program's tables say, asked of the kernel in one go; parts of a function's code; names for the generated texts. -/
import Derived.Test.YtkeplmpcijigaaaLN
import Derived.KernelRfl
namespace Go.Proofs.Ytkeplmpcijigaaa
set_option linter.unusedVariables false
set_option linter.unusedSectionVars false
set_option linter.unusedSimpArgs false
def cdp:List Nat→Code→Code
  | [],c=>c
  | 0 :: p,.seq a _=>cdp p a
  | 1 :: p,.seq _ b=>cdp p b
  | 0 :: p,.cond _ a _=>cdp p a
  | 1 :: p,.cond _ _ b=>cdp p b
  | 0 :: p,.block _ b=>cdp p b
  | 0 :: p,.loop b=>cdp p b
  | _,_ => .skip
section
variable {U:Type} {El:U→Type} {P:Program} {E:Univ U El} [Drw]
def bldZ : Option Value → Bool
  | some (.agg cs) => match cs.toList with
    | [.pointer none,.slice none 0 0]=>true
    | _=>false
  | _=>false
theorem bldZ_ok {z:Option Value} (h:bldZ z=true):z=some (.agg #[.pointer none,.slice none 0 0]):=by
  unfold bldZ at h
  split at h
  · rename_i cs
    split at h
    · rename_i e; congr 2; apply Array.ext'; simpa using e
    · cases h
  · cases h
def ptrZ:Option Value→Bool
  | some (.pointer none)=>true
  | _=>false
theorem ptrZ_ok {z:Option Value} (h:ptrZ z=true):z=some (.pointer none):=by
  unfold ptrZ at h
  split at h
  · rfl
  · cases h
def tdChk (P : Program) (E : Univ U El) (t : TypeId) (td : TD U) : Bool :=
  (match P.info? t with | some i=>agT P t||Nat.beq i.size 1 | none=>false) &&
  match P.underlying t,td with
  | some d,.one => !(agD d)
  | some .bool,.bool=>true
  | some (.pointer _),.ptr=>true
  | some (.interface _),.iface=>true
  | some (.int k),.int k'=>decide (k=k')
  | some .string,.str=>true
  | some (.slice e),.slice u=>Nat.beq e (E.tid u)
  | some (.map k e),.map u v=>Nat.beq k (E.tid u)&&Nat.beq e (E.tid v)
  | some (.map k e), .amap u => Nat.beq k (E.tid u) && (match P.underlying e, P.info? e with
    | some (.pointer _),some i=>ptrZ i.zero
    | _,_=>false)
  | some (.struct fields), .struct fs sz =>
    (match P.info? t with | some i=>Nat.beq i.size sz&&(match i.zero with | some z=>Nat.beq z.cells.size sz | none=>false) | none=>false) &&
    !(P.stoodInHeld t) && !(P.eqGuardType P.depth t)&&decide (fs=fields.toList.map (fun f=>(f.offset,szT P f.type,agT P f.type))) &&
    fields.toList.all fun f=>(P.underlying f.type).isSome&&(match P.info? f.type with | some i => !(Nat.beq i.size 0) | none=>false)
  | some _,.bld u=>Nat.beq (E.sz u) 1&&(match P.info? t with | some i=>Nat.beq i.size 2&&bldZ i.zero | none=>false)
  | some (.array n e), .arr n' es ea sz =>
    Nat.beq n n'&&(match P.info? t with | some i=>Nat.beq i.size sz&&(match i.zero with | some z=>Nat.beq z.cells.size sz | none=>false) | none=>false) &&
    (match P.info? e with | some i=>Nat.beq i.size es | none=>false)&&(match P.underlying e with | some d=>agD d == ea | none=>false)
  | _,_=>false
theorem tdChk_ok {t : TypeId} {td : TD U} (h : tdChk P E t td = true) : TDOk P E t td ∧ ∃ i, P.info? t = some i ∧ (agT P t = false → i.size = 1) := by
  unfold tdChk at h
  rw [Bool.and_eq_true] at h
  obtain ⟨h0,h⟩:=h
  refine ⟨?_,?_⟩
  · split at h
    · rename_i d hu; exact ⟨d,hu,by simpa using h⟩
    · rename_i hu; exact hu
    · rename_i e hu; exact ⟨e,hu⟩
    · rename_i e hu; exact ⟨e,hu⟩
    · rename_i k k' hu; have : k = k' := by simpa using h
      subst this; exact hu
    · rename_i hu; exact hu
    · rename_i e u hu; have := Nat.eq_of_beq_eq_true h
      subst this; exact hu
    · rename_i k e u v hu
      simp only [Bool.and_eq_true] at h
      have h1:=Nat.eq_of_beq_eq_true h.1
      have h2:=Nat.eq_of_beq_eq_true h.2
      subst h1 h2; exact hu
    · rename_i k e u hu
      simp only [Bool.and_eq_true] at h
      have h1:=Nat.eq_of_beq_eq_true h.1
      subst h1
      have h2:=h.2
      split at h2
      · rename_i e' i hue hi
        exact ⟨e,e',hu,hue,i,hi,ptrZ_ok h2⟩
      · cases h2
    · rename_i fields fs sz hu
      simp only [Bool.and_eq_true,Bool.not_eq_true',decide_eq_true_eq] at h
      obtain ⟨⟨⟨⟨h1,h2⟩,h3⟩,h4⟩,h5⟩:=h
      refine ⟨fields,hu,?_,h2,h3,h4,fun f hf => ?_⟩
      · split at h1
        · rename_i i hi
          simp only [Bool.and_eq_true] at h1
          obtain ⟨e1,e2⟩:=h1
          split at e2
          · rename_i z hz; exact ⟨i,hi,Nat.eq_of_beq_eq_true e1,z,hz,Nat.eq_of_beq_eq_true e2⟩
          · cases e2
        · cases h1
      · have := List.all_eq_true.1 h5 f hf
        simp only [Bool.and_eq_true] at this
        obtain ⟨e1,e2⟩:=this
        refine ⟨Option.isSome_iff_exists.1 e1,?_⟩
        split at e2
        · rename_i i hi; exact ⟨i,hi,fun e=>by rw [e] at e2; cases e2⟩
        · cases e2
    · rename_i d u hu
      simp only [Bool.and_eq_true] at h
      obtain ⟨h1,h2⟩:=h
      split at h2
      · rename_i i hi
        simp only [Bool.and_eq_true] at h2
        exact ⟨Nat.eq_of_beq_eq_true h1,⟨d,hu⟩,i,hi,Nat.eq_of_beq_eq_true h2.1,bldZ_ok h2.2⟩
      · cases h2
    · rename_i n e n' es ea sz hu
      simp only [Bool.and_eq_true] at h
      obtain ⟨⟨⟨h1,h2⟩,h3⟩,h4⟩:=h
      obtain rfl:=Nat.eq_of_beq_eq_true h1
      refine ⟨e,hu,?_,?_,?_⟩
      · split at h2
        · rename_i i hi
          simp only [Bool.and_eq_true] at h2
          obtain ⟨e1,e2⟩:=h2
          split at e2
          · rename_i z hz; exact ⟨i,hi,Nat.eq_of_beq_eq_true e1,z,hz,Nat.eq_of_beq_eq_true e2⟩
          · cases e2
        · cases h2
      · split at h3
        · rename_i i hi; exact ⟨i,hi,Nat.eq_of_beq_eq_true h3⟩
        · cases h3
      · split at h4
        · rename_i d hd; exact ⟨d,hd,by simpa using h4⟩
        · cases h4
    · cases h
  · split at h0
    · rename_i i hi
      refine ⟨i,hi,fun he => ?_⟩
      rw [he] at h0
      exact Nat.eq_of_beq_eq_true (by simpa using h0)
    · cases h0
def eqChk (P:Program) (t:TypeId) (ts:List Nat):Bool :=
  match P.underlying t with
  | some (.struct fields) => !(P.stoodInHeld t) && !(P.eqGuardType P.depth t)&&Nat.beq fields.toList.length ts.length &&
      (fields.toList.zip ts).zipIdx.all fun ((f, k), i) => !(f.name == "_") && Nat.beq f.offset i && (match k, P.underlying f.type with
        | 0,some (.int _)=>true
        | 1,some .bool=>true
        | 2,some .string=>true
        | _,_=>false)
  | some (.array n e) => !(P.eqGuardType P.depth t)&&(P.info? e).isSome&&Nat.beq (P.cellsOf e) 1&&(match ts with
      | k :: _ => decide (ts = List.replicate n k) && (match k, P.underlying e with
        | 0,some (.int _)=>true
        | 1,some .bool=>true
        | 2,some .string=>true
        | _,_=>false)
      | []=>false)
  | _=>false
theorem eqChk_ok {t:TypeId} {ts:List Nat} (h:eqChk P t ts=true):EqOk P t ts:=by
  unfold eqChk at h
  split at h
  · rename_i fields hu
    simp only [Bool.and_eq_true,Bool.not_eq_true'] at h
    obtain ⟨⟨⟨h1,h2⟩,h3⟩,h4⟩:=h
    refine .inl ⟨fields,hu,h1,h2,Nat.eq_of_beq_eq_true h3,fun i f k hf hk => ?_⟩
    have hz:((f,k),i)∈(fields.toList.zip ts).zipIdx:=by
      rw [List.mem_zipIdx_iff_getElem?]
      simp [List.getElem?_zip_eq_some,hf,hk]
    have:=List.all_eq_true.1 h4 _ hz
    simp only [Bool.and_eq_true,Bool.not_eq_true'] at this
    obtain ⟨⟨e1,e2⟩,e3⟩:=this
    refine ⟨by simpa using e1,Nat.eq_of_beq_eq_true e2,?_⟩
    split at e3
    · rename_i kd hk'; exact ⟨kd,hk'⟩
    · rename_i hk'; exact hk'
    · rename_i hk'; exact hk'
    · cases e3
  · rename_i n e hu
    simp only [Bool.and_eq_true,Bool.not_eq_true'] at h
    obtain ⟨⟨⟨h1,h2⟩,h3⟩,h4⟩:=h
    obtain ⟨ie,hi⟩:=Option.isSome_iff_exists.1 h2
    split at h4
    · rename_i k ts'
      simp only [Bool.and_eq_true,decide_eq_true_eq] at h4
      refine .inr ⟨n,e,ie,k,hu,hi,Nat.eq_of_beq_eq_true h3,h1,h4.1,?_⟩
      have h5:=h4.2
      split at h5
      · rename_i kd hk'; exact ⟨kd,hk'⟩
      · rename_i hk'; exact hk'
      · rename_i hk'; exact hk'
      · cases h5
    · cases h4
  · cases h
theorem tabOk [DecidableEq U] {tds:List (TypeId×TD U)} {zeros:List (TypeId×Value)} {eqs:List (TypeId×List Nat)} (hm:P.follows .mixedOrders=true) (hu:UGood P E) (ht:(tds.all fun p=>tdChk P E p.1 p.2)=true)
    (hz:∀ p∈zeros,∃ i,P.info? p.1=some i∧i.zero=some p.2) (he:(eqs.all fun p=>eqChk P p.1 p.2)=true):TabOk P E tds zeros eqs :=
  ⟨hm,hu,td_all fun p hp=>(tdChk_ok (List.all_eq_true.1 ht p hp)).1,z_all hz,td_all fun p hp=>(tdChk_ok (List.all_eq_true.1 ht p hp)).2,e_all fun p hp=>eqChk_ok (List.all_eq_true.1 he p hp)⟩
end
end Go.Proofs.Ytkeplmpcijigaaa
