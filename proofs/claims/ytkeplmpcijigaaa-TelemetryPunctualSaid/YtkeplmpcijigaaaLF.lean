/- The operations of a region, on: slice expressions, conversions, literals, new slices, len, max, min. -/
import Derived.Test.YtkeplmpcijigaaaLE
namespace Go.Proofs.Ytkeplmpcijigaaa
set_option linter.unusedVariables false
set_option linter.unusedSectionVars false
set_option linter.unusedSimpArgs false
open Go.RowKit
section
variable {U:Type} {El:U→Type} {P:Program} {X:Ctx U El} {S:Nat→Prop} {ρ:Rho} {w:World} [DecidableEq U] [Drw]
variable {o:Oper} {a:Act} {t:Tmps U El} {h H:Heap U El} {B:Bd} {d:Nat} {r:Fin U El}
theorem op_binOp {op:BinOp} {ty yt:TypeId} {x y:Operand} {k:Out U El→Option (Fin U El)} (hX:CtxOk P X) (ho:o.op = .binOp op ty x y yt) (hb:binOk X ty y (oget t y)=true)
    (hv:absBin op (eGet X.eqs ty) (oget t x) (oget t y) (fun v=>k ⟨v,[]⟩)=some r) (hT:TRel X.E S ρ w o t a) (hlt:∀ b,S b→b < w.heap.size):∃ out,k out=some r∧OpDone P X.E S ρ w o a d out:=by
  have h1:=hT.get (x:=x) (by simp [ho,Op.operands])
  have h2:=hT.get (x:=y) (by simp [ho,Op.operands])
  obtain ⟨av,v,hk,hrun,hr⟩:=absBin_run (xo:=x) (yo:=y) hX h1 h2
    (fun e=>by
      rw [e] at hb; unfold binOk at hb; dsimp only at hb; split at hb
      · cases y<;>first | exact ⟨_,rfl⟩ | (cases hb; done)
      · cases hb)
    (fun e=>by
      rw [e] at hb; unfold binOk at hb; dsimp only at hb; split at hb
      · rename_i e'; exact hX.td _ _ e'
      · cases hb)
    (fun e=>by
      rw [e] at hb; unfold binOk at hb; dsimp only at hb; split at hb
      · rename_i e'; exact hX.td _ _ e'
      · cases hb)
    (fun b e=>by
      rw [e] at hb; unfold binOk at hb; dsimp only at hb; split at hb
      · rename_i e'; exact hX.td _ _ e'
      · cases hb)
    (fun e=>by
      rw [e] at hb; unfold binOk at hb; dsimp only at hb; split at hb
      · rename_i u e'; exact ⟨_,hX.td _ _ e'⟩
      · cases hb) hv
  refine ⟨_,hk,done_value (v:=v) ?_ hr hlt⟩
  have e:(execOp a.eval o).run P w=(do let v ← (do eqGuard op ty x y (a.eval x) (a.eval y); binOp op ty (a.eval x) (a.eval y):Sem Value); pure (Next.value v):Sem Next).run P w:=by simp only [execOp,ho]
  rw [e]
  simp only [Sem.run_bind] at hrun ⊢
  rw [hrun]
  rfl
theorem run_bounds {isS:Bool} {len cap:Nat} {lo hi:Option Operand} {kl kg:IntKind} {l g:Int} (hl:(match lo with | some o=>oget t o | none=>AV.int .i64 0) = .int kl l) (hg:(match hi with | some o=>oget t o | none=>AV.int .i64 len) = .int kg g)
    (hlo:∀ x,lo=some x→Rel X.E S ρ w (oget t x) (a.eval x)) (hhi:∀ x,hi=some x→Rel X.E S ρ w (oget t x) (a.eval x)) (h0:0≤l) (h1:l≤g) (h2:g≤len) (h3:len≤cap) :
    (Instr.sliceBounds isS len cap (lo.map a.eval) (hi.map a.eval) none).run P w = .ok (l.toNat,g.toNat,cap) w:=by
  have hlv:∀ x,lo=some x→a.eval x = .int kl l:=fun x e=>by
    have:=hlo x e; subst e; simp only at hl; rw [hl] at this; generalize hq:a.eval x=q at this; cases this; rfl
  have hgv:∀ x,hi=some x→a.eval x = .int kg g:=fun x e=>by
    have:=hhi x e; subst e; simp only at hg; rw [hg] at this; generalize hq:a.eval x=q at this; cases this; rfl
  have e1:g≤(cap:Int):=by omega
  have e2:0≤g:=by omega
  have e3:l≤(g.toNat:Int):=by omega
  cases lo with
  | none =>
    simp only [AV.int.injEq] at hl
    obtain ⟨_,rfl⟩:=hl
    cases hi with
    | none=>simp only [AV.int.injEq] at hg; obtain ⟨_,rfl⟩:=hg; simp [Instr.sliceBounds]
    | some y=>simp [Instr.sliceBounds,hgv y rfl,Instr.sliceBound,asIntOf,e1,e2]
  | some x =>
    cases hi with
    | none=>simp only [AV.int.injEq] at hg; obtain ⟨_,rfl⟩:=hg; simp at e3; simp [Instr.sliceBounds,hlv x rfl,Instr.sliceBound,asIntOf,h0,h1]
    | some y=>(simp [Instr.sliceBounds,hlv x rfl,hgv y rfl,Instr.sliceBound,asIntOf,e1,e2,e3,h0]; try (intro hh; omega))
theorem bounds_iff {l g:Int} {n:Nat} (h:(ile 0 l&&ile l g&&ile g n)=true):0≤l∧l≤g∧g≤n:=by
  simp [ile] at h; omega
theorem sub_get {α:Type} {s:List α} {l g:Int} {i:Nat} {x:α} (h0:0≤l) (h:(sub s l g)[i]? = some x):s[l.toNat+i]? = some x∧i < g.toNat - l.toNat:=by
  unfold sub at h
  rw [List.getElem?_take] at h
  split at h
  · rename_i hi; exact ⟨by rw [List.getElem?_drop] at h; exact h,hi⟩
  · cases h
theorem sub_len {α:Type} {s:List α} {l g:Int} (h0:0≤l) (h1:l≤g) (h2:g≤s.length):(sub s l g).length=g.toNat - l.toNat:=by
  unfold sub; simp; omega
theorem lst_sub {u:U} {xs:List (El u)} {ao:Option Addr} {cap:Nat} {l g:Int} (hr:Rel X.E S ρ w (.lst u xs) (.slice ao xs.length cap)) (h0:0≤l) (h1:l≤g) (h2:g≤xs.length) :
    Rel X.E S ρ w (.lst u (sub xs l g)) (.slice (if cap=l.toNat then ao else ao.map (·.add (l.toNat * X.E.sz u))) (g.toNat - l.toNat) (cap - l.toNat)):=by
  have hlen:=sub_len h0 h1 h2
  by_cases he:g.toNat - l.toNat=0
  · have : sub xs l g = [] := List.eq_nil_of_length_eq_zero (by rw [hlen]; exact he)
    rw [this,he]
    exact .lstE u _ _
  · generalize hq : Value.slice ao xs.length cap = q at hr
    cases hr with
    | lstE=>simp at h2; omega
    | lst _ _ b off cap' val hS hc hcell hrel =>
      cases hq
      rw [if_neg (by omega),← hlen]
      simp only [Option.map_some,addr_add]
      refine .lst u _ b _ _ (fun i j=>val (l.toNat+i) j) hS (by omega) (fun i x j c hi hj => ?_) (fun i x j c hi hj=>hrel _ x j c (sub_get h0 hi).1 hj)
      have:=hcell _ x j c (sub_get h0 hi).1 hj
      rwa [show off+(l.toNat+i) * X.E.sz u+j=off+l.toNat * X.E.sz u+i * X.E.sz u+j by rw [Nat.add_mul]; omega] at this
theorem op_slice {ty : TypeId} {x : Operand} {lo hi : Option Operand} {k : Out U El → Option (Fin U El)} (hX : CtxOk P X) (ho : o.op = .slice ty x lo hi none)
    (hv:evalOp X o t h d k=some r)
    (hT:TRel X.E S ρ w o t a) (hH:HRel X.E S ρ w B H) (hs:∀ id b,hget h id=some b→hget H id=some b):∃ out,k out=some r∧OpDone P X.E S ρ w o a d out:=by
  have h1:=hT.get (x:=x) (by simp [ho,Op.operands])
  have hlo:∀ y,lo=some y→Rel X.E S ρ w (oget t y) (a.eval y):=fun y e=>hT.get (by simp [ho,Op.operands,e])
  have hhi:∀ y,hi=some y→Rel X.E S ρ w (oget t y) (a.eval y):=fun y e=>hT.get (by simp [ho,Op.operands,e])
  simp only [evalOp,ho] at hv
  have runS:∀ (u:U) (ao:Option Addr) (len cap:Nat) (l g:Int),P.underlying ty=some (.slice (X.E.tid u))→a.eval x = .slice ao len cap→(Instr.sliceBounds true len cap (lo.map a.eval) (hi.map a.eval) none).run P w = .ok (l.toNat,g.toNat,cap) w →
      (execOp a.eval o).run P w = .ok (.value (.slice (if cap=l.toNat then ao else ao.map (·.add (l.toNat * X.E.sz u))) (g.toNat - l.toNat) (cap - l.toNat))) w:=by
    intro u ao len cap l g hu e hb
    obtain ⟨inf,z,hi',hsz,_⟩:=hX.u.info u
    simp [execOp,ho,Instr.sliceAt,run_underlying hu,Instr.slice,e,hb,run_szT hi',hsz]
  split at hv
  · rename_i s htd hx
    split at hv
    · rename_i kl l kg g hl hg
      obtain ⟨hb,hv1⟩:=chk_some hv
      obtain ⟨b0,b1,b2⟩:=bounds_iff hb
      have hu:P.underlying ty=some .string:=hX.td _ _ htd
      rw [hx] at h1
      generalize hq:a.eval x=q at h1
      cases h1
      have hrb:=run_bounds (P:=P) (isS:=false) (cap:=s.length) hl hg hlo hhi b0 b1 b2 (Nat.le_refl _)
      have hsz:(⟨s.toArray⟩:ByteArray).size=s.length:=by simp [ByteArray.size]
      refine ⟨_,hv1,done_value (v := .string ⟨(sub s l g).toArray⟩) ?_ (.str _) hH.lt⟩
      have hex:(⟨s.toArray⟩:ByteArray).extract l.toNat g.toNat=⟨(sub s l g).toArray⟩:=by
        apply ByteArray.ext
        apply Array.ext'
        rw [Lib.extract_data]
        rfl
      simp [execOp,ho,Instr.sliceAt,run_underlying hu,Instr.slice,hq,hsz,hrb,hex]
    · cases hv
  · rename_i u u' xs htd hx
    split at hv
    · rename_i kl l kg g hl hg
      obtain ⟨hd,hv1⟩:=chk_some hv
      obtain ⟨hb,hv2⟩:=chk_some hv1
      have hd:u'=u:=by simpa using hd
      clear hv hv1
      subst hd
      obtain ⟨b0,b1,b2⟩:=bounds_iff hb
      have hu:P.underlying ty=some (.slice (X.E.tid u')):=hX.td _ _ htd
      rw [hx] at h1
      generalize hq:a.eval x=q at h1
      have hlen:∃ ao cap,q = .slice ao xs.length cap∧xs.length≤cap:=by
        cases h1 with
        | lstE _ ao cap=>exact ⟨ao,cap,rfl,Nat.zero_le _⟩
        | lst _ _ b off cap val hS hc hcell hrel=>exact ⟨_,_,rfl,hc⟩
      obtain ⟨ao,cap,rfl,hcap⟩:=hlen
      have hrb:=run_bounds (P:=P) (isS:=true) hl hg hlo hhi b0 b1 b2 hcap
      exact ⟨_,hv2,done_value (runS u' ao _ cap l g hu hq hrb) (lst_sub h1 b0 b1 b2) hH.lt⟩
    · cases hv
  · rename_i u id htd hx
    split at hv
    · rename_i u' xs hg0
      split at hv
      · rename_i kl l kg g hl hg
        obtain ⟨hd,hv1⟩:=chk_some hv
        obtain ⟨hb,hv2⟩:=chk_some hv1
        have hd:u'=u:=by simpa using hd
        clear hv hv1
        subst hd
        obtain ⟨b0,b1,b2⟩:=bounds_iff hb
        have hu:P.underlying ty=some (.slice (X.E.tid u')):=hX.td _ _ htd
        obtain ⟨lc,hlc,hbl⟩:=hH.get _ _ (hs _ _ hg0)
        obtain ⟨c1,c2,c3,_⟩:=hbl
        rw [hx] at h1
        generalize hq:a.eval x=q at h1
        cases h1 with
        | ful _ cap l' hl' hc1 hc2 =>
          rw [hlc] at hl'; cases hl'
          rw [c2] at hq hc2
          have hrb:=run_bounds (P:=P) (isS:=true) hl hg hlo hhi b0 b1 b2 hc2
          refine ⟨_,hv2,done_value (runS u' _ _ cap l g hu hq hrb) ?_ hH.lt⟩
          by_cases he:g.toNat - l.toNat=0
          · rw [he]; exact .ownE _ _ _ _
          · rw [if_neg (by omega), ← c1]
            simp only [Option.map_some,addr_add,Nat.zero_add]
            exact .own id l.toNat _ _ lc hlc (by rw [show l.toNat+(cap - l.toNat)=cap by omega]; exact hc1) (by omega) (by omega)
        | fulN _ l' hl' hc1 hc2 =>
          rw [hlc] at hl'; cases hl'
          have hx0:xs.length=0:=by omega
          have hrb:=run_bounds (P:=P) (isS:=true) (len:=0) (cap:=0) hl (by rw [hx0] at hg; exact hg) hlo hhi b0 b1 (by omega) (Nat.le_refl _)
          refine ⟨_,hv2,done_value (runS u' _ _ 0 l g hu hq hrb) ?_ hH.lt⟩
          rw [show g.toNat - l.toNat=0 by omega]; exact .ownE _ _ _ _
      · cases hv
    · cases hv
  · rename_i u id lo0 len htd hx
    split at hv
    · rename_i u' xs hg0
      split at hv
      · rename_i kl l kg g hl hg
        obtain ⟨hd,hv1⟩:=chk_some hv
        obtain ⟨hb,hv2⟩:=chk_some hv1
        have hd:u'=u:=by simpa using hd
        clear hv hv1
        subst hd
        obtain ⟨b0,b1,b2⟩:=bounds_iff hb
        have hu:P.underlying ty=some (.slice (X.E.tid u')):=hX.td _ _ htd
        obtain ⟨lc,hlc,hbl⟩:=hH.get _ _ (hs _ _ hg0)
        obtain ⟨c1,c2,c3,_⟩:=hbl
        rw [hx] at h1
        generalize hq:a.eval x=q at h1
        cases h1 with
        | own _ _ _ cap l' hl' hc1 hc2 hc3 =>
          rw [hlc] at hl'; cases hl'
          have hrb:=run_bounds (P:=P) (isS:=true) hl hg hlo hhi b0 b1 b2 hc2
          refine ⟨_,hv2,done_value (runS u' _ _ cap l g hu hq hrb) ?_ hH.lt⟩
          by_cases he:g.toNat - l.toNat=0
          · rw [he]; exact .ownE _ _ _ _
          · rw [if_neg (by omega), ← c1]
            simp only [Option.map_some,addr_add]
            rw [← Nat.add_mul]
            exact .own id (lo0+l.toNat) _ _ lc hlc (by rw [show lo0+l.toNat+(cap - l.toNat)=lo0+cap by omega]; exact hc1) (by omega) (by omega)
        | ownE _ _ ao cap =>
          have hrb:=run_bounds (P:=P) (isS:=true) (len:=0) (cap:=cap) hl hg hlo hhi b0 b1 (by omega) (Nat.zero_le _)
          refine ⟨_,hv2,done_value (runS u' _ _ cap l g hu hq hrb) ?_ hH.lt⟩
          rw [show g.toNat - l.toNat=0 by omega]; exact .ownE _ _ _ _
      · cases hv
    · cases hv
  · rename_i u htd hx
    split at hv
    · rename_i kl l kg g hl hg
      obtain ⟨hb,hv1⟩:=chk_some hv
      obtain ⟨b0,b1,b2⟩:=bounds_iff (n:=0) hb
      have hu:P.underlying ty=some (.slice (X.E.tid u)):=hX.td _ _ htd
      rw [hx] at h1
      generalize hq:a.eval x=q at h1
      cases h1
      have hrb:=run_bounds (P:=P) (isS:=true) (len:=0) (cap:=0) hl hg hlo hhi b0 b1 (by omega) (Nat.le_refl _)
      have el:l.toNat=0:=by omega
      have eg:g.toNat=0:=by omega
      have:=runS u none 0 0 l g hu hq hrb
      rw [el,eg] at this
      exact ⟨_,hv1,done_value this .nils hH.lt⟩
    · cases hv
  · cases hv
theorem td_und {ty:TypeId} {td:TD U} (hk:TDOk P X.E ty td):∃ d,P.underlying ty=some d:=by
  cases td with
  | one=>obtain ⟨d,h,_⟩:=hk; exact ⟨d,h⟩
  | bool=>exact ⟨_,hk⟩
  | ptr=>obtain ⟨e,h⟩:=hk; exact ⟨_,h⟩
  | iface=>obtain ⟨e,h⟩:=hk; exact ⟨_,h⟩
  | int k=>exact ⟨_,hk⟩
  | str=>exact ⟨_,hk⟩
  | slice u=>exact ⟨_,hk⟩
  | struct fs sz=>obtain ⟨f,h,_⟩:=hk; exact ⟨_,h⟩
  | arr n es ea sz=>obtain ⟨e,h,_⟩:=hk; exact ⟨_,h⟩
  | bld u=>exact hk.2.1
  | map u v=>exact ⟨_,hk⟩
  | amap u=>obtain ⟨v,e,h,_⟩:=hk; exact ⟨_,h⟩
theorem op_convert {s ty:TypeId} {x:Operand} {k:Out U El→Option (Fin U El)} (hX:CtxOk P X) (ho:o.op = .convert s ty x)
    (hv:evalOp X o t h d k=some r)
    (hT:TRel X.E S ρ w o t a) (hlt:∀ b,S b→b < w.heap.size):∃ out,k out=some r∧OpDone P X.E S ρ w o a d out:=by
  have h1:=hT.get (x:=x) (by simp [ho,Op.operands])
  simp only [evalOp,ho] at hv
  split at hv
  · rename_i td b hts htd hx
    obtain ⟨ds,hds⟩:=td_und (hX.td _ _ hts)
    have hu:P.underlying ty=some .string:=hX.td _ _ htd
    rw [hx] at h1
    generalize hq:a.eval x=q at h1
    cases h1
    refine ⟨_,hv,done_value ?_ (.str _) hlt⟩
    simp only [execOp,ho,hq,convert,Sem.run_bind,run_underlying hds,run_underlying hu,Result.andThen_ok]
    cases ds<;>rfl
  · rename_i td kd k' n hts htd hx
    obtain ⟨ds,hds⟩:=td_und (hX.td _ _ hts)
    have hu:P.underlying ty=some (.int kd):=hX.td _ _ htd
    rw [hx] at h1
    generalize hq:a.eval x=q at h1
    cases h1
    refine ⟨_,hv,done_value ?_ (.int _ _) hlt⟩
    simp only [execOp,ho,hq,convert,Sem.run_bind,run_underlying hds,run_underlying hu,Result.andThen_ok]
    cases ds<;>simp [Conv.intToInt]
  · cases hv
theorem op_len {as:Array Operand} {ts:Array TypeId} {x:Operand} {n:Nat} (ho:o.op = .call ⟨.builtin .len,as,ts⟩) (has:as.toList=[x]) (hl:lenOf h (oget t x)=some n) (hnm:∀ id,oget t x ≠ .mp id)
    (hty:∃ ty,ts[0]? = some ty∧((∃ s,oget t x = .str s)→P.underlying ty=some .string)∧((¬ ∃ s,oget t x = .str s)→∃ e,P.underlying ty=some (.slice e)))
    (hT:TRel X.E S ρ w o t a) (hH:HRel X.E S ρ w B H) (hs:∀ id b,hget h id=some b→hget H id=some b):OpDone P X.E S ρ w o a d ⟨.int .i64 n,[]⟩:=by
  have ha:as=#[x]:=by apply Array.ext'; simpa using has
  subst ha
  have h1:=hT.get (x:=x) (by simp [ho,Op.operands,Call.operands])
  obtain ⟨ty,ht0,hs1,hs2⟩:=hty
  have hrun:∀ v,(Builtin.len_ ts o.type #[a.eval x]).run P w = .ok v w→(execOp a.eval o).run P w = .ok (.value v) w:=fun v e=>by
    simp [execOp,ho,resolve,invoke,builtin,e]
  have sl:∀ ao len cap,(¬ ∃ s,oget t x = .str s)→a.eval x = .slice ao len cap→(Builtin.len_ ts o.type #[a.eval x]).run P w = .ok (.int .i64 len) w:=fun ao len cap hn e=>by
    obtain ⟨el,hu⟩:=hs2 hn
    simp [Builtin.len_,ht0,e,run_underlying hu,goInt]
  unfold lenOf at hl
  split at hl
  · rename_i s hx
    cases hl
    have hu:=hs1 ⟨_,hx⟩
    rw [hx] at h1
    generalize hq:a.eval x=q at h1
    cases h1
    refine done_value (hrun (.int .i64 s.length) ?_) (.int _ _) hH.lt
    have hsz:(⟨s.toArray⟩:ByteArray).size=s.length:=by simp [ByteArray.size]
    simp [Builtin.len_,ht0,hq,run_underlying hu,goInt,hsz]
  · rename_i hx
    cases hl
    rw [hx] at h1
    have hn:¬ ∃ s,oget t x = .str s:=by rw [hx]; rintro ⟨s,e⟩; cases e
    generalize hq:a.eval x=q at h1
    cases h1
    exact done_value (hrun _ (sl _ _ _ hn hq)) (.int _ _) hH.lt
  · rename_i u xs hx
    cases hl
    rw [hx] at h1
    have hn:¬ ∃ s,oget t x = .str s:=by rw [hx]; rintro ⟨s,e⟩; cases e
    generalize hq:a.eval x=q at h1
    cases h1 with
    | lstE=>exact done_value (hrun _ (sl _ _ _ hn hq)) (.int _ _) hH.lt
    | lst _ _ b off cap val hS hc hcell hrel=>exact done_value (hrun _ (sl _ _ _ hn hq)) (.int _ _) hH.lt
  · rename_i id hx
    split at hl
    · rename_i u xs hg
      cases hl
      obtain ⟨lc,hlc,hbl⟩:=hH.get _ _ (hs _ _ hg)
      obtain ⟨c1,c2,c3,_⟩:=hbl
      rw [hx] at h1
      have hn:¬ ∃ s,oget t x = .str s:=by rw [hx]; rintro ⟨s,e⟩; cases e
      generalize hq:a.eval x=q at h1
      cases h1 with
      | ful _ cap l' hl' hc1 hc2=>rw [hlc] at hl'; cases hl'; rw [← c2]; exact done_value (hrun _ (sl _ _ _ hn hq)) (.int _ _) hH.lt
      | fulN _ l' hl' hc1 hc2=>rw [hlc] at hl'; cases hl'; rw [← c2,hc2]; exact done_value (hrun _ (sl _ _ _ hn hq)) (.int _ _) hH.lt
    · cases hl
  · rename_i id lo len hx
    cases hl
    rw [hx] at h1
    have hn:¬ ∃ s,oget t x = .str s:=by rw [hx]; rintro ⟨s,e⟩; cases e
    generalize hq:a.eval x=q at h1
    cases h1 with
    | own _ _ _ cap l' hl' hc1 hc2 hc3=>exact done_value (hrun _ (sl _ _ _ hn hq)) (.int _ _) hH.lt
    | ownE=>exact done_value (hrun _ (sl _ _ _ hn hq)) (.int _ _) hH.lt
  · rename_i id hx; exact absurd hx (hnm id)
  · cases hl
theorem op_maxmin {as:Array Operand} {ts:Array TypeId} {x y:Operand} {ka kb:IntKind} {m n:Int} {isMax:Bool} (ho:o.op = .call ⟨.builtin (if isMax then .max else .min),as,ts⟩) (has:as.toList=[x,y]) (hx:oget t x = .int ka m) (hy:oget t y = .int kb n)
    (hT:TRel X.E S ρ w o t a) (hlt:∀ b,S b→b < w.heap.size):OpDone P X.E S ρ w o a d ⟨.int ka (if isMax then (bif ilt m n then n else m) else (bif ilt n m then n else m)),[]⟩:=by
  have ha:as=#[x,y]:=by apply Array.ext'; simpa using has
  subst ha
  have h1:=hT.get (x:=x) (by simp [ho,Op.operands,Call.operands])
  have h2:=hT.get (x:=y) (by simp [ho,Op.operands,Call.operands])
  rw [hx] at h1
  rw [hy] at h2
  generalize hq:a.eval x=q at h1
  generalize hq2:a.eval y=q2 at h2
  cases h1; cases h2
  refine done_value ?_ (.int _ _) hlt
  cases isMax
  · simp [execOp,ho,resolve,invoke,builtin,hq,hq2,Builtin.min_,Builtin.min2,ilt,cond_eq_ite]
  · simp [execOp,ho,resolve,invoke,builtin,hq,hq2,Builtin.max_,Builtin.max2,ilt,cond_eq_ite]
end
end Go.Proofs.Ytkeplmpcijigaaa
