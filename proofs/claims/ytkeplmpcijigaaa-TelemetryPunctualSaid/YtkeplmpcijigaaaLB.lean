/- What an abstract value says of a value in a world. -/
import Derived.Test.YtkeplmpcijigaaaLA
import Derived.Below
import Derived.Lib.IndexBytes
namespace Go.Proofs.Ytkeplmpcijigaaa
set_option linter.unusedVariables false
set_option linter.unusedSectionVars false
set_option linter.unusedSimpArgs false
open Go.RowKit
structure Loc where
  b:Nat
  n:Nat
  s:Nat
  ln:Nat
abbrev Rho:=Nat→Option Loc
def Rho.del (ρ:Rho) (id:Nat):Rho:=fun j=>if j=id then none else ρ j
def Rho.set (ρ:Rho) (id:Nat) (l:Loc):Rho:=fun j=>if j=id then some l else ρ j
section
variable {U:Type} {El:U→Type}
def kvOf (agg:Bool):Value→Array Value
  | .agg vs=>if agg then vs else #[.agg vs]
  | v=>if agg then #[] else #[v]
def EFit (E:Univ U El) (u:U) (x:El u) (v:Value):Prop:=if E.agg u then ∃ vs:Array Value,v = .agg vs∧vs.size=(E.enc u x).length else (E.enc u x).length=1
inductive Rel (E:Univ U El) (S:Nat→Prop) (ρ:Rho) (w:World):AV U El→Value→Prop
  | any (v:Value):Rel E S ρ w .any v
  | bool (b:Bool):Rel E S ρ w (.bool b) (.bool b)
  | int (k:IntKind) (n:Int):Rel E S ρ w (.int k n) (.int k n)
  | str (s:List UInt8):Rel E S ρ w (.str s) (.string ⟨s.toArray⟩)
  | nilp:Rel E S ρ w .nilp (.pointer none)
  | nils:Rel E S ρ w .nils (.slice none 0 0)
  | nili:Rel E S ρ w .nili .nilIface
  | nilf:Rel E S ρ w .nilf .nilFunc
  | nilm:Rel E S ρ w .nilm (.map none)
  | agg (cs:List (AV U El)) (vs:Array Value) (hl:vs.size=cs.length) (h:∀ (i:Nat) c v,cs[i]? = some c→vs[i]? = some v→Rel E S ρ w c v):Rel E S ρ w (.agg cs) (.agg vs)
  | tup (cs:List (AV U El)) (vs:Array Value) (hl:vs.size=cs.length) (h:∀ (i:Nat) c v,cs[i]? = some c→vs[i]? = some v→Rel E S ρ w c v):Rel E S ρ w (.tup cs) (.tuple vs)
  | lstE (u:U) (ao:Option Addr) (cap:Nat):Rel E S ρ w (.lst u []) (.slice ao 0 cap)
  | lst (u:U) (xs:List (El u)) (b off cap:Nat) (val:Nat→Nat→Value) (hS:S b) (hc:xs.length≤cap)
      (hcell:∀ (i:Nat) x (j:Nat) c,xs[i]? = some x→(E.enc u x)[j]? = some c→w.cell? ⟨b,off+i * E.sz u+j,none⟩=some (val i j))
      (h:∀ (i:Nat) x (j:Nat) c,xs[i]? = some x→(E.enc u x)[j]? = some c→Rel E S ρ w c (val i j)):Rel E S ρ w (.lst u xs) (.slice (some ⟨b,off,none⟩) xs.length cap)
  | ful (id cap:Nat) (l:Loc) (hl:ρ id=some l) (h1:cap * l.s≤l.n) (h2:l.ln≤cap):Rel E S ρ w (.ful id) (.slice (some ⟨l.b,0,none⟩) l.ln cap)
  | fulN (id:Nat) (l:Loc) (hl:ρ id=some l) (h1:l.n=0) (h2:l.ln=0):Rel E S ρ w (.ful id) (.slice none 0 0)
  | own (id lo len cap:Nat) (l:Loc) (hl:ρ id=some l) (h1:(lo+cap) * l.s≤l.n) (h2:len≤cap) (h3:lo+len≤l.ln):Rel E S ρ w (.own id lo len) (.slice (some ⟨l.b,lo * l.s,none⟩) len cap)
  | ownE (id lo:Nat) (ao:Option Addr) (cap:Nat):Rel E S ρ w (.own id lo 0) (.slice ao 0 cap)
  | ptr (id off:Nat) (l:Loc) (hl:ρ id=some l):Rel E S ρ w (.ptr id off) (.pointer (some ⟨l.b,off,none⟩))
  | row (id i off:Nat) (l:Loc) (hl:ρ id=some l):Rel E S ρ w (.row id i off) (.pointer (some ⟨l.b,i * l.s+off,none⟩))
  | pel (u:U) (xs:List (El u)) (i off b o cap:Nat) (h:Rel E S ρ w (.lst u xs) (.slice (some ⟨b,o,none⟩) xs.length cap)) (hi:i < xs.length):Rel E S ρ w (.pel u xs i off) (.pointer (some ⟨b,o+i * E.sz u+off,none⟩))
  | pcs (cs:List (AV U El)) (off b o:Nat) (val:Nat→Value) (hS:cs≠[]→S b) (hcell:∀ (j:Nat) c,cs[j]? = some c→w.cell? ⟨b,o+j,none⟩=some (val j)) (h:∀ (j:Nat) c,cs[j]? = some c→Rel E S ρ w c (val j)):Rel E S ρ w (.pcs cs off) (.pointer (some ⟨b,o+off,none⟩))
  | fn (f:FuncId) (fs cs:List (AV U El)) (vf vc:Array Value) (hlf:vf.size=fs.length) (hlc:vc.size=cs.length) (hf:∀ (i:Nat) c v,fs[i]? = some c→vf[i]? = some v→Rel E S ρ w c v) (hc:∀ (i:Nat) c v,cs[i]? = some c→vc[i]? = some v→Rel E S ρ w c v):Rel E S ρ w (.fn f fs cs) (.func (.func f) vf vc)
  | err (t:TypeId) (v:Value):Rel E S ρ w .err (.iface t v)
  | mp (id:Nat) (l:Loc) (hl:ρ id=some l):Rel E S ρ w (.mp id) (.map (some l.b))
  | fmp (u v:U) (es:List (El u×El v)) (b:Nat) (ents:Array MapEntry) (clock:Nat) (hS:S b) (hb:w.heap[b]? = some (.map ents clock)) (hn:ents.size=es.length)
      (hf:∀ (i:Nat) e p,ents[i]? = some e→es[i]? = some p→EFit E u p.1 e.key∧EFit E v p.2 e.val)
      (hk:∀ (i:Nat) e (p:El u×El v) (j:Nat) c x,ents[i]? = some e→es[i]? = some p→(E.enc u p.1)[j]? = some c→(kvOf (E.agg u) e.key)[j]? = some x→Rel E S ρ w c x)
      (hv:∀ (i:Nat) e (p:El u×El v) (j:Nat) c x,ents[i]? = some e→es[i]? = some p→(E.enc v p.2)[j]? = some c→(kvOf (E.agg v) e.val)[j]? = some x→Rel E S ρ w c x):Rel E S ρ w (.fmp u v es) (.map (some b))
def RelL (E:Univ U El) (S:Nat→Prop) (ρ:Rho) (w:World) (cs:List (AV U El)) (vs:Array Value):Prop :=
  vs.size=cs.length∧∀ (i:Nat) c v,cs[i]? = some c→vs[i]? = some v→Rel E S ρ w c v
def ERel (E:Univ U El) (S:Nat→Prop) (ρ:Rho) (w:World) (u:U) (x:El u) (v:Value):Prop :=
  if E.agg u then ∃ vs:Array Value,v = .agg vs∧RelL E S ρ w (E.enc u x) vs else ∃ c,E.enc u x=[c]∧Rel E S ρ w c v
theorem ERel.fit {E:Univ U El} {S:Nat→Prop} {ρ:Rho} {w:World} {u:U} {x:El u} {v:Value} (h:ERel E S ρ w u x v):EFit E u x v∧∀ (j:Nat) c y,(E.enc u x)[j]? = some c→(kvOf (E.agg u) v)[j]? = some y→Rel E S ρ w c y:=by
  unfold ERel at h
  unfold EFit
  split at h
  · rename_i e
    obtain ⟨vs,rfl,h2,h3⟩:=h
    rw [if_pos e]
    refine ⟨⟨vs,rfl,h2⟩,fun j c y hc hy => ?_⟩
    rw [e] at hy
    exact h3 j c y hc hy
  · rename_i e
    have e':E.agg u=false:=by simpa using e
    obtain ⟨c0,h1,h2⟩:=h
    rw [if_neg e,h1]
    refine ⟨rfl,fun j c y hc hy => ?_⟩
    have hk:kvOf false v=#[v]:=by cases v<;>rfl
    rw [e',hk] at hy
    match j,hc,hy with
    | 0,hc,hy=>cases hc; cases hy; exact h2
    | j+1,hc,hy=>cases hc
theorem ERel.of_fit {E:Univ U El} {S:Nat→Prop} {ρ:Rho} {w:World} {u:U} {x:El u} {v:Value} (h:EFit E u x v) (hr:∀ (j:Nat) c y,(E.enc u x)[j]? = some c→(kvOf (E.agg u) v)[j]? = some y→Rel E S ρ w c y):ERel E S ρ w u x v:=by
  unfold ERel
  unfold EFit at h
  split at h
  · rename_i e
    obtain ⟨vs,rfl,h2⟩:=h
    rw [if_pos e]
    refine ⟨vs,rfl,h2,fun j c y hc hy=>hr j c y hc ?_⟩
    rw [e]; exact hy
  · rename_i e
    have e':E.agg u=false:=by simpa using e
    rw [if_neg e]
    obtain ⟨c,hc⟩:=List.length_eq_one_iff.1 h
    refine ⟨c,hc,hr 0 c v (by rw [hc]; rfl) ?_⟩
    have hk:kvOf false v=#[v]:=by cases v<;>rfl
    rw [e',hk]; rfl
structure KeyOk (P:Program) (E:Univ U El) (u:U):Prop where
  check:∀ {S:Nat→Prop} {ρ:Rho} {w:World} {x:El u} {v:Value} (em:Bool),ERel E S ρ w u x v→(Instr.checkKey em 10000 (E.tid u) v).run P w = .ok () w
  find:∀ {S:Nat→Prop} {ρ:Rho} {w:World} {x:El u} {v:Value} (es:List MapEntry) (xs:List (El u)),ERel E S ρ w u x v→es.length=xs.length→(∀ (i:Nat) e y,es[i]? = some e→xs[i]? = some y→ERel E S ρ w u y e.key) →
    (Instr.findKey (E.tid u) v es).run P w = .ok ((midx (E.keq u) xs x).bind fun i=>(es[i]?).map fun e=>(i,e.val)) w
  stays:∀ {S:Nat→Prop} {ρ:Rho} {w:World} {x y:El u} {v v':Value},ERel E S ρ w u x v→ERel E S ρ w u y v'→E.keq u x y=true→(Instr.keyThatStays v' v).run P w = .ok v w
def ValOk (P:Program) (E:Univ U El) (v:U):Prop:=∃ i z,P.info? (E.tid v)=some i∧i.zero=some z∧∀ S ρ w,ERel E S ρ w v (E.dflt v) z
structure UGood (P:Program) (E:Univ U El):Prop where
  len:∀ u x,(E.enc u x).length=E.sz u
  pos:∀ u,0 < E.sz u
  bpos:∀ u,0 < E.by_ u
  cell:∀ u x c,c∈E.enc u x→c.cell=true
  flat:∀ u,E.fl u=true→∀ x c,c∈E.enc u x→c.flat=true
  dec:∀ u cs x,E.dec u cs=some x→cs.length=E.sz u∧∀ (j:Nat) c,(E.enc u x)[j]? = some c→∃ c',cs[j]? = some c'∧(c'=c∨(c' = .nils∧∃ u',c = .lst u' []))
  gst:∀ w w':World,E.G w→Below w.heap.size w w'→E.G w'
  key:∀ u,E.kok u=true→KeyOk P E u
  val:∀ u,E.vok u=true→ValOk P E u
  info:∀ u,∃ i z,P.info? (E.tid u)=some i∧i.size=E.sz u∧i.bytes=E.by_ u∧i.zero=some z∧z.cells.size=E.sz u ∧
    ∀ (j:Nat) c,(E.enc u (E.dflt u))[j]? = some c→∃ v,z.cells[j]? = some v∧∀ S ρ w,Rel E S ρ w c v
variable {P:Program} {E:Univ U El} {S S':Nat→Prop} {ρ ρ':Rho} {w w':World}
theorem cell_of_heap {b o:Nat} (h:w'.heap[b]? = w.heap[b]?):w'.cell? ⟨b,o,none⟩=w.cell? ⟨b,o,none⟩:=World.cell?_of_block (a:=⟨b,o,none⟩) h
theorem Rel.mono {a:AV U El} {v:Value} (hr:Rel E S ρ w a v) (hS:∀ b,S b→S' b) (hw:∀ b,S b→w'.heap[b]? = w.heap[b]?) (hρ:∀ id l,ρ id=some l→ρ' id=some l):Rel E S' ρ' w' a v:=by
  induction hr with
  | any v=>exact .any v
  | bool b=>exact .bool b
  | int k n=>exact .int k n
  | str s=>exact .str s
  | nilp=>exact .nilp
  | nils=>exact .nils
  | nili=>exact .nili
  | nilf=>exact .nilf
  | nilm=>exact .nilm
  | agg cs vs hl h ih=>exact .agg cs vs hl ih
  | tup cs vs hl h ih=>exact .tup cs vs hl ih
  | lstE u ao cap=>exact .lstE u ao cap
  | lst u xs b off cap val hb hc hcell h ih=>exact .lst u xs b off cap val (hS b hb) hc (fun i x j c hi hj=>(cell_of_heap (hw b hb)).trans (hcell i x j c hi hj)) ih
  | ful id cap l hl h1 h2=>exact .ful id cap l (hρ _ _ hl) h1 h2
  | fulN id l hl h1 h2=>exact .fulN id l (hρ _ _ hl) h1 h2
  | own id lo len cap l hl h1 h2 h3=>exact .own id lo len cap l (hρ _ _ hl) h1 h2 h3
  | ownE id lo ao cap=>exact .ownE id lo ao cap
  | ptr id off l hl=>exact .ptr id off l (hρ _ _ hl)
  | row id i off l hl=>exact .row id i off l (hρ _ _ hl)
  | pel u xs i off b o cap h hi ih=>exact .pel u xs i off b o cap ih hi
  | pcs cs off b o val hb hcell h ih=>exact .pcs cs off b o val (fun hn=>hS b (hb hn)) (fun j c hj=>(cell_of_heap (hw b (hb (by rintro rfl; cases hj)))).trans (hcell j c hj)) ih
  | fn f fs cs vf vc hlf hlc hf hc ihf ihc=>exact .fn f fs cs vf vc hlf hlc ihf ihc
  | err t v=>exact .err t v
  | mp id l hl=>exact .mp id l (hρ _ _ hl)
  | fmp u v es b ents clock hb hh hn hf hk hv ihk ihv=>exact .fmp u v es b ents clock (hS b hb) ((hw b hb).trans hh) hn hf ihk ihv
theorem mentL_get {id:Nat} {cs:List (AV U El)} (h:AV.ment.mentL id cs=false):∀ c∈cs,c.ment id=false:=by
  induction cs with
  | nil=>intro c hc; cases hc
  | cons d cs ih =>
    simp only [AV.ment.mentL,Bool.or_eq_false_iff] at h
    intro c hc
    cases hc with
    | head=>exact h.1
    | tail _ hc=>exact ih h.2 c hc
theorem cell_ment {a:AV U El} (h:a.cell=true) (id:Nat):a.ment id=false:=by
  cases a<;>first | rfl | (simp [AV.cell] at h; done)
theorem Rel.del {a:AV U El} {v:Value} (hg:UGood P E) (hr:Rel E S ρ w a v) (id:Nat) (hm:a.ment id=false):Rel E S (ρ.del id) w a v:=by
  have hρ:∀ j l,ρ j=some l→(j == id)=false→ρ.del id j=some l:=fun j l h e=>by
    have:j≠id:=by simpa using e
    simp [Rho.del,this,h]
  induction hr with
  | any v=>exact .any v
  | bool b=>exact .bool b
  | int k n=>exact .int k n
  | str s=>exact .str s
  | nilp=>exact .nilp
  | nils=>exact .nils
  | nili=>exact .nili
  | nilf=>exact .nilf
  | nilm=>exact .nilm
  | agg cs vs hl h ih=>exact .agg cs vs hl fun i c v hc hv=>ih i c v hc hv (mentL_get (by simpa [AV.ment] using hm) c (List.mem_of_getElem? hc))
  | tup cs vs hl h ih=>exact .tup cs vs hl fun i c v hc hv=>ih i c v hc hv (mentL_get (by simpa [AV.ment] using hm) c (List.mem_of_getElem? hc))
  | lstE u ao cap=>exact .lstE u ao cap
  | lst u xs b off cap val hb hc hcell h ih=>exact .lst u xs b off cap val hb hc hcell fun i x j c hi hj=>ih i x j c hi hj (cell_ment (hg.cell u x c (List.mem_of_getElem? hj)) id)
  | ful j cap l hl h1 h2=>exact .ful j cap l (hρ _ _ hl (by simpa [AV.ment] using hm)) h1 h2
  | fulN j l hl h1 h2=>exact .fulN j l (hρ _ _ hl (by simpa [AV.ment] using hm)) h1 h2
  | own j lo len cap l hl h1 h2 h3=>exact .own j lo len cap l (hρ _ _ hl (by simpa [AV.ment] using hm)) h1 h2 h3
  | ownE j lo ao cap=>exact .ownE j lo ao cap
  | ptr j off l hl=>exact .ptr j off l (hρ _ _ hl (by simpa [AV.ment] using hm))
  | row j i off l hl=>exact .row j i off l (hρ _ _ hl (by simpa [AV.ment] using hm))
  | pel u xs i off b o cap h hi ih=>exact .pel u xs i off b o cap (ih rfl) hi
  | pcs cs off b o val hb hcell h ih=>exact .pcs cs off b o val hb hcell fun j c hj=>ih j c hj (mentL_get (by simpa [AV.ment] using hm) c (List.mem_of_getElem? hj))
  | fn f fs cs vf vc hlf hlc hf hc ihf ihc =>
    simp only [AV.ment,Bool.or_eq_false_iff] at hm
    exact .fn f fs cs vf vc hlf hlc (fun i c v hc' hv=>ihf i c v hc' hv (mentL_get hm.1 c (List.mem_of_getElem? hc'))) (fun i c v hc' hv=>ihc i c v hc' hv (mentL_get hm.2 c (List.mem_of_getElem? hc')))
  | err t v=>exact .err t v
  | mp j l hl=>exact .mp j l (hρ _ _ hl (by simpa [AV.ment] using hm))
  | fmp u v es b ents clock hb hh hn hf hk hv ihk ihv=>exact .fmp u v es b ents clock hb hh hn hf (fun i e p j c x h1 h2 h3 h4=>ihk i e p j c x h1 h2 h3 h4 (cell_ment (hg.cell u p.1 c (List.mem_of_getElem? h3)) id)) (fun i e p j c x h1 h2 h3 h4=>ihv i e p j c x h1 h2 h3 h4 (cell_ment (hg.cell v p.2 c (List.mem_of_getElem? h3)) id))
theorem Rel.kill {a:AV U El} {v:Value} (hg:UGood P E) (hr:Rel E S ρ w a v) (id:Nat):Rel E S (ρ.del id) w (a.kill id) v:=by
  unfold AV.kill
  cases h:a.ment id with
  | true=>exact .any v
  | false=>exact hr.del hg id h
theorem flatL_get {cs:List (AV U El)} (h:AV.flat.flatL cs=true):∀ c∈cs,c.flat=true:=by
  induction cs with
  | nil=>intro c hc; cases hc
  | cons d cs ih =>
    simp only [AV.flat.flatL,Bool.and_eq_true] at h
    intro c hc
    cases hc with
    | head=>exact h.1
    | tail _ hc=>exact ih h.2 c hc
theorem Rel.flat {a:AV U El} {v:Value} (hr:Rel E S ρ w a v) (hf:a.flat=true):Rel E S' ρ w' a v:=by
  induction hr with
  | bool b=>exact .bool b
  | int k n=>exact .int k n
  | str s=>exact .str s
  | nilp=>exact .nilp
  | nils=>exact .nils
  | nili=>exact .nili
  | nilf=>exact .nilf
  | nilm=>exact .nilm
  | agg cs vs hl h ih=>exact .agg cs vs hl fun i c v hc hv=>ih i c v hc hv (flatL_get (by simpa [AV.flat] using hf) c (List.mem_of_getElem? hc))
  | tup cs vs hl h ih=>exact .tup cs vs hl fun i c v hc hv=>ih i c v hc hv (flatL_get (by simpa [AV.flat] using hf) c (List.mem_of_getElem? hc))
  | ful id cap l hl h1 h2=>exact .ful id cap l hl h1 h2
  | fulN id l hl h1 h2=>exact .fulN id l hl h1 h2
  | own id lo len cap l hl h1 h2 h3=>exact .own id lo len cap l hl h1 h2 h3
  | ownE id lo ao cap=>exact .ownE id lo ao cap
  | err t v=>exact .err t v
  | _=>simp [AV.flat] at hf
theorem Rel.cellρ {a:AV U El} {v:Value} (hg:UGood P E) (hr:Rel E S ρ w a v) (hf:a.cell=true):Rel E S ρ' w a v:=by
  induction hr with
  | bool b=>exact .bool b
  | int k n=>exact .int k n
  | str s=>exact .str s
  | nilp=>exact .nilp
  | nils=>exact .nils
  | nili=>exact .nili
  | nilf=>exact .nilf
  | nilm=>exact .nilm
  | err t v=>exact .err t v
  | lstE u ao cap=>exact .lstE u ao cap
  | lst u xs b off cap val hb hc hcell h ih=>exact .lst u xs b off cap val hb hc hcell fun i x j c hi hj=>ih i x j c hi hj (hg.cell u x c (List.mem_of_getElem? hj))
  | pel u xs i off b o cap h hi ih=>exact .pel u xs i off b o cap (ih rfl) hi
  | fmp u v es b ents clock hb hh hn hf' hk hv ihk ihv=>exact .fmp u v es b ents clock hb hh hn hf' (fun i e p j c x h1 h2 h3 h4=>ihk i e p j c x h1 h2 h3 h4 (hg.cell u p.1 c (List.mem_of_getElem? h3))) (fun i e p j c x h1 h2 h3 h4=>ihv i e p j c x h1 h2 h3 h4 (hg.cell v p.2 c (List.mem_of_getElem? h3)))
  | _=>simp [AV.cell] at hf
structure Bd where
  own:Nat→Prop
  pin:Nat→Option Loc
  df:List Deferred
abbrev From (w:World):Bd:=⟨fun k=>w.heap.size≤k,fun _=>none,[]⟩
class Drw where
  on:Prop
@[reducible] def drwT:Drw:=⟨True⟩
@[reducible] def drwF:Drw:=⟨False⟩
variable [Drw]
structure Fr (B:Bd) (w w':World):Prop where
  os:w'.os=w.os
  tape:w'.tape=w.tape
  output:w'.output=w.output
  size:w.heap.size≤w'.heap.size
  drawn:Drw.on→w.drawn≤w'.drawn
  block:∀ k,k < w.heap.size→¬ B.own k→w'.heap[k]? = w.heap[k]?
theorem Fr.refl (B:Bd) (w:World):Fr B w w:=⟨rfl,rfl,rfl,Nat.le_refl _,fun _=>Nat.le_refl _,fun _ _ _=>rfl⟩
theorem Fr.trans {B:Bd} {a b c:World} (h:Fr B a b) (k:Fr B b c):Fr B a c :=
  ⟨k.os.trans h.os,k.tape.trans h.tape,k.output.trans h.output,Nat.le_trans h.size k.size,fun d_=>Nat.le_trans (h.drawn d_) (k.drawn d_),fun i hi hb=>(k.block i (Nat.lt_of_lt_of_le hi h.size) hb).trans (h.block i hi hb)⟩
theorem Fr.mono {B B':Bd} {w w':World} (h:Fr B w w') (hB:∀ k,B.own k→B'.own k):Fr B' w w' :=
  ⟨h.os,h.tape,h.output,h.size,h.drawn,fun k hk hb=>h.block k hk fun h'=>hb (hB k h')⟩
theorem Fr.drew {B:Bd} {a w:World} (h:Fr B a w):Fr B a w.drew:=⟨h.os,h.tape,h.output,h.size,fun d_=>Nat.le_succ_of_le (h.drawn d_),h.block⟩
theorem Fr.below {w w':World} (h:Fr (From w) w w'):Below w.heap.size w w':=⟨h.os,h.tape,h.output,h.size,fun k hk=>h.block k hk (Nat.not_le_of_lt hk)⟩
def BlkRel (E:Univ U El) (S:Nat→Prop) (ρ:Rho) (w:World) (B:Bd) (l:Loc):Blk U El→Prop
  | .rows u xs=>l.s=E.sz u∧l.ln=xs.length∧xs.length * E.sz u≤l.n∧(l.n≠0→B.own l.b∧¬ S l.b∧∃ c,w.heap[l.b]? = some (.cells c (E.tid u) (0,0))∧c.size=l.n ∧
      ∀ (i:Nat) x (j:Nat) a,xs[i]? = some x→(E.enc u x)[j]? = some a→∃ v,c[i * E.sz u+j]? = some v∧Rel E S ρ w a v)
  | .box t cs=>(t=0∨B.pin t=some l)∧l.n=cs.length∧(l.n≠0→B.own l.b∧¬ S l.b∧∃ c e,w.heap[l.b]? = some (.cells c e (0,0))∧c.size=l.n∧∀ (j:Nat) a,cs[j]? = some a→∃ v,c[j]? = some v∧Rel E S ρ w a v)
  | .map u v es=>l.n=1∧B.own l.b∧¬ S l.b∧∃ ents clock,w.heap[l.b]? = some (.map ents clock)∧ents.size=es.length∧∀ (i:Nat) (e:MapEntry) (p:El u×El v),ents[i]? = some e→es[i]? = some p→ERel E S ρ w u p.1 e.key∧ERel E S ρ w v p.2 e.val
  | .amap u ks cs=>l.n=1∧B.own l.b∧¬ S l.b∧∃ ents clock,w.heap[l.b]? = some (.map ents clock)∧ents.size=ks.length∧ents.size=cs.length∧∀ (i:Nat) (e:MapEntry) (y:El u) (c:AV U El),ents[i]? = some e→ks[i]? = some y→cs[i]? = some c→ERel E S ρ w u y e.key∧Rel E S ρ w c e.val
  | .bld T j=>l.n=2∧B.own l.b∧¬ S l.b∧∃ c0 c1,w.heap[l.b]? = some (.cells #[c0,c1] T (0,0))∧(c0 = .pointer none∨c0 = .pointer (some ⟨l.b,0,none⟩))∧(∀ ao n,c1 ≠ .slice (some ao) n 0)∧Rel E S ρ w (.ful j) c1
structure HRel (E:Univ U El) (S:Nat→Prop) (ρ:Rho) (w:World) (B:Bd) (H:Heap U El):Prop where
  get:∀ id b,hget H id=some b→∃ l,ρ id=some l∧BlkRel E S ρ w B l b
  inj:∀ i j b b' l l',hget H i=some b→hget H j=some b'→i≠j→ρ i=some l→ρ j=some l'→l.n≠0→l'.n≠0→l.b≠l'.b
  lt:∀ b,S b→b < w.heap.size
theorem ERel.mono {u:U} {x:El u} {v:Value} (h:ERel E S ρ w u x v) (hS:∀ b,S b→S' b) (hw:∀ b,S b→w'.heap[b]? = w.heap[b]?) (hρ:∀ id l,ρ id=some l→ρ' id=some l):ERel E S' ρ' w' u x v:=by
  unfold ERel at *
  split
  · rename_i e; rw [if_pos e] at h
    obtain ⟨vs,h1,h2,h3⟩:=h
    exact ⟨vs,h1,h2,fun i c v hc hv=>(h3 i c v hc hv).mono hS hw hρ⟩
  · rename_i e; rw [if_neg e] at h
    obtain ⟨c,h1,h2⟩:=h
    exact ⟨c,h1,h2.mono hS hw hρ⟩
theorem ERel.cellρ {u:U} {x:El u} {v:Value} (hg:UGood P E) (h:ERel E S ρ w u x v):ERel E S ρ' w u x v:=by
  unfold ERel at *
  split
  · rename_i e; rw [if_pos e] at h
    obtain ⟨vs,h1,h2,h3⟩:=h
    exact ⟨vs,h1,h2,fun i c v hc hv=>(h3 i c v hc hv).cellρ hg (hg.cell u x c (List.mem_of_getElem? hc))⟩
  · rename_i e; rw [if_neg e] at h
    obtain ⟨c,h1,h2⟩:=h
    exact ⟨c,h1,h2.cellρ hg (hg.cell u x c (by rw [h1]; simp))⟩
theorem BlkRel.lt {B:Bd} {l:Loc} {b:Blk U El} (h:BlkRel E S ρ w B l b) (hn:l.n≠0):l.b < w.heap.size∧B.own l.b∧¬ S l.b:=by
  have key:∀ {ob:Obj},w.heap[l.b]? = some ob→l.b < w.heap.size:=fun hh=>by
    rcases Nat.lt_or_ge l.b w.heap.size with h' | h'
    · exact h'
    · rw [Array.getElem?_eq_none h'] at hh; cases hh
  cases b with
  | rows u xs=>obtain ⟨_,_,_,h⟩:=h; obtain ⟨h1,h2,c,hh,_⟩:=h hn; exact ⟨key hh,h1,h2⟩
  | box t cs=>obtain ⟨_,_,h⟩:=h; obtain ⟨h1,h2,c,e,hh,_⟩:=h hn; exact ⟨key hh,h1,h2⟩
  | map u v es=>obtain ⟨_,h1,h2,c,e,hh,_⟩:=h; exact ⟨key hh,h1,h2⟩
  | amap u ks cs=>obtain ⟨_,h1,h2,c,e,hh,_⟩:=h; exact ⟨key hh,h1,h2⟩
  | bld T j=>obtain ⟨_,h1,h2,c0,c1,hh,_⟩:=h; exact ⟨key hh,h1,h2⟩
theorem BlkRel.mono {B:Bd} {l:Loc} {b:Blk U El} (h:BlkRel E S ρ w B l b) (hS:∀ b,S b→S' b) (hw:∀ b,S b→w'.heap[b]? = w.heap[b]?) (hρ:∀ id l,ρ id=some l→ρ' id=some l)
    (hb:l.n≠0→w'.heap[l.b]? = w.heap[l.b]? ∧ ¬ S' l.b):BlkRel E S' ρ' w' B l b:=by
  cases b with
  | rows u xs =>
    obtain ⟨h1,h2,h3,h⟩:=h
    refine ⟨h1,h2,h3,fun hn => ?_⟩
    obtain ⟨h4,h5,c,hh,h6,h7⟩:=h hn
    exact ⟨h4,(hb hn).2,c,(hb hn).1.trans hh,h6,fun i x j a hi hj=>by obtain ⟨v,hv,hr⟩:=h7 i x j a hi hj; exact ⟨v,hv,hr.mono hS hw hρ⟩⟩
  | map u v es =>
    obtain ⟨h1,h4,h5,c0,c1,hh,h6,h7⟩:=h
    have hn:l.n≠0:=by omega
    exact ⟨h1,h4,(hb hn).2,c0,c1,(hb hn).1.trans hh,h6,fun i e p hi hj=>⟨(h7 i e p hi hj).1.mono hS hw hρ,(h7 i e p hi hj).2.mono hS hw hρ⟩⟩
  | amap u ks cs =>
    obtain ⟨h1,h4,h5,c0,c1,hh,h6,h7,h8⟩:=h
    have hn:l.n≠0:=by omega
    exact ⟨h1,h4,(hb hn).2,c0,c1,(hb hn).1.trans hh,h6,h7,fun i e y c hi hj hk=>⟨(h8 i e y c hi hj hk).1.mono hS hw hρ,(h8 i e y c hi hj hk).2.mono hS hw hρ⟩⟩
  | box t cs =>
    obtain ⟨h0,h1,h⟩:=h
    refine ⟨h0,h1,fun hn => ?_⟩
    obtain ⟨h4,h5,c,e,hh,h6,h7⟩:=h hn
    exact ⟨h4,(hb hn).2,c,e,(hb hn).1.trans hh,h6,fun j a hj=>by obtain ⟨v,hv,hr⟩:=h7 j a hj; exact ⟨v,hv,hr.mono hS hw hρ⟩⟩
  | bld T j =>
    obtain ⟨h1,h4,h5,c0,c1,hh,h6,h7,h8⟩:=h
    have hn:l.n≠0:=by omega
    exact ⟨h1,h4,(hb hn).2,c0,c1,(hb hn).1.trans hh,h6,h7,h8.mono hS hw hρ⟩
theorem BlkRel.le {B B':Bd} {l:Loc} {b:Blk U El} (h:BlkRel E S ρ w B l b) (hB:∀ k,B.own k→B'.own k) (hP:∀ k l,B.pin k=some l→B'.pin k=some l):BlkRel E S ρ w B' l b:=by
  cases b with
  | rows u xs=>obtain ⟨h1,h2,h3,h⟩:=h; exact ⟨h1,h2,h3,fun hn=>⟨hB _ (h hn).1,(h hn).2⟩⟩
  | box t cs=>obtain ⟨h0,h1,h⟩:=h; exact ⟨h0.imp id (hP t l),h1,fun hn=>⟨hB _ (h hn).1,(h hn).2⟩⟩
  | bld T j=>obtain ⟨h1,h⟩:=h; exact ⟨h1,hB _ h.1,h.2⟩
  | map u v es=>obtain ⟨h1,h⟩:=h; exact ⟨h1,hB _ h.1,h.2⟩
  | amap u ks cs=>obtain ⟨h1,h⟩:=h; exact ⟨h1,hB _ h.1,h.2⟩
structure Step (S:Nat→Prop) (ρ:Rho) (w:World) (S':Nat→Prop) (ρ':Rho) (w':World):Prop where
  fr:Fr (From w) w w'
  s1:∀ b,S b→S' b
  s2:∀ b,S' b→S b∨w.heap.size≤b
  rho:∀ id l,ρ id=some l→ρ' id=some l
  lt:∀ b,S b→b < w.heap.size
theorem Step.below (h:Step S ρ w S' ρ' w'):Below w.heap.size w w':=h.fr.below
theorem Step.same (h:Step S ρ w S' ρ' w'):∀ b,S b→w'.heap[b]? = w.heap[b]? := fun b hb=>h.below.block b (h.lt b hb)
theorem Step.rel (h:Step S ρ w S' ρ' w') {a:AV U El} {v:Value} (hr:Rel E S ρ w a v):Rel E S' ρ' w' a v:=hr.mono h.s1 h.same h.rho
theorem Step.refl (hlt:∀ b,S b→b < w.heap.size):Step S ρ w S ρ w:=⟨Fr.refl _ _,fun _ h=>h,fun _ h => .inl h,fun _ _ h=>h,hlt⟩
theorem Step.blk (h:Step S ρ w S' ρ' w') {B:Bd} {l:Loc} {b:Blk U El} (hb:BlkRel E S ρ w B l b):BlkRel E S' ρ' w' B l b :=
  hb.mono h.s1 h.same h.rho fun hn=>by
    obtain ⟨h1,h2,h3⟩:=hb.lt hn
    exact ⟨h.below.block _ h1,fun hs=>by rcases h.s2 _ hs with k | k; exact h3 k; omega⟩
theorem hget_append {H H':Heap U El} {id:Nat}:hget (H++H') id=match hget H id with | some b=>some b | none=>hget H' id:=by
  induction H with
  | nil=>rfl
  | cons p H ih =>
    obtain ⟨j,b⟩:=p
    simp only [List.cons_append,hget]
    cases Nat.beq j id<;>simp [ih]
theorem Step.heap (h : Step S ρ w S' ρ' w') {B : Bd} {H N : Heap U El} (hH : HRel E S ρ w B H) (hN : HRel E S' ρ' w' (From w) N) (hB : ∀ k, w.heap.size ≤ k → B.own k) (hd : ∀ id b, hget N id = some b → ρ id = none) : HRel E S' ρ' w' B (N ++ H) where
  get := fun id b hg => by
    rw [hget_append] at hg
    cases hn:hget N id with
    | some b' =>
      rw [hn] at hg
      cases hg
      obtain ⟨l,h1,h2⟩:=hN.get id b hn
      exact ⟨l,h1,h2.le hB (fun _ _ h=>by cases h)⟩
    | none =>
      rw [hn] at hg
      obtain ⟨l,h1,h2⟩:=hH.get id b hg
      exact ⟨l,h.rho _ _ h1,h.blk h2⟩
  inj := fun i j b b' l l' hi hj hne hli hlj hn hn' => by
    rw [hget_append] at hi hj
    cases ni:hget N i with
    | some bi =>
      obtain ⟨l1,e1,r1⟩:=hN.get i bi ni
      rw [hli] at e1; cases e1
      have c1:=r1.lt hn
      cases nj:hget N j with
      | some bj=>exact hN.inj i j bi bj l l' ni nj hne hli hlj hn hn'
      | none =>
        rw [nj] at hj
        obtain ⟨l2,e2,r2⟩:=hH.get j b' hj
        have:=h.rho _ _ e2
        rw [hlj] at this; cases this
        have c2:=r2.lt hn'
        have c1':w.heap.size≤l.b:=c1.2.1
        omega
    | none =>
      rw [ni] at hi
      obtain ⟨l1,e1,r1⟩:=hH.get i b hi
      have k1:=h.rho _ _ e1
      rw [hli] at k1; cases k1
      have c1:=r1.lt hn
      cases nj:hget N j with
      | some bj =>
        obtain ⟨l2,e2,r2⟩:=hN.get j bj nj
        rw [hlj] at e2; cases e2
        have c2:=r2.lt hn'
        have c2':w.heap.size≤l'.b:=c2.2.1
        omega
      | none =>
        rw [nj] at hj
        obtain ⟨l2,e2,r2⟩:=hH.get j b' hj
        have k2:=h.rho _ _ e2
        rw [hlj] at k2; cases k2
        exact hH.inj i j b b' l l' hi hj hne e1 e2 hn hn'
  lt:=hN.lt
theorem Step.trans {S1 S2 S3:Nat→Prop} {ρ1 ρ2 ρ3:Rho} {w1 w2 w3:World} (h:Step S1 ρ1 w1 S2 ρ2 w2) (k:Step S2 ρ2 w2 S3 ρ3 w3):Step S1 ρ1 w1 S3 ρ3 w3 :=
  ⟨h.fr.trans (k.fr.mono fun i hi=>Nat.le_trans h.fr.size hi),fun b hb=>k.s1 b (h.s1 b hb),fun b hb=>by
    rcases k.s2 b hb with e | e
    · exact h.s2 b e
    · exact .inr (Nat.le_trans h.below.size e),fun id l e=>k.rho id l (h.rho id l e),h.lt⟩
def CallSpec (P : Program) (E : Univ U El) (f : FuncId) (args : List (AV U El)) (res : AV U El) (ex : Heap U El) : Prop :=
  (∀ as w,(callFunc f as).run P w = .ok (.enter f as) w)∧(∀ id b,hget ex id=some b→id < 4) ∧
  ∀ (S : Nat → Prop) (w : World) (vs : Array Value), (∀ b, S b → b < w.heap.size) → E.G w → RelL E S (fun _ => none) w args vs →
    Calls P f vs w fun e w'=>∃ v S' ρ',e = .returned v∧Step S (fun _=>none) w S' ρ' w'∧HRel E S' ρ' w' (From w) ex∧Rel E S' ρ' w' res v
def MCall (P : Program) (E : Univ U El) (f : FuncId) (args : List (AV U El)) (hs : Heap U El) (v : AV U El) (h : Heap U El) : Prop :=
  ∀ (B : Bd) (S : Nat → Prop) (ρ : Rho) (w : World) (vs : Array Value), (∀ k, w.heap.size ≤ k → B.own k) → (∀ w', Fr B w w' → E.G w') → HRel E S ρ w B hs → RelL E S ρ w args vs →
    Calls P f vs w fun e w'=>∃ v' S' ρ',e = .returned v'∧Fr B w w'∧(∀ b,S b→S' b)∧(∀ b,S' b→S b∨B.own b)∧HRel E S' ρ' w' B h∧Rel E S' ρ' w' v v'
theorem HRel.df {E:Univ U El} {S:Nat→Prop} {ρ:Rho} {w:World} {B:Bd} {H:Heap U El} (h:HRel E S ρ w B H) (D:List Deferred):HRel E S ρ w ⟨B.own,B.pin,D⟩ H :=
  ⟨fun id b hg=>by obtain ⟨l,h1,h2⟩:=h.get id b hg; exact ⟨l,h1,h2.le (B':=⟨B.own,B.pin,D⟩) (fun _ h=>h) (fun _ _ h=>h)⟩,h.inj,h.lt⟩
theorem HRel.df' {E:Univ U El} {S:Nat→Prop} {ρ:Rho} {w:World} {B:Bd} {H:Heap U El} {D:List Deferred} (h:HRel E S ρ w ⟨B.own,B.pin,D⟩ H):HRel E S ρ w B H :=
  ⟨fun id b hg=>by obtain ⟨l,h1,h2⟩:=h.get id b hg; exact ⟨l,h1,h2.le (B':=B) (fun _ h=>h) (fun _ _ h=>h)⟩,h.inj,h.lt⟩
theorem MCall.of_clean {E:Univ U El} {f:FuncId} {args:List (AV U El)} {hs:Heap U El} {v:AV U El} {h:Heap U El}
    (hm:∀ (B:Bd) (S:Nat→Prop) (ρ:Rho) (w:World) (vs:Array Value),B.df=[]→(∀ k,w.heap.size≤k→B.own k)→(∀ w',Fr B w w'→E.G w')→HRel E S ρ w B hs→RelL E S ρ w args vs →
      Calls P f vs w fun e w'=>∃ v' S' ρ',e = .returned v'∧Fr B w w'∧(∀ b,S b→S' b)∧(∀ b,S' b→S b∨B.own b)∧HRel E S' ρ' w' B h∧Rel E S' ρ' w' v v'):MCall P E f args hs v h:=by
  intro B S ρ w vs hB hG hH hr
  refine (hm ⟨B.own,B.pin,[]⟩ S ρ w vs rfl hB (fun w' hf=>hG w' (hf.mono fun _ h=>h)) (hH.df []) hr).mono ?_
  rintro e w' ⟨v',S',ρ',h1,h2,h3,h4,h5,h6⟩
  exact ⟨v',S',ρ',h1,h2.mono fun _ h=>h,h3,h4,h5.df',h6⟩
def MSpOk (P:Program) (E:Univ U El) (f:FuncId) (sp:MSp U El):Prop :=
  (∀ as w,(callFunc f as).run P w = .ok (.enter f as) w)∧∀ args hs k r,sp args hs k=some r→∃ v hc,MCall P E f args hs v hc∧k v hc=some r
def DSpOk (P:Program) (E:Univ U El) (f:FuncId) (sp:MSp U El):Prop :=
  MSpOk P E f sp∧∀ args hs,∃ oo:Option (AV U El×Heap U El),∀ k,sp args hs k=oo.bind fun p=>k p.1 p.2
end
end Go.Proofs.Ytkeplmpcijigaaa
