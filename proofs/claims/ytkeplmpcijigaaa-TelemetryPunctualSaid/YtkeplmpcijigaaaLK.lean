/- A region in the order of the text; guards. -/
import Derived.Test.YtkeplmpcijigaaaLJA
import Derived.Orders
namespace Go.Proofs.Ytkeplmpcijigaaa
set_option linter.unusedVariables false
set_option linter.unusedSectionVars false
set_option linter.unusedSimpArgs false
open Go.RowKit
section
variable {U:Type} {El:U→Type} {P:Program} {X:Ctx U El} {S S0:Nat→Prop} {ρ:Rho} {w w0:World} [DecidableEq U] [Drw]
variable {o:Oper} {a:Act} {st:St U El} {B:Bd} {d:Nat} {r:Fin U El}
theorem stepEv_sound {k:St U El→Option (Fin U El)} (hX:CtxOk P X) (hi:Inv X B S0 w0 S ρ st a w) (hv:stepEv X o st k=some r) {next:Act→World→Prop} {Q:Exit→Act→World→Prop}
    (hn:∀ st' a' w',StRel X B S0 w0 st' a' w'→k st'=some r→next a' w'):o.wp P a w next Q:=by
  unfold stepEv at hv
  dsimp only at hv
  obtain ⟨hck,hv1⟩:=chk_some hv
  have hi0:=hi.forgets hX (newIds o (o.dst.getD 999))
  obtain ⟨out,hk,hdone⟩:=evalOp_sound (B:=B) (H:=(st.forgets (newIds o (o.dst.getD 999))).h) hX hv1 (fun i _=>hi0.tmps i) hi0.heap (fun _ _ h=>h) (fun j hj=>dels_none _ _ j (.inr hj)) (hi0.g0 _ hi0.below)
  refine hdone next Q fun v w' S' ρ' hst hr hN hids hρ=>hn _ _ _ ⟨S',ρ',hi0.put (fun e he => ?_) hst hr hN (fun id b hg=>dels_none _ _ id (.inr (hids id b hg)))⟩ hk
  rw [he] at hck
  exact Nat.le_of_ble_eq_true hck
def SpMOk (P : Program) (X : Ctx U El) (g : FuncId) (sp : Nat → List (AV U El) → St U El → (AV U El → St U El → Option (Fin U El)) → Option (Fin U El)) : Prop :=
  (∀ as w,(callFunc g as).run P w = .ok (.enter g as) w) ∧
  ∀ {B : Bd} {S0 : Nat → Prop} {w0 : World} {S : Nat → Prop} {ρ : Rho} {st : St U El} {a : Act} {w : World} {d : Nat} {args : List (AV U El)} {vs : Array Value} {k : AV U El → St U El → Option (Fin U El)} {r : Fin U El},
    Inv X B S0 w0 S ρ st a w→RelL X.E S ρ w args vs→sp d args st k=some r →
    Calls P g vs w fun e w'=>∃ v res st' S' ρ',e = .returned v∧k res st'=some r∧Inv X B S0 w0 S' ρ' st' a w'∧Rel X.E S' ρ' w' res v
def MOk (P:Program) (X:Ctx U El):Prop:=∀ g sp,X.mspec g=some sp→SpMOk P X g sp
abbrev Pan (U:Type) (El:U→Type):=TypeId→Int→Int→St U El→Option (Fin U El)
abbrev pEntry (T:TypeId) (l c:Int):List PanicEntry:=[{ v := .iface T (.agg #[.int .i64 l,.int .i64 c]),recovered:=false }]
def SpMOkG (pan : Pan U El) (P : Program) (X : Ctx U El) (g : FuncId) (sp : Nat → List (AV U El) → St U El → (AV U El → St U El → Option (Fin U El)) → Option (Fin U El)) : Prop :=
  (∀ as w,(callFunc g as).run P w = .ok (.enter g as) w) ∧
  ∀ {B : Bd} {S0 : Nat → Prop} {w0 : World} {S : Nat → Prop} {ρ : Rho} {st : St U El} {a : Act} {w : World} {d : Nat} {args : List (AV U El)} {vs : Array Value} {k : AV U El → St U El → Option (Fin U El)} {r : Fin U El},
    Inv X B S0 w0 S ρ st a w→RelL X.E S ρ w args vs→sp d args st k=some r →
    Calls P g vs w fun e w'=>(∃ v res st' S' ρ',e = .returned v∧k res st'=some r∧Inv X B S0 w0 S' ρ' st' a w'∧Rel X.E S' ρ' w' res v)∨(∃ T l c st',e = .panicked (pEntry T l c)∧StRel X B S0 w0 st' a w'∧pan T l c st'=some r)
def MOkG (pan:Pan U El) (P:Program) (X:Ctx U El):Prop:=∀ g sp,X.mspec g=some sp→SpMOkG pan P X g sp
def noPan:Pan U El:=fun _ _ _ _=>none
theorem SpMOk.g {pan:Pan U El} {g:FuncId} {sp:Nat→List (AV U El)→St U El→(AV U El→St U El→Option (Fin U El))→Option (Fin U El)} (h:SpMOk P X g sp):SpMOkG pan P X g sp :=
  ⟨h.1,fun hi hr hv=>(h.2 hi hr hv).mono fun _ _ h => .inl h⟩
theorem MOk.g {pan:Pan U El} (h:MOk P X):MOkG pan P X:=fun g sp hg=>(h g sp hg).g
def PanQ (pan:Pan U El) (X:Ctx U El) (B:Bd) (S0:Nat→Prop) (w0:World) (r:Fin U El) (Q:Exit→Act→World→Prop):Prop :=
  ∀ T l c st' a w',StRel X B S0 w0 st' a w'→pan T l c st'=some r→Q (.panic (pEntry T l c)) a w'
theorem PanQ.no {Q:Exit→Act→World→Prop}:PanQ noPan X B S0 w0 r Q:=fun _ _ _ _ _ _ _ h=>by cases h
theorem nilTest_some {n:Nat} {eq:Bool} {k:Bool→Option (Fin U El)} (h:nilTest n eq k=some r):(0 < n∧k (!eq)=some r)∨(n=0∧∀ b,k b=some r):=by
  unfold nilTest at h
  cases hn:nlt 0 n with
  | true=>rw [hn] at h; exact .inl ⟨of_decide_eq_true hn,h⟩
  | false =>
    rw [hn] at h
    obtain ⟨h1,h2⟩:=amb_some h
    exact .inr ⟨by have:¬ 0 < n:=of_decide_eq_false hn; omega,fun b=>by cases b; exact h2; exact h1⟩
theorem eqIn_nsl {t e:TypeId} (d cap:Nat) (hu:P.underlying t=some (.slice e)):(Op.equalIn (d+1) t (.slice none 0 cap) (.slice none 0 0)).run P w = .ok true w:=by
  simp [Op.equalIn,run_underlying hu]
theorem nilLen_rel {x:AV U El} {v:Value} {n:Nat} (hi:Inv X B S0 w0 S ρ st a w) (hr:Rel X.E S ρ w x v) (h:nilLen st.h x=some n):∃ ao cap,v = .slice ao n cap∧(0 < n→∃ a,ao=some a):=by
  unfold nilLen at h
  split at h
  · cases h
    cases hr with
    | lstE=>exact ⟨_,_,rfl,fun h=>absurd h (by simp)⟩
    | lst=>exact ⟨_,_,rfl,fun _=>⟨_,rfl⟩⟩
  · rename_i id
    split at h
    · rename_i u xs hg
      cases h
      obtain ⟨l,hl,h1,h2,h3,h4⟩:=hi.heap.get _ _ hg
      cases hr with
      | ful _ cap l' hl' e1 e2=>rw [hl] at hl'; cases hl'; exact ⟨_,cap,by rw [h2],fun _=>⟨_,rfl⟩⟩
      | fulN _ l' hl' e1 e2=>rw [hl] at hl'; cases hl'; rw [e2] at h2; exact ⟨none,0,by rw [← h2],fun h=>by omega⟩
    · cases h
  · cases h
theorem nilTest_sound {k : St U El → Option (Fin U El)} {op : BinOp} {ty yt : TypeId} {x y : Operand} {n d : Nat} {eq : Bool} (hX : CtxOk P X) (ho : o.op = .binOp op ty x y yt) (hop : op = if eq then .eql else .neq) (hi : Inv X B S0 w0 S ρ st a w) (hy : oget st.t y = .nils) (hl : nilLen st.h (oget st.t x) = some n) (hd : o.dst = some d) (hdn : d < X.nt)
    (hb:binOk X ty y (.nils:AV U El)=true) (hv:nilTest n eq (fun b=>k ⟨(d,.bool b) :: st.t,st.h⟩)=some r) {next:Act→World→Prop} {Q:Exit→Act→World→Prop} (hn:∀ st' a' w',StRel X B S0 w0 st' a' w'→k st'=some r→next a' w'):o.wp P a w next Q:=by
  have hxr:Rel X.E S ρ w (oget st.t x) (a.eval x):=Rel.oget fun i _=>hi.tmps i
  have hyr:Rel X.E S ρ w (oget st.t y) (a.eval y):=Rel.oget fun i _=>hi.tmps i
  obtain ⟨ao,cap,hxv,hne⟩:=nilLen_rel hi hxr hl
  rw [hy] at hyr
  generalize hqy:a.eval y=q at hyr
  cases hyr
  unfold binOk at hb
  simp only at hb
  split at hb
  case h_2=>cases hb
  rename_i u htd
  have hu:P.underlying ty=some (.slice (X.E.tid u)):=hX.td _ _ htd
  have hgd:(eqGuard op ty x y (.slice ao n cap) (.slice none 0 0)).run P w = .ok () w:=by cases op<;>rfl
  have fin:∀ b:Bool,(binOp op ty (.slice ao n cap) (.slice none 0 0)).run P w = .ok (.bool b) w→k ⟨(d,.bool b) :: st.t,st.h⟩=some r→o.wp P a w next Q:=fun b hrun hk=>by
    unfold Oper.wp
    have:(execOp a.eval o).run P w = .ok (.value (.bool b)) w:=by simp [execOp,ho,hxv,hqy,hgd,hrun]
    rw [this]
    show next (a.put o.dst (.bool b)) w
    refine hn _ _ _ ⟨S,ρ,?_⟩ hk
    refine ⟨by rw [hd]; exact hi.defers,by rw [hd]; simp [Act.put,hi.size],hi.below,hi.hB,hi.s0,hi.s1,hi.g0,?_,hi.heap⟩
    have:=tmps_put (d:=o.dst) (v := .bool b) (av := .bool b) (fun e he=>by rw [hi.size]; rw [hd] at he; cases he; exact hdn) hi.tmps (.bool b)
    rw [hd] at this ⊢
    exact this
  have hb2:∃ b0:Bool,(binOp op ty (.slice ao n cap) (.slice none 0 0)).run P w = .ok (.bool b0) w∧(0 < n→b0 = !eq):=by
    subst hop
    cases ao with
    | none =>
      have hn0:n=0:=by
        rcases Nat.eq_zero_or_pos n with h | h
        · exact h
        · obtain ⟨_,h⟩:=hne h; cases h
      subst hn0
      cases eq
      · exact ⟨_,run_neqB rfl (eqIn_nsl _ cap hu),fun h=>by omega⟩
      · exact ⟨_,run_eqlB rfl (eqIn_nsl _ cap hu),fun h=>by omega⟩
    | some ao =>
      cases eq
      · exact ⟨_,run_neqB rfl (eqIn_sn _ ao n cap hu),fun _=>rfl⟩
      · exact ⟨_,run_eqlB rfl (eqIn_sn _ ao n cap hu),fun _=>rfl⟩
  obtain ⟨b0,hrun,hb0⟩:=hb2
  rcases nilTest_some hv with ⟨h1,h2⟩ | ⟨_,h2⟩
  · exact fin b0 hrun (by rw [hb0 h1]; exact h2)
  · exact fin b0 hrun (h2 b0)
theorem stepOp_soundG {pan:Pan U El} {k:St U El→Option (Fin U El)} (hX:CtxOk P X) (hM:MOkG pan P X) (hi:Inv X B S0 w0 S ρ st a w) (hv:stepOp X o st k=some r) {next:Act→World→Prop} {Q:Exit→Act→World→Prop}
    (hP:PanQ pan X B S0 w0 r Q) (hn:∀ st' a' w',StRel X B S0 w0 st' a' w'→k st'=some r→next a' w'):o.wp P a w next Q:=by
  unfold stepOp at hv
  split at hv
  · rename_i ty p v ho
    split at hv
    · rename_i hd; exact storeOp_sound hX ho hi hv (fun e he=>by rw [hd] at he; cases he) hn
    · cases hv
  · rename_i op ty x y yt ho
    split at hv
    · rename_i n d hy hl hd
      obtain ⟨hck,hv1⟩:=chk_some hv
      simp only [Bool.and_eq_true] at hck
      exact nilTest_sound (eq:=true) hX ho rfl hi hy hl hd (Nat.le_of_ble_eq_true hck.2) hck.1 hv1 hn
    · rename_i n d hy hl hd
      obtain ⟨hck,hv1⟩:=chk_some hv
      simp only [Bool.and_eq_true] at hck
      exact nilTest_sound (eq:=false) hX ho rfl hi hy hl hd (Nat.le_of_ble_eq_true hck.2) hck.1 hv1 hn
    · exact stepEv_sound hX hi hv hn
  · rename_i ty x ho
    split at hv
    · rename_i htd hd; exact arrOp_sound hX ho hd hi hv hn
    · exact stepEv_sound hX hi hv hn
  · rename_i ty m i v ho
    split at hv
    · rename_i hd; exact mupdOp_core hX (.inl ho) hi hv hd fun st' w' _ hinv hk=>hn st' a w' ⟨S,ρ,hinv⟩ hk
    · cases hv
  · rename_i ty m i v ho
    split at hv
    · rename_i hd; exact mupdOp_core hX (.inr ho) hi hv hd fun st' w' _ hinv hk=>hn st' a w' ⟨S,ρ,hinv⟩ hk
    · cases hv
  · rename_i as ts ho
    split at hv
    · rename_i s x ty ty' d has hts hd
      obtain ⟨hck,hv1⟩:=chk_some hv
      simp only [Bool.and_eq_true] at hck
      obtain rfl:=Nat.eq_of_beq_eq_true hck.1
      have ha:as=#[s,x]:=by apply Array.ext'; simpa using has
      have ht:ts=#[ty,ty]:=by apply Array.ext'; simpa using hts
      subst ha ht
      exact appendOp_sound hX ho hd (Nat.le_of_ble_eq_true hck.2) hi hv1 hn
    · cases hv
  · rename_i as ts ho
    split at hv
    · rename_i s ty has hts hd
      have ha:as=#[s]:=by apply Array.ext'; simpa using has
      have ht:ts=#[ty]:=by apply Array.ext'; simpa using hts
      subst ha ht
      exact clearOp_sound (as:=#[s]) (ts:=#[ty]) hX ho hd hi hv hn
    · cases hv
  · rename_i as ts ho
    split at hv
    · rename_i s x ty ty' has hts
      obtain ⟨hck,hv1⟩:=chk_some hv
      have ha:as=#[s,x]:=by apply Array.ext'; simpa using has
      have ht:ts=#[ty,ty']:=by apply Array.ext'; simpa using hts
      subst ha ht
      exact copyOp_sound hX ho (fun e he=>by rw [he] at hck; exact Nat.le_of_ble_eq_true hck) hi hv1 hn
    · cases hv
  · rename_i f as ts ho
    have hf:Rel X.E S ρ w (oget st.t f) (a.eval f):=Rel.oget fun i _=>hi.tmps i
    split at hv
    · rename_i g first caps hfe
      split at hv
      · rename_i sp hsp
        obtain ⟨hck,hv1⟩:=chk_some hv
        obtain ⟨hcall,hspec⟩:=hM g sp hsp
        rw [hfe] at hf
        generalize hq:a.eval f=q at hf
        cases hf with
        | fn _ _ _ vf vc hlf hlc hrf hrc =>
          have hrun:(execOp a.eval o).run P w = .ok (.enter g (vf++as.map a.eval++vc)) w:=by
            simp [execOp,ho,resolve,Deferred.ofValue,hq,invoke,hcall]
          have hraw:RelL X.E S ρ w (first++as.toList.map (oget st.t)++caps) (vf++as.map a.eval++vc):=by
            refine ⟨by simp [hlf,hlc],fun i c v hc hv => ?_⟩
            have hv':(vf.toList++as.toList.map a.eval++vc.toList)[i]? = some v:=by
              rw [← Array.getElem?_toList] at hv; simpa using hv
            rw [List.getElem?_append] at hc hv'
            split at hc
            · rename_i h1
              rw [if_pos (by simpa [hlf] using h1)] at hv'
              rw [List.getElem?_append] at hc hv'
              split at hc
              · rename_i h2
                rw [if_pos (by simpa [hlf] using h2)] at hv'
                exact hrf i c v hc (by simpa using hv')
              · rename_i h2
                rw [if_neg (by simpa [hlf] using h2)] at hv'
                simp only [List.getElem?_map,Option.map_eq_some_iff,Array.length_toList,hlf] at hc hv'
                obtain ⟨x,hx,rfl⟩:=hc
                obtain ⟨y,hy,rfl⟩:=hv'
                rw [hx] at hy; cases hy
                exact Rel.oget fun i _=>hi.tmps i
            · rename_i h1
              rw [if_neg (by simpa [hlf] using h1)] at hv'
              simp only [List.length_append,List.length_map,Array.length_toList,hlf] at hc hv'
              exact hrc _ c v hc (by simpa using hv')
          unfold Oper.wp
          rw [hrun]
          show Calls P g _ w _
          refine (hspec hi hraw hv1).mono ?_
          rintro e w' (⟨v,res,st',S',ρ',rfl,hk,hi',hr'⟩ | ⟨T,l,c,st',rfl,hs',hp⟩)
          rotate_left
          · exact hP T l c st' a w' hs' hp
          show next (a.put o.dst v) w'
          refine hn _ _ _ ⟨S',ρ',?_⟩ hk
          have hlt:∀ e,o.dst=some e→e < X.nt:=fun e he=>by
            rw [he] at hck; exact Nat.le_of_ble_eq_true hck
          refine ⟨by cases o.dst<;>exact hi'.defers,by cases o.dst<;>simp [Act.put,hi'.size],hi'.below,hi'.hB,hi'.s0,hi'.s1,hi'.g0,?_,hi'.heap⟩
          have:=tmps_put (d:=o.dst) (v:=v) (av:=res) (fun e he=>by rw [hi'.size]; exact hlt e he) hi'.tmps hr'
          cases hdd:o.dst<;>rw [hdd] at this<;>exact this
      · exact stepEv_sound hX hi hv hn
    · cases hv
  · exact stepEv_sound hX hi hv hn
theorem StRel.refine {g:Nat} {b:Bool} (hs:StRel X B S0 w0 st a w) (hg:tget st.t g = .bool b):StRel X B S0 w0 ⟨(g,.bool b) :: st.t,st.h⟩ a w:=by
  obtain ⟨S,ρ,hi⟩:=hs
  refine ⟨S,ρ,hi.defers,hi.size,hi.below,hi.hB,hi.s0,hi.s1,hi.g0,fun i => ?_,hi.heap⟩
  simp only [tget]
  by_cases e:g=i
  · subst e; rw [Nat.beq_refl]; have:=hi.tmps g; rw [hg] at this; exact this
  · rw [nbeq_ne e]; exact hi.tmps i
theorem branch_some {t:Tmps U El} {g:Nat} {k:Tmps U El→Bool→Option (Fin U El)} (h:branch t g k=some r):∃ b,tget t g = .bool b∧k ((g,.bool b) :: t) b=some r:=by
  unfold branch at h
  split at h
  · rename_i b hb
    cases b
    · exact ⟨false,hb,h⟩
    · exact ⟨true,hb,h⟩
  · cases h
theorem gbranch_some {t:Tmps U El} {g:Nat} {want:Bool} {k:Tmps U El→Bool→Option (Fin U El)} (h:gbranch t g want k=some r):(∃ b,tget t g = .bool b∧k ((g,.bool b) :: t) b=some r)∨(tget t g = .tup []∧k t (!want)=some r):=by
  unfold gbranch at h
  split at h
  · rename_i b hb
    cases b
    · exact .inl ⟨false,hb,h⟩
    · exact .inl ⟨true,hb,h⟩
  · rename_i hb; exact .inr ⟨hb,h⟩
  · cases h
theorem withTest_some {o:Oper} {t:Tmps U El} {k:Tmps U El→Option (Fin U El)} (h:withTest o t k=some r):∃ t',k t'=some r∧(t'=t∨∃ g b,tget t g = .bool b∧t'=(g,.bool b) :: t):=by
  unfold withTest at h
  split at h
  · obtain ⟨b, h1, h2⟩ := branch_some h
    exact ⟨_,h2,.inr ⟨_,b,h1,rfl⟩⟩
  · exact ⟨t,h,.inl rfl⟩
theorem yields_of {ops:Array Oper} {tmps:Array Value} {j g:Nat} {b:Bool} (hd:(ops.toList.map (·.dst))[j]? = some (some g)) (hv:tmps.getD g undef = .bool b):yielded ops tmps j=some b:=by
  unfold yielded
  have h1:(ops[j]?).bind (·.dst)=some g:=by
    simp only [List.getElem?_map,Array.getElem?_toList,Option.map_eq_some_iff] at hd
    obtain ⟨o,ho,hdst⟩:=hd
    simp [ho,hdst]
  have h2:tmps[g]? = some (.bool b):=by
    rw [Array.getD_eq_getD_getElem?] at hv
    cases e:tmps[g]? with
    | none=>rw [e] at hv; simp [undef] at hv
    | some v=>rw [e] at hv; simp at hv; rw [hv]
  rw [h1]
  simp [h2]
theorem guard_some {ops:Array Oper} {o:Oper} {j g:Nat} {want b:Bool} (hgd:o.guard=some (j,want)) (hd:(match (ops.toList.map (·.dst))[j]? with | some d=>d | none=>none)=some g) {a:Act} (hv:a.tmps.getD g undef = .bool b) :
    Region.wanted o (yielded ops a.tmps)=(!(Bool.xor b want)):=by
  have hd':(ops.toList.map (·.dst))[j]? = some (some g):=by
    split at hd
    · rename_i e; rw [e,hd]
    · cases hd
  unfold Region.wanted
  rw [hgd]
  simp only [yields_of hd' hv]
  cases b<;>cases want<;>rfl
theorem guard_undef {ops:Array Oper} {o:Oper} {j g:Nat} {want:Bool} (hgd:o.guard=some (j,want)) (hd:(match (ops.toList.map (·.dst))[j]? with | some d=>d | none=>none)=some g) {a:Act} (hv:a.tmps.getD g undef = .tuple #[]) :
    Region.wanted o (yielded ops a.tmps)=false:=by
  have hd':(ops.toList.map (·.dst))[j]? = some (some g):=by
    split at hd
    · rename_i e; rw [e,hd]
    · cases hd
  have h1:(ops[j]?).bind (·.dst)=some g:=by
    simp only [List.getElem?_map,Array.getElem?_toList,Option.map_eq_some_iff] at hd'
    obtain ⟨o,ho,hdst⟩:=hd'
    simp [ho,hdst]
  have hy:yielded ops a.tmps j=none:=by
    unfold yielded
    rw [h1]
    rw [Array.getD_eq_getD_getElem?] at hv
    cases e:a.tmps[g]? with
    | none=>simp [e]
    | some v=>rw [e] at hv; simp at hv; simp [e,hv]
  unfold Region.wanted
  rw [hgd]
  simp only [hy]
  rfl
theorem rel_undef {v:Value} {E:Univ U El} (h:Rel E S ρ w (.tup []) v):v = .tuple #[]:=by
  cases h with
  | tup _ vs hl _ =>
    have:vs=#[]:=Array.eq_empty_of_size_eq_zero (by simpa using hl)
    rw [this]
theorem undef_rel {E:Univ U El}:Rel E S ρ w (.tup []:AV U El) undef := .tup [] #[] rfl (by simp)
theorem runOp1_soundG {pan : Pan U El} {k : St U El → Option (Fin U El)} {ops : Array Oper} {Q : Exit → Act → World → Prop} {K : Act → World → Prop} (hX : CtxOk P X) (hM : MOkG pan P X) (hP : PanQ pan X B S0 w0 r Q) {o : Oper} {j : Nat} {st : St U El} {a : Act} {w : World} (ho : ops[j]? = some o)
    (hN:∀ st' a' w',StRel X B S0 w0 st' a' w'→k st'=some r→K a' w') (hs:StRel X B S0 w0 st a w) (hdo:∀ e,o.dst=some e→e < X.nt) (hv:runOps X (ops.toList.map (·.dst)) [o] st k=some r):wpOp P ops Q j K a w:=by
  unfold wpOp
  rw [ho]
  simp only [runOps] at hv
  have next:∀ st' a' w',StRel X B S0 w0 st' a' w'→runOps X (ops.toList.map (·.dst)) [] st' k=some r→K a' w':=fun st' a' w' hs' hv'=>hN st' a' w' hs' hv'
  have doit:∀ (t:Tmps U El),StRel X B S0 w0 ⟨t,st.h⟩ a w→withTest o t (fun t=>preShare o ⟨t,st.h⟩ fun st1=>stepOp X o st1 fun st'=>runOps X (ops.toList.map (·.dst)) [] st' k)=some r→o.wp P a w K Q:=by
    intro t hst hw
    obtain ⟨t',hk,hor⟩:=withTest_some hw
    have hst':StRel X B S0 w0 ⟨t',st.h⟩ a w:=by
      rcases hor with rfl | ⟨g,b,hg,rfl⟩
      · exact hst
      · exact hst.refine hg
    obtain ⟨st2,⟨S,ρ,hi⟩,hk2⟩:=preShare_sound hX hst' hk
    exact stepOp_soundG hX hM hi hk2 hP next
  unfold guardOf at hv
  cases hgd:o.guard with
  | none =>
    rw [hgd] at hv
    simp only at hv
    have hw:Region.wanted o (yielded ops a.tmps)=true:=by simp [Region.wanted,hgd]
    simp only [hw,if_true]
    exact .inl (doit st.t hs hv)
  | some jw =>
    obtain ⟨gj,want⟩:=jw
    rw [hgd] at hv
    simp only at hv
    split at hv
    · rename_i h; cases h
    · rename_i g want' heq
      simp only [Option.some.injEq,Prod.mk.injEq] at heq
      obtain ⟨hdg,rfl⟩:=heq
      have skip:∀ (t:Tmps U El),StRel X B S0 w0 ⟨t,st.h⟩ a w→runOps X (ops.toList.map (·.dst)) [] ⟨match o.dst with | some d=>(d,.tup []) :: t | none=>t,st.h⟩ k=some r→K (a.put o.dst undef) w:=by
        intro t hs2 hv'
        refine next _ _ _ ?_ hv'
        obtain ⟨S,ρ,hi2⟩:=hs2
        refine ⟨S,ρ,by cases o.dst<;>exact hi2.defers,by cases o.dst<;>simp [Act.put,hi2.size],hi2.below,hi2.hB,hi2.s0,hi2.s1,hi2.g0,?_,hi2.heap⟩
        have:=tmps_put (d:=o.dst) (v:=undef) (av:=AV.tup []) (fun e he=>by rw [hi2.size]; exact hdo e he) hi2.tmps undef_rel
        cases hdd:o.dst<;>rw [hdd] at this<;>exact this
      rcases gbranch_some hv with ⟨b,hb,hv'⟩ | ⟨hb,hv'⟩
      · have hs2 := hs.refine hb
        obtain ⟨S,ρ,hi⟩:=hs
        have hvb:a.tmps.getD g undef = .bool b:=by
          have:=hi.tmps g
          rw [hb] at this
          generalize a.tmps.getD g undef=q at this
          cases this; rfl
        have hw:=guard_some hgd hdg hvb
        cases hx:Bool.xor b want with
        | true =>
          rw [hx] at hv' hw
          simp only [cond] at hv'
          simp only [hw,Bool.not_true,Bool.false_eq_true,if_false]
          exact skip _ hs2 hv'
        | false =>
          rw [hx] at hv' hw
          simp only [cond] at hv'
          simp only [hw,Bool.not_false,if_true]
          exact .inl (doit _ hs2 hv')
      · have hvu : a.tmps.getD g undef = .tuple #[] := by
          obtain ⟨S,ρ,hi⟩:=hs
          have:=hi.tmps g
          rw [hb] at this
          exact rel_undef this
        have hw:=guard_undef hgd hdg hvu
        have hx:Bool.xor (!want) want=true:=by cases want<;>rfl
        rw [hx] at hv'
        simp only [cond] at hv'
        simp only [hw,Bool.false_eq_true,if_false]
        exact skip _ hs hv'
    · cases hv
theorem runOps_soundG {pan:Pan U El} {k:St U El→Option (Fin U El)} {ops:Array Oper} {Q:Exit→Act→World→Prop} (hX:CtxOk P X) (hM:MOkG pan P X) (hP:PanQ pan X B S0 w0 r Q) (hN:∀ st' a' w',StRel X B S0 w0 st' a' w'→k st'=some r→Q .normal a' w') :
    ∀ (os:List Oper) (j:Nat) (st:St U El) (a:Act) (w:World),ops.toList.drop j=os→StRel X B S0 w0 st a w→(∀ o∈os,∀ e,o.dst=some e→e < X.nt)→runOps X (ops.toList.map (·.dst)) os st k=some r→wpOps P ops Q (List.range' j os.length) a w:=by
  intro os
  induction os with
  | nil=>intro j st a w hd hs _ hv; exact hN st a w hs hv
  | cons o os ih =>
    intro j st a w hd hs hdst hv
    have ho:ops[j]? = some o:=by
      have:(ops.toList.drop j)[0]? = some o:=by rw [hd]; rfl
      rw [List.getElem?_drop] at this
      simpa using this
    have hd':ops.toList.drop (j+1)=os:=by
      rw [← List.drop_drop,hd]; rfl
    simp only [List.length_cons,List.range'_succ]
    rw [wpOps_cons]
    refine runOp1_soundG (k:=fun st'=>runOps X (ops.toList.map (·.dst)) os st' k) hX hM hP ho (fun st' a' w' hs' hv'=>ih (j+1) st' a' w' hd' hs' (fun o ho=>hdst o (by simp [ho])) hv') hs (hdst o (by simp)) ?_
    exact hv
theorem testBit_or_pow (m i j:Nat):Nat.testBit (m ||| 2 ^ i) j=(Nat.testBit m j||decide (i=j)):=by
  rw [Nat.testBit_or,Nat.testBit_two_pow]
theorem readyL_iff {ops : Array Oper} {listed : Array Bool} {dn : Nat} (hsz : listed.size = ops.size) (hl : ∀ i, listed.getD i false = Nat.testBit dn i) (i : Nat) : i ∈ readyL ops.toList dn ↔ i ∈ Region.ready .any ops listed := by
  unfold readyL
  rw [List.mem_filter,List.mem_range,mem_ready]
  constructor
  · rintro ⟨h1, h2⟩
    have hi:i < ops.size:=by simpa using h1
    have ho:ops[i]? = some ops[i]:=Array.getElem?_eq_getElem hi
    rw [Bool.and_eq_true] at h2
    obtain ⟨h2,h3⟩:=h2
    rw [Array.getElem?_toList,ho] at h3
    refine ⟨?_,_,ho,fun e he hb => ?_⟩
    · have e1 : listed.getD i true = listed.getD i false := by simp [Array.getD_eq_getD_getElem?, Array.getElem?_eq_getElem (show i < listed.size by omega)]
      rw [e1,hl]
      simpa using h2
    · have := List.all_eq_true.1 h3 e (by simpa using he)
      rw [hb] at this
      rw [hl]
      simpa using this
  · rintro ⟨h1, o, ho, h2⟩
    have hi:i < ops.size:=(Array.getElem?_eq_some_iff.1 ho).1
    refine ⟨by simpa using hi,?_⟩
    rw [Bool.and_eq_true]
    refine ⟨?_,?_⟩
    · have e1 : listed.getD i true = listed.getD i false := by simp [Array.getD_eq_getD_getElem?, Array.getElem?_eq_getElem (show i < listed.size by omega)]
      rw [e1,hl] at h1
      simp [h1]
    · rw [Array.getElem?_toList, ho]
      refine List.all_eq_true.2 fun e he => ?_
      cases hb:Region.binds .any e with
      | false=>rfl
      | true =>
        have:=h2 e (by simpa using he) hb
        rw [hl] at this
        simp [this]
theorem anyOps_sound {pan : Pan U El} {k : St U El → Option (Fin U El)} {ops : Array Oper} {Q : Exit → Act → World → Prop} (hX : CtxOk P X) (hM : MOkG pan P X) (hP : PanQ pan X B S0 w0 r Q) (hN : ∀ st' a' w', StRel X B S0 w0 st' a' w' → k st' = some r → Q .normal a' w')
    (hdst:∀ o∈ops.toList,∀ e,o.dst=some e→e < X.nt):∀ (n:Nat) (listed:Array Bool) (dn:Nat) (st:St U El) (a:Act) (w:World),listed.size=ops.size→(∀ i,listed.getD i false=Nat.testBit dn i)→StRel X B S0 w0 st a w→anyOps X (ops.toList.map (·.dst)) ops.toList k n dn st=some r→wpAny P .any ops Q n listed a w:=by
  intro n
  induction n with
  | zero =>
    intro listed dn st a w hsz hl hs hv
    have hiff:=readyL_iff hsz hl
    unfold anyOps at hv
    split at hv
    · rename_i hr
      refine ⟨List.eq_nil_iff_forall_not_mem.2 fun i hi => ?_,hN st a w hs hv⟩
      have:=(hiff i).2 hi
      rw [hr] at this; cases this
    · cases hv
  | succ n ih =>
    intro listed dn st a w hsz hl hs hv
    have hiff:=readyL_iff hsz hl
    unfold anyOps at hv
    split at hv
    · rename_i hr
      refine ⟨fun _=>hN st a w hs hv,fun i hi => ?_⟩
      have:=(hiff i).2 hi
      rw [hr] at this; cases this
    · rename_i i0 is hr
      refine ⟨fun h => ?_,fun i hi => ?_⟩
      · have : i0 ∈ Region.ready .any ops listed := (hiff i0).1 (by rw [hr]; simp)
        rw [h] at this; cases this
      · obtain ⟨_, o, ho, _⟩ := mem_ready.1 hi
        have hlt:i < ops.size:=(Array.getElem?_eq_some_iff.1 ho).1
        have hm:i∈i0 :: is:=by rw [← hr]; exact (hiff i).2 hi
        have:=ambL_some _ hv _ (List.mem_map.2 ⟨i,hm,rfl⟩)
        rw [Array.getElem?_toList,ho] at this
        refine runOp1_soundG hX hM hP ho (fun st' a' w' hs' hk'=>ih _ (dn ||| 2 ^ i) st' a' w' (by simpa using hsz) (fun j => ?_) hs' hk') hs (hdst o (by rw [← Array.getElem?_toList] at ho; exact List.mem_of_getElem? ho)) this
        rw [testBit_or_pow,← hl j]
        simp only [Array.getD_eq_getD_getElem?]
        by_cases e:i=j
        · subst e
          rw [Array.getElem?_setIfInBounds_self_of_lt (by omega)]
          simp
        · rw [Array.getElem?_setIfInBounds_ne e]
          simp [e]
theorem regionA_soundG {pan:Pan U El} {k:St U El→Option (Fin U El)} {id:Nat} {ops:Array Oper} {Q:Exit→Act→World→Prop} (hX:CtxOk P X) (hM:MOkG pan P X) (hP:PanQ pan X B S0 w0 r Q) (hs:StRel X B S0 w0 st a w) (hN:∀ st' a' w',StRel X B S0 w0 st' a' w'→k st'=some r→Q .normal a' w')
    (hdst:∀ o∈ops.toList,∀ e,o.dst=some e→e < X.nt) (hv:anyOps X (ops.toList.map (·.dst)) ops.toList k ops.toList.length 0 st=some r):(Code.region id ops true).wp P Q a w:=by
  obtain ⟨S,ρ,hi⟩:=hs
  rw [Array.length_toList] at hv
  refine wp_region_any hX.mixed (anyOps_sound hX hM hP hN hdst ops.size _ 0 st a _ (by simp) (fun i => ?_) ⟨S,ρ,?_⟩ hv)
  · rw [Nat.zero_testBit, Array.getD_eq_getD_getElem?]
    by_cases h:i < ops.size<;>simp [h]
  · exact ⟨hi.defers,hi.size,hi.below.drew,hi.hB,hi.s0,hi.s1,hi.g0,fun i=>(hi.tmps i).mono (fun _ h=>h) (fun _ _=>rfl) (fun _ _ h=>h),⟨fun j b hg=>by obtain ⟨l,h1,h2⟩:=hi.heap.get j b hg; exact ⟨l,h1,h2.mono (fun _ h=>h) (fun _ _=>rfl) (fun _ _ h=>h) (fun hn=>⟨rfl,(h2.lt hn).2.2⟩)⟩,hi.heap.inj,hi.heap.lt⟩⟩
theorem region_soundG {pan:Pan U El} {k:St U El→Option (Fin U El)} {id:Nat} {ops:Array Oper} {Q:Exit→Act→World→Prop} (hX:CtxOk P X) (hM:MOkG pan P X) (hP:PanQ pan X B S0 w0 r Q) (hs:StRel X B S0 w0 st a w) (hN:∀ st' a' w',StRel X B S0 w0 st' a' w'→k st'=some r→Q .normal a' w')
    (hdst:∀ o∈ops.toList,∀ e,o.dst=some e→e < X.nt) (hv:runOps X (ops.toList.map (·.dst)) ops.toList st k=some r):(Code.region id ops false).wp P Q a w:=by
  refine wp_region ?_
  have:=runOps_soundG (ops:=ops) hX hM hP hN ops.toList 0 st a w rfl hs hdst hv
  rwa [Array.length_toList,← List.range_eq_range'] at this
end
end Go.Proofs.Ytkeplmpcijigaaa
