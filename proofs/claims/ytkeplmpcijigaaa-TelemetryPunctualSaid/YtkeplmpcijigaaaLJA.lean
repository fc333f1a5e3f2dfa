/- A whole array in a variable of the call's own, sliced: it becomes a list. -/
import Derived.Test.YtkeplmpcijigaaaLJS
namespace Go.Proofs.Ytkeplmpcijigaaa
set_option linter.unusedVariables false
set_option linter.unusedSectionVars false
set_option linter.unusedSimpArgs false
open Go.RowKit
section
variable {U:Type} {El:U→Type} {P:Program} {X:Ctx U El} {S S0:Nat→Prop} {ρ:Rho} {w w0:World} [DecidableEq U] [Drw]
variable {o:Oper} {a:Act} {st:St U El} {B:Bd} {d:Nat} {r:Fin U El}
theorem decRows_get (hg : UGood P X.E) (u : U) : ∀ (n : Nat) (cs : List (AV U El)) (xs : List (El u)), decRows X.E u n cs = some xs →
    xs.length=n∧∀ (i:Nat) x (j:Nat) c,xs[i]? = some x→(X.E.enc u x)[j]? = some c→∃ c',cs[i * X.E.sz u+j]? = some c'∧(c'=c∨(c' = .nils∧∃ u',c = .lst u' [])):=by
  intro n
  induction n with
  | zero=>intro cs xs h; cases h; exact ⟨rfl,fun i x j c hx=>by simp at hx⟩
  | succ n ih =>
    intro cs xs h
    simp only [decRows] at h
    split at h
    · rename_i y hy
      split at h
      · rename_i ys hys
        cases h
        obtain ⟨h1,h2⟩:=ih _ _ hys
        obtain ⟨h3,h4⟩:=hg.dec _ _ _ hy
        refine ⟨by simp [h1],fun i x j c hx hc => ?_⟩
        have hj:j < X.E.sz u:=by
          rw [← hg.len u x]
          exact (List.getElem?_eq_some_iff.1 hc).1
        cases i with
        | zero =>
          cases hx
          obtain ⟨c',e1,e2⟩:=h4 j c hc
          refine ⟨c',?_,e2⟩
          rw [List.getElem?_take_of_lt hj] at e1
          simpa using e1
        | succ i =>
          obtain ⟨c',e1,e2⟩:=h2 i x j c (by simpa using hx) hc
          refine ⟨c',?_,e2⟩
          rw [List.getElem?_drop] at e1
          rw [← e1]
          congr 1
          rw [Nat.add_mul]
          omega
      · cases h
    · cases h
theorem arrOp_sound {ty : TypeId} {x : Operand} {k : St U El → Option (Fin U El)} (hX : CtxOk P X) (ho : o.op = .slice ty x none none none) (hd : o.dst = some d) (hi : Inv X B S0 w0 S ρ st a w) (hv : arrOp X d ty (oget st.t x) st k = some r) {next : Act → World → Prop} {Q : Exit → Act → World → Prop}
    (hn:∀ st' a' w',StRel X B S0 w0 st' a' w'→k st'=some r→next a' w'):o.wp P a w next Q:=by
  have hxr:Rel X.E S ρ w (oget st.t x) (a.eval x):=Rel.oget fun i _=>hi.tmps i
  unfold arrOp at hv
  split at hv
  · rename_i n es ea sz u id htd hau hx
    split at hv
    · rename_i tg cs hg
      obtain ⟨hck,hv1⟩:=chk_some hv
      simp only [Bool.and_eq_true] at hck
      obtain ⟨c1,c2,c3,c4⟩:=hck
      have c1:=Nat.eq_of_beq_eq_true c1
      have c2:=Nat.eq_of_beq_eq_true c2
      have c3:0 < n:=Nat.le_of_ble_eq_true c3
      have c4:d < X.nt:=Nat.le_of_ble_eq_true c4
      split at hv1
      · rename_i xs hxs
        rw [hx] at hxr
        generalize hq:a.eval x=q at hxr
        cases hxr with
        | ptr _ _ l hl =>
          obtain ⟨l',hl',hb⟩:=hi.heap.get _ _ hg
          rw [hl] at hl'; cases hl'
          have hb0:=hb
          obtain ⟨_,h2,h3⟩:=hb
          obtain ⟨e,hu,_,⟨inf,hinf,hsz⟩,_⟩:=hX.td _ _ htd
          obtain ⟨hlen,hget⟩:=decRows_get hX.u u n cs xs hxs
          have hes:0 < es:=by rw [← c1]; exact hX.u.pos u
          have hn0:l.n≠0:=by
            have:=Nat.mul_pos c3 hes
            omega
          obtain ⟨h4,h5,c,ce,hh,h6,h7⟩:=h3 hn0
          have hsh:=hi.share hX hg hl
          have hrun:(execOp a.eval o).run P w = .ok (.value (.slice (some ⟨l.b,0,none⟩) n n)) w:=by
            have hn0':¬ n=0:=by omega
            simp [execOp,ho,Instr.sliceAt,run_underlying hu,Instr.sureAddr,hq,Instr.sliceBounds,run_szT hinf,hn0',addr_add]
          unfold Oper.wp
          rw [hrun]
          show next (a.put o.dst _) w
          refine hn _ _ _ ⟨fun b=>S b∨(l.n≠0∧b=l.b),ρ.del id,?_⟩ hv1
          refine ⟨by rw [hd]; exact hsh.defers,by rw [hd]; simp [Act.put,hi.size],hsh.below,hsh.hB,hsh.s0,hsh.s1,hsh.g0,?_,hsh.heap⟩
          have hv2:∀ i j,∃ vv,∀ x c',xs[i]? = some x→(X.E.enc u x)[j]? = some c'→c[i * X.E.sz u+j]? = some vv∧Rel X.E S ρ w c' vv:=fun i j=>by
            cases hxi:xs[i]? with
            | none=>exact ⟨undef,fun x c h=>by cases h⟩
            | some y =>
              cases hc:(X.E.enc u y)[j]? with
              | none=>exact ⟨undef,fun x' c h h'=>by cases h; rw [hc] at h'; cases h'⟩
              | some c' =>
                obtain ⟨c0,e1,e2⟩:=hget i y j c' hxi hc
                obtain ⟨vv,e3,e4⟩:=h7 _ _ e1
                refine ⟨vv,fun x' c'' h h' => ?_⟩
                cases h
                rw [hc] at h'
                cases h'
                refine ⟨e3,?_⟩
                rcases e2 with rfl | ⟨rfl,u',rfl⟩
                · exact e4
                · cases e4
                  exact .lstE _ _ _
          have hr:Rel X.E (fun b=>S b∨(l.n≠0∧b=l.b)) (ρ.del id) w (.lst u xs) (.slice (some ⟨l.b,0,none⟩) n n):=by
            have:=Rel.lst (E:=X.E) (S:=fun b=>S b∨(l.n≠0∧b=l.b)) (ρ:=ρ.del id) (w:=w) u xs l.b 0 n (fun i j=>Classical.choose (hv2 i j)) (.inr ⟨hn0,rfl⟩) (by omega) (fun i x j c' hx hc=>by
              rw [Nat.zero_add,cell_of_row w l.b _ c _ (0,0) hh]
              exact (Classical.choose_spec (hv2 i j) x c' hx hc).1) (fun i x j c' hx hc=>((Classical.choose_spec (hv2 i j) x c' hx hc).2.mono (fun _ h => .inl h) (fun _ _=>rfl) (fun _ _ h=>h)).cellρ hX.u (hX.u.cell u x c' (List.mem_of_getElem? hc)))
            rw [hlen] at this
            exact this
          have:=tmps_put (d:=o.dst) (v := .slice (some ⟨l.b,0,none⟩) n n) (av := .lst u xs) (fun e he=>by rw [hi.size]; rw [hd] at he; cases he; exact c4) hsh.tmps hr
          rw [hd] at this ⊢
          exact this
      · cases hv1
    · cases hv
  · cases hv
end
end Go.Proofs.Ytkeplmpcijigaaa
