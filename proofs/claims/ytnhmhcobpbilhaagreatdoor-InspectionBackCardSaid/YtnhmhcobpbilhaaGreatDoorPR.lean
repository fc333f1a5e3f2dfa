/- What the reader of inspections gives: its length, its text back, a text's rows. -/
import Derived.Test.YtnhmhcobpbilhaaGreatDoorRP
import Derived.Test.YtnhmhcobpbilhaaGreatDoorVY
namespace Go.Proofs.YtnhmhcobpbilhaaGreatDoor
set_option linter.unusedSectionVars false
set_option linter.unusedSimpArgs false
set_option linter.unusedVariables false
set_option maxRecDepth 100000
theorem lines_app (a b:List Df):linesS (a++b)=linesS a++linesS b:=by
  induction a with
  | nil=>rfl
  | cons d a ih=>simp only [List.cons_append,linesS,ih,List.append_assoc]
theorem line_bare (d:Df):lineS d=bareS d++[10]:=rfl
theorem back_k : ∀ (k : Nat) (s : List UInt8) (n : Int) (acc : List Df), s.length ≤ k → (parK (splitL s [10]) n acc).2.2 = 0 → validB 16777216 (parK (splitL s [10]) n acc).1 = true ∧ linesS (parK (splitL s [10]) n acc).1 = linesS acc ++ s := by
  intro k
  induction k using Nat.strongRecOn with
  | ind k ih =>
    intro s n acc hk h
    rcases parts 10 s with hn | ⟨x,r,hx,rfl⟩
    · rw [par_none hn] at h ⊢
      cases hs:s == [] with
      | false=>rw [hs] at h; exact absurd (show (7:Int)=0 from h) (by decide)
      | true =>
        rw [hs] at h
        rw [cond_true] at h ⊢
        unfold finR at h ⊢
        cases hv:validB 16777216 acc with
        | false=>rw [hv] at h; exact absurd (show (1:Int)=0 from h) (by decide)
        | true =>
          refine ⟨hv,?_⟩
          rw [beq_iff_eq.1 hs,List.append_nil]
          rfl
    · rw [par_cons hx] at h ⊢
      cases hl:linO x with
      | none=>rw [hl] at h; exact absurd h (by show ¬ ((7:Int)=0); decide)
      | some d =>
        rw [hl] at h
        simp only [] at h ⊢
        simp only [List.length_append,List.length_cons] at hk
        obtain ⟨g1,g2⟩:=ih r.length (by omega) r (n+1) (acc++[d]) (Nat.le_refl _) h
        refine ⟨g1,g2.trans ?_⟩
        have hx':x=bareS d:=(linO_some.1 hl).2.2
        rw [lines_app,hx',List.append_assoc]
        simp only [linesS,line_bare,List.append_nil,List.append_assoc,List.cons_append,List.nil_append]
theorem par_back {s:List UInt8} (h:parE s=0):validB 16777216 (parL s)=true∧linesS (parL s)=s:=back_k s.length s 1 [] (Nat.le_refl _) h
theorem right_line {d:Df} (h:rightB 16777216 d=true):LineS (bareS d) d:=by
  obtain ⟨h0,h1,h2,h3⟩:=right_lim h
  have a8:=itoa_lt h1.1 h1.2
  have l8:=itoa_lt h2.1 h2.2
  have s8:=itoa_lt (show 0≤d.s by omega) (by omega)
  exact ⟨(code_name h0).2,⟨⟨h1.1,by omega⟩,⟨h2.1,by omega⟩,⟨by omega,by omega⟩⟩,rfl⟩
theorem right_no {d:Df} (h:rightB 16777216 d=true):(10:UInt8) ∉ bareS d:=by
  have no:=fun n=>itoa_not n 10 (by decide) (by decide)
  rw [bare_cat]
  simp only [List.mem_append,List.mem_cons,not_or]
  exact ⟨(name_no (code_name (right_lim h).1).2).2,by decide,no _,by decide,no _,by decide,no _⟩
theorem text_k:∀ (l:List Df) (n:Int) (acc:List Df),(∀ d∈l,rightB 16777216 d=true)→parK (splitL (linesS l) [10]) n acc=finR (acc++l):=by
  intro l
  induction l with
  | nil=>intro n acc _; exact (par_none (by simp [linesS]) n acc).trans (by rw [List.append_nil]; rfl)
  | cons d l ih =>
    intro n acc h
    have hd:=h d (by simp)
    have e:linesS (d :: l)=bareS d++10 :: linesS l:=by
      simp only [linesS,line_bare,List.append_assoc,List.cons_append,List.nil_append]
    rw [e,par_cons (right_no hd),linO_some.2 (right_line hd)]
    refine (ih (n+1) (acc++[d]) fun e he=>h e (by simp [he])).trans ?_
    rw [List.append_assoc]
    rfl
theorem text_par {l:List Df} (h:validB 16777216 l=true):parR (linesS l)=(l,0,0):=by
  refine (text_k l 1 [] (valid_right h)).trans ?_
  unfold finR
  rw [List.nil_append,h]
  rfl
end Go.Proofs.YtnhmhcobpbilhaaGreatDoor
