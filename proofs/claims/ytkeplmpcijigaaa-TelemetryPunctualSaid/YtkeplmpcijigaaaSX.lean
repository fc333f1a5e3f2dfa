/- slices.rotateCmpFunc, walked by hand. -/
import Derived.Test.YtkeplmpcijigaaaSW
namespace Go.Proofs.Ytkeplmpcijigaaa
variable [Drw]
set_option linter.unusedSectionVars false
set_option linter.unusedSimpArgs false
set_option linter.unusedVariables false
open Go.Shelf Go.RowKit Go.Lib Go.Sort
section
variable {α:Type} [Inhabited α]
set_option maxHeartbeats 4000000 in
set_option maxRecDepth 1000000 in
theorem rotate_any (k : Nat) (aE : ∀ w, (isAgg 33).run Try.prog w = .ok true w) (zE : ∀ w, (Go.sizeOf 33).run Try.prog w = .ok k w) (enc : α → List Value) (g : Nat) (cb : Array Value) (blk off cap a m b : Nat) (d0 d : Array α) (w0 w : World)
    (R:RowK enc k w0 blk off d0) (hs:d0.size=d.size) (S:SWK enc k w0 blk off d w) (h1:a < m) (h2:m < b) (h3:b≤d.size) (hsz:d.size < 4611686018427387904) :
    Calls Try.prog 82 #[.slice (some ⟨blk,off,none⟩) d.size cap,.int .i64 a,.int .i64 m,.int .i64 b,.func (.func g) #[] cb] w fun e w'=>e = .returned (.tuple #[])∧SWK enc k w0 blk off (rotA d a m b) w':=by
  have S0:Aside (SWK enc k w0 blk off d w):=S
  clear S
  have hC:Aside (∀ (a b n:Nat) (dk:Array α) (wr:World),dk.size=d.size→Aside (SWK enc k w0 blk off dk wr)→a+n≤d.size→b+n≤d.size→Calls Try.prog 100 #[.slice (some ⟨blk,off,none⟩) d.size cap,.int .i64 a,.int .i64 b,.int .i64 n,.func (.func g) #[] cb] wr fun e w'=>e = .returned (.tuple #[])∧Aside (SWK enc k w0 blk off (swpR n a b dk) w')):=fun a b n dk wr hds S1 q1 q2=>by
    have:=swapRange_any k aE zE enc g cb blk off cap a b n d0 dk w0 wr R (by omega) S1.out (by omega) (by omega) (by omega)
    rw [hds] at this
    exact this
  clear R aE zE hs
  go_enter Try.func82,Try.ntmps82
  go_wp2
  go_loopg [10,11] (b - a) (fun kx s10 s11 wr=>∃ (i j f:Nat) (dk:Array α),s10 = .int .i64 i∧s11 = .int .i64 j∧0 < i∧0 < j∧a+i≤m∧m+j≤b∧i+j≤f∧f≤kx∧dk.size=d.size∧Aside (SWK enc k w0 blk off dk wr)∧Hid (rotG m f i j dk=rotA d a m b))
  case atStart=>exact ⟨m - a,b - m,b - a,d,by congr 1; omega,by congr 1; omega,by omega,by omega,by omega,by omega,by omega,by omega,rfl,S0,rfl⟩
  case round =>
    clear S0
    obtain ⟨i,j,f0,dk,rfl,rfl,hi0,hj0,hi,hj,hkx,hfk,hds,S1,HE⟩:=hrel
    obtain ⟨f,rfl⟩:∃ f,f0=f+1:=⟨f0 - 1,by omega⟩
    by_cases hij:i=j
    · subst hij
      have e1:((m - i:Nat):Int)=(m:Int) - (i:Int):=by omega
      have hc:=hC.out (m - i) m i dk wr hds S1 (by omega) (by omega)
      rw [e1] at hc
      go_wp2_with (go_at_call 100; refine hc.mono ?_; rintro e w' ⟨rfl,S2⟩)
      go_end0
      refine ⟨rfl,?_⟩
      rw [← HE.out]
      unfold rotG
      rw [if_pos rfl]
      exact S2.out
    · by_cases hlt : j < i
      · have hijz : ¬ (i : Int) = (j : Int) := by omega
        have hltz:(j:Int) < (i:Int):=by omega
        have e1:((m - i:Nat):Int)=(m:Int) - (i:Int):=by omega
        have hc:=hC.out (m - i) m j dk wr hds S1 (by omega) (by omega)
        rw [e1] at hc
        go_wp2_with (go_at_call 100; refine hc.mono ?_; rintro e w' ⟨rfl,S2⟩)
        go_roundg f
        case measure=>omega
        case rel =>
          refine ⟨i - j,j,f,swpR j (m - i) m dk,by congr 1; omega,rfl,by omega,hj0,by omega,hj,by omega,Nat.le_refl _,by rw [swpR_size]; exact hds,S2,?_⟩
          show _=_
          rw [← HE.out]
          conv=>rhs; unfold rotG
          rw [if_neg hij,if_pos hlt]
      · have hijz : ¬ (i : Int) = (j : Int) := by omega
        have hltz:¬ (j:Int) < (i:Int):=by omega
        have e1:((m - i:Nat):Int)=(m:Int) - (i:Int):=by omega
        have e2:((m+j - i:Nat):Int)=(m:Int)+(j:Int) - (i:Int):=by omega
        have hc:=hC.out (m - i) (m+j - i) i dk wr hds S1 (by omega) (by omega)
        rw [e1,e2] at hc
        go_wp2_with (go_at_call 100; refine hc.mono ?_; rintro e w' ⟨rfl,S2⟩)
        go_roundg f
        case measure=>omega
        case rel =>
          refine ⟨i,j - i,f,swpR i (m - i) (m+j - i) dk,rfl,by congr 1; omega,hi0,by omega,hi,by omega,by omega,Nat.le_refl _,by rw [swpR_size]; exact hds,S2,?_⟩
          show _=_
          rw [← HE.out]
          conv=>rhs; unfold rotG
          rw [if_neg hij,if_neg hlt]
end
end Go.Proofs.Ytkeplmpcijigaaa
