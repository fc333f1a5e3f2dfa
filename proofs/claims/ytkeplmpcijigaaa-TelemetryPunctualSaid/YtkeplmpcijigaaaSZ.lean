/- slices.SortStableFunc at 30 elements or fewer: blocks of 20 by insertion, merged in place. -/
import Derived.Test.YtkeplmpcijigaaaSY
namespace Go.Proofs.Ytkeplmpcijigaaa
variable [Drw]
set_option linter.unusedSectionVars false
set_option linter.unusedSimpArgs false
set_option linter.unusedVariables false
open Go.Shelf Go.RowKit Go.Lib Go.Sort
section
variable {α:Type} [Inhabited α]
theorem cmpLays_on {P:Program} {g:Nat} {cb:Array Value} {enc:α→List Value} {k:Nat} {cf:α→α→Int} {blk off size:Nat} {w0 W:World} {dk:Array α} (hC:CmpLays P g cb enc k cf blk off size w0) (h:SWK enc k w0 blk off dk W) (hblk:blk < w0.heap.size) (hs:dk.size=size):CmpLays P g cb enc k cf blk off size W:=by
  intro m os dk' hd' x y
  obtain ⟨m',os',e⟩:=h.on hblk m dk' os (hd'.trans hs.symm)
  rw [e]
  exact hC m' os' dk' hd' x y
theorem ins_any (k:Nat) (aE:∀ w,(isAgg 33).run Try.prog w = .ok true w) (zE:∀ w,(Go.sizeOf 33).run Try.prog w = .ok k w) (enc:α→List Value) (cf:α→α→Int) (g:Nat) (cb:Array Value) (blk off cap:Nat) (N:Nat) (d0:Array α) (w0:World)
    (eg:∀ args w,(callFunc g args).run Try.prog w = .ok (.enter g args) w) (hcmp:CmpLays Try.prog g cb enc k cf blk off d0.size w0) (R:RowK enc k w0 blk off d0) (hN:d0.size=N) (hsz:N < 1073741824) (a b:Nat) (d:Array α) (w:World) (hds:d.size=N) (S:SWK enc k w0 blk off d w) (hab:a≤b) (hb:b≤N) :
    Calls Try.prog 60 #[.slice (some ⟨blk,off,none⟩) N cap,.int .i64 a,.int .i64 b,.func (.func g) #[] cb] w fun e w'=>e = .returned (.tuple #[])∧Aside (SWK enc k w0 blk off (Sort.insertionSort (ltOf cf) d a b) w'):=by
  have hi:Calls Try.prog 60 _ w _:=AnyQ.insertionSortCmpFunc (P:=Try.prog) (ρ:=sortMLay_ren) { sortMLay with } k aE zE enc R.hk R.h1 cf g cb blk off cap a b d w eg
    (by rw [hds,← hN]; exact cmpLays_on hcmp S R.hblk (by omega)) (S.holds R.hblk R.hH (by omega)) (S.lt R.hblk) hab (by omega) (by omega)
  rw [hds] at hi
  refine hi.mono ?_
  rintro e w' ⟨rfl,n,os,rfl⟩
  exact ⟨rfl,S.on R.hblk n _ os (insS_size _ _ _ _)⟩
set_option maxHeartbeats 4000000 in
set_option maxRecDepth 1000000 in
theorem stable_any (k:Nat) (aE:∀ w,(isAgg 33).run Try.prog w = .ok true w) (zE:∀ w,(Go.sizeOf 33).run Try.prog w = .ok k w) (enc:α→List Value) (cf:α→α→Int) (g:Nat) (cb:Array Value) (blk off cap:Nat) (N:Nat) (d0:Array α) (w0:World)
    (eg:∀ args w,(callFunc g args).run Try.prog w = .ok (.enter g args) w) (hcmp:CmpLays Try.prog g cb enc k cf blk off d0.size w0) (R:RowK enc k w0 blk off d0) (hN:d0.size=N) (hsz:N≤30) :
    Calls Try.prog 43 #[.slice (some ⟨blk,off,none⟩) N cap,.int .i64 N,.func (.func g) #[] cb] w0 fun e w'=>e = .returned (.tuple #[])∧Aside (SWK enc k w0 blk off (stabA (ltOf cf) d0) w'):=by
  have S0:Aside (SWK enc k w0 blk off d0 w0):=SWK.start R.hH
  have HI:Aside (∀ (a b:Nat) (d:Array α) (w:World),d.size=N→Aside (SWK enc k w0 blk off d w)→a≤b→b≤N→Calls Try.prog 60 #[.slice (some ⟨blk,off,none⟩) N cap,.int .i64 a,.int .i64 b,.func (.func g) #[] cb] w fun e w'=>e = .returned (.tuple #[])∧Aside (SWK enc k w0 blk off (Sort.insertionSort (ltOf cf) d a b) w')):=fun a b d w h1 S h2 h3=>ins_any k aE zE enc cf g cb blk off cap N d0 w0 eg hcmp R hN (by omega) a b d w h1 S.out h2 h3
  have HM:Aside (∀ (d:Array α) (w:World),d.size=N→Aside (SWK enc k w0 blk off d w)→20 < N→Calls Try.prog 61 #[.slice (some ⟨blk,off,none⟩) N cap,.int .i64 0,.int .i64 20,.int .i64 N,.func (.func g) #[] cb] w fun e w'=>e = .returned (.tuple #[])∧Aside (SWK enc k w0 blk off (symG (ltOf cf) N 0 20 N d) w')):=fun d w h1 S h2=>symMerge_any k aE zE enc cf g cb blk off cap N d0 w0 eg hcmp R hN (by omega) N 0 20 N d w (by omega) h1 S.out (by omega) h2 (Nat.le_refl _)
  have HN:Hid (d0.size=N):=hN
  clear hcmp R aE zE hN
  by_cases h20:N < 20
  · have e1 : ¬ (20 : Int) ≤ (N : Int) := by omega
    have e2:¬ (20:Int) < (N:Int):=by omega
    have hc:=HI.out 0 N d0 w0 HN.out S0 (Nat.zero_le _) (Nat.le_refl _)
    go_enter Try.func43,Try.ntmps43
    go_wp2
    refine wp_loop_rounds 1 ?_
    rw [rounds_succ]
    go_wp2_with (go_at_call 60; refine hc.mono ?_; rintro e w' ⟨rfl,S1⟩)
    refine wp_loop_rounds 1 ?_
    rw [rounds_succ]
    go_wp2
    go_end0
    refine ⟨rfl,?_⟩
    unfold stabA
    rw [HN.out,if_pos h20]
    exact S1
  · have e1 : (20 : Int) ≤ (N : Int) := by omega
    have e3:¬ (40:Int)≤(N:Int):=by omega
    have h20':¬ N < 20:=h20
    clear h20
    have hc:=HI.out 0 20 d0 w0 HN.out S0 (by omega) (by omega)
    have hs1:(Sort.insertionSort (ltOf cf) d0 0 20).size=N:=(insS_size _ _ _ _).trans HN.out
    obtain ⟨d1,hd1⟩:∃ x,x=Sort.insertionSort (ltOf cf) d0 0 20:=⟨_,rfl⟩
    rw [← hd1] at hc hs1
    have hs2:(Sort.insertionSort (ltOf cf) d1 20 N).size=N:=(insS_size _ _ _ _).trans hs1
    obtain ⟨d2,hd2⟩:∃ x,x=Sort.insertionSort (ltOf cf) d1 20 N:=⟨_,rfl⟩
    have HS1:Aside (d1.size=N):=hs1
    have HS2:Aside (d2.size=N):=by rw [hd2]; exact hs2
    have HD:Aside (d1=Sort.insertionSort (ltOf cf) d0 0 20∧d2=Sort.insertionSort (ltOf cf) d1 20 N):=⟨hd1,hd2⟩
    clear hs1 hs2 hd1 hd2
    go_enter Try.func43,Try.ntmps43
    go_wp2
    refine wp_loop_rounds 2 ?_
    rw [rounds_succ]
    go_wp2_with (go_at_call 60; refine hc.mono ?_; rintro e w' ⟨rfl,S1⟩)
    clear hc
    have hc2:Calls Try.prog 60 #[.slice (some ⟨blk,off,none⟩) N cap,.int .i64 20,.int .i64 N,.func (.func g) #[] cb] w' fun e w'=>e = .returned (.tuple #[])∧Aside (SWK enc k w0 blk off d2 w'):=by
      rw [HD.out.2]
      exact HI.out 20 N d1 w' HS1.out S1 (by omega) (Nat.le_refl _)
    rw [rounds_succ]
    go_wp2_with (go_at_call 60; refine hc2.mono ?_; rintro e w2 ⟨rfl,S2⟩)
    clear hc2
    by_cases hlt:20 < N
    · have e2 : (20 : Int) < (N : Int) := by omega
      have e4:¬ (40:Int) < (N:Int):=by omega
      have hc3:=HM.out d2 w2 HS2.out S2 hlt
      refine wp_loop_rounds 2 ?_
      rw [rounds_succ]
      go_wp2
      refine wp_loop_rounds 1 ?_
      rw [rounds_succ]
      go_wp2_with (go_at_call 61; refine hc3.mono ?_; rintro e w3 ⟨rfl,S3⟩)
      rw [rounds_succ]
      go_wp2
      go_end0
      refine ⟨rfl,?_⟩
      unfold stabA
      rw [HN.out,if_neg h20',if_pos hlt,← HD.out.1,← HD.out.2]
      exact S3
    · have e2 : ¬ (20 : Int) < (N : Int) := by omega
      refine wp_loop_rounds 1 ?_
      rw [rounds_succ]
      go_wp2
      go_end0
      refine ⟨rfl,?_⟩
      unfold stabA
      rw [HN.out,if_neg h20',if_neg hlt,← HD.out.1,← HD.out.2]
      exact S2
end
end Go.Proofs.Ytkeplmpcijigaaa
