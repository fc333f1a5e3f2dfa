/- slices.SortStableFunc, walked by hand: ranges exchanged, blocks turned round. -/
import Derived.Test.YtkeplmpcijigaaaSD
import Derived.Shelf.SlSortCmp.KitK
import Derived.Sort.WalkB2
import Derived.Sort.WalkB12
import Derived.Deep.LoopGhost
namespace Go.Proofs.Ytkeplmpcijigaaa
variable [Drw]
set_option linter.unusedSectionVars false
set_option linter.unusedSimpArgs false
set_option linter.unusedVariables false
open Go.Shelf Go.RowKit Go.Lib Go.Sort
section
variable {α:Type} [Inhabited α]
set_option maxHeartbeats 4000000 in
set_option maxRecDepth 1000000 in
theorem swapRange_any (k : Nat) (aE : ∀ w, (isAgg 33).run Try.prog w = .ok true w) (zE : ∀ w, (Go.sizeOf 33).run Try.prog w = .ok k w) (enc : α → List Value) (g : Nat) (cb : Array Value) (blk off cap a b n : Nat) (d0 d : Array α) (w0 w : World)
    (R:RowK enc k w0 blk off d0) (hs:d0.size=d.size) (S:SWK enc k w0 blk off d w) (h1:a+n≤d.size) (h2:b+n≤d.size) (hsz:d.size < 4611686018427387904) :
    Calls Try.prog 100 #[.slice (some ⟨blk,off,none⟩) d.size cap,.int .i64 a,.int .i64 b,.int .i64 n,.func (.func g) #[] cb] w fun e w'=>e = .returned (.tuple #[])∧SWK enc k w0 blk off (swpR n a b d) w':=by
  have mixed:=sortMLay.mixed
  have t0:=Try.underlying0; have a0:=Try.isAgg0; have z0:=Try.sizeOf0; have v0:=Try.zeroValue0; have t3:=Try.underlying3; have a3:=Try.isAgg3; have z3:=Try.sizeOf3; have v3:=Try.zeroValue3; have t4:=Try.underlying4; have a4:=Try.isAgg4; have z4:=Try.sizeOf4; have v4:=Try.zeroValue4; have t22:=Try.underlying22; have a22:=Try.isAgg22; have z22:=Try.sizeOf22; have v22:=Try.zeroValue22; have t25:=Try.underlying51; have a25:=Try.isAgg51; have z25:=Try.sizeOf51; have v25:=Try.zeroValue51
  have S0:Aside (SWK enc k w0 blk off d w):=S
  clear S
  go_enter Try.func100,Try.ntmps100
  go_wp2
  go_loopg [10] n (fun kx s10 wr=>∃ (i:Nat) (dk:Array α),s10 = .int .i64 i∧i≤n∧n - i≤kx∧dk.size=d.size∧Aside (SWK enc k w0 blk off dk wr)∧Hid (swpR (n - i) (a+i) (b+i) dk=swpR n a b d))
  case atStart=>exact ⟨0,d,rfl,by omega,by omega,rfl,S0,rfl⟩
  case round =>
    clear S0
    obtain ⟨i,dk,rfl,hin,hkx,hds,S1,HE⟩:=hrel
    by_cases hlt:i < n
    · have hltz : (i : Int) < (n : Int) := by omega
      go_wp2_with fail
      have ea44:((a:Int)+(i:Int)).toNat=a+i:=by omega
      have pa44:(0:Int)≤(a:Int)+(i:Int):=by omega
      have ba44:(a:Int)+(i:Int) < (d.size:Int):=by omega
      have ra44:IntKind.i64.wrap ((a:Int)+(i:Int))=(a:Int)+(i:Int):=by rw [IntKind.wrap_i64]; omega
      have ec44:((b:Int)+(i:Int)).toNat=b+i:=by omega
      have pc44:(0:Int)≤(b:Int)+(i:Int):=by omega
      have bc44:(b:Int)+(i:Int) < (d.size:Int):=by omega
      have rc44:IntKind.i64.wrap ((b:Int)+(i:Int))=(b:Int)+(i:Int):=by rw [IntKind.wrap_i64]; omega
      have S2:Aside (SWK enc k w0 blk off (swp dk (a+i) (b+i)) ((wr.drew.setCells blk (off+(a+i) * k) (enc dk[b+i]!)).setCells blk (off+(b+i) * k) (enc dk[a+i]!))):=S1.out.swapped R (a+i) (b+i) (by omega) (by omega)
      have l44a:=S1.out.ld1 R (by omega) Try.prog (a+i) (by omega)
      have l44b:=S1.out.ld1 R (by omega) Try.prog (b+i) (by omega)
      have s44a:=S1.out.st1 R (by omega) Try.prog (a+i) (by omega) dk[b+i]!
      have s44b:=S1.out.st2 R (by omega) Try.prog (a+i) (b+i) (by omega) (by omega) dk[b+i]! dk[a+i]!
      have n44a:(enc dk[a+i]!).length=k:=R.hk _
      have n44b:(enc dk[b+i]!).length=k:=R.hk _
      generalize enc dk[a+i]! = cI44 at S2 l44a s44b n44a
      generalize enc dk[b+i]! = cJ44 at S2 l44b s44a s44b n44b
      clear S1
      go_wp2_with fail
      go_big_region_o
      clear l44a l44b s44a s44b
      generalize (wr.drew.setCells blk (off+(a+i) * k) cJ44).setCells blk (off+(b+i) * k) cI44=w2 at S2 ⊢
      go_wp2
      go_roundg (n - (i+1))
      case measure=>omega
      case rel =>
        refine ⟨i+1,swp dk (a+i) (b+i),by simp,hlt,Nat.le_refl _,by rw [size_swp]; exact hds,S2,?_⟩
        show _=_
        rw [← HE.out]
        obtain ⟨q,hq⟩:∃ q,n - i=q+1:=⟨n - i - 1,by omega⟩
        rw [hq,show n - (i+1)=q by omega]
        rfl
    · have hltz : ¬ (i : Int) < (n : Int) := by omega
      go_wp2
      go_end0
      refine ⟨rfl,?_⟩
      rw [← HE.out,show n - i=0 by omega]
      exact S1.out
end
end Go.Proofs.Ytkeplmpcijigaaa
