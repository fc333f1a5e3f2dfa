/- slices.symMergeCmpFunc, walked by hand. -/
import Derived.Test.YtkeplmpcijigaaaSX
namespace Go.Proofs.Ytkeplmpcijigaaa
variable [Drw]
set_option linter.unusedSectionVars false
set_option linter.unusedSimpArgs false
set_option linter.unusedVariables false
open Go.Shelf Go.RowKit Go.Lib Go.Sort
section
variable {α:Type} [Inhabited α]
set_option maxHeartbeats 4000000 in
set_option maxRecDepth 1000000 in
theorem symMerge_any (k : Nat) (aE : ∀ w, (isAgg 33).run Try.prog w = .ok true w) (zE : ∀ w, (Go.sizeOf 33).run Try.prog w = .ok k w) (enc : α → List Value) (cf : α → α → Int) (g : Nat) (cb : Array Value) (blk off cap : Nat) (N : Nat) (d0 : Array α) (w0 : World)
    (eg:∀ args w,(callFunc g args).run Try.prog w = .ok (.enter g args) w) (hcmp:CmpLays Try.prog g cb enc k cf blk off d0.size w0) (R:RowK enc k w0 blk off d0) (hN:d0.size=N) (hsz:N < 1073741824):∀ (fu a m b:Nat) (d:Array α) (w:World),b≤fu+a→d.size=N→SWK enc k w0 blk off d w→a < m→m < b→b≤N →
    Calls Try.prog 61 #[.slice (some ⟨blk,off,none⟩) N cap,.int .i64 a,.int .i64 m,.int .i64 b,.func (.func g) #[] cb] w fun e w'=>e = .returned (.tuple #[])∧Aside (SWK enc k w0 blk off (symG (ltOf cf) fu a m b d) w'):=by
  have mixed:=sortMLay.mixed
  have t0:=Try.underlying0; have a0:=Try.isAgg0; have z0:=Try.sizeOf0; have v0:=Try.zeroValue0; have t3:=Try.underlying3; have a3:=Try.isAgg3; have z3:=Try.sizeOf3; have v3:=Try.zeroValue3; have t4:=Try.underlying4; have a4:=Try.isAgg4; have z4:=Try.sizeOf4; have v4:=Try.zeroValue4; have t22:=Try.underlying22; have a22:=Try.isAgg22; have z22:=Try.sizeOf22; have v22:=Try.zeroValue22; have t25:=Try.underlying51; have a25:=Try.isAgg51; have z25:=Try.sizeOf51; have v25:=Try.zeroValue51; have t90:=Try.underlying90; have a90:=Try.isAgg90; have z90:=Try.sizeOf90; have v90:=Try.zeroValue90
  have HC:Aside _:=hcmp
  clear hcmp
  intro fu
  induction fu with
  | zero=>intro a m b d w h1 h2 S h3 h4 h5; omega
  | succ fu ih =>
    intro a m b d w hfu hds S0 ham hmb hbN
    have S0:Aside (SWK enc k w0 blk off d w):=S0
    by_cases hA:m=a+1
    · have e0 : (m : Int) - (a : Int) = 1 := by omega
      have hA1:m≤a+1:=by omega
      have HA:Hid (m=a+1):=hA
      clear hA ih
      go_enter Try.func61,Try.ntmps61
      go_wp2
      go_loopg [10,11] (b - a) (fun kx si sj wr=>∃ (i j f:Nat),si = .int .i64 i∧sj = .int .i64 j∧m≤i∧i≤j∧j≤b∧j - i≤f∧j - i≤kx∧Aside (SWK enc k w0 blk off d wr)∧Hid (bsR (fun h=>ltOf cf d[h]! d[a]!) f i j=bsR (fun h=>ltOf cf d[h]! d[a]!) (b - a) m b))
      case atStart=>exact ⟨m,b,b - a,rfl,rfl,by omega,by omega,by omega,by omega,by omega,S0,rfl⟩
      case round =>
        clear S0
        obtain ⟨i,j,f0,rfl,rfl,hi,hij,hj,hf,hkx,S1,HE⟩:=hrel
        by_cases hlt:i < j
        · have hltz : (i : Int) < (j : Int) := by omega
          obtain ⟨f,rfl⟩:∃ f,f0=f+1:=⟨f0 - 1,by omega⟩
          obtain ⟨h,hh⟩:∃ h,h=(i+j) / 2:=⟨_,rfl⟩
          have hh1:i≤h:=by omega
          have hh2:h < j:=by omega
          have hmid:((i:Int)+(j:Int)) / 2=(h:Int):=by omega
          have HH:Hid ((i+j) / 2=h):=hh.symm
          clear hh
          cases hL:ltOf cf d[h]! d[a]! with
          | true => as_aux_lemma =>
            have ea20:((h:Int)).toNat=h:=by omega
            have pa20:(0:Int)≤(h:Int):=by omega
            have ba20:(h:Int) < (N:Int):=by omega
            have ra20:IntKind.i64.wrap ((h:Int))=(h:Int):=by rw [IntKind.wrap_i64]; omega
            have ec20:((a:Int)).toNat=a:=by omega
            have pc20:(0:Int)≤(a:Int):=by omega
            have bc20:(a:Int) < (N:Int):=by omega
            have rc20:IntKind.i64.wrap ((a:Int))=(a:Int):=by rw [IntKind.wrap_i64]; omega
            obtain ⟨x20,hx20⟩:∃ x,x=d[h]! := ⟨_,rfl⟩
            obtain ⟨y20,hy20⟩:∃ x,x=d[a]! := ⟨_,rfl⟩
            have l20a:=S1.out.ld R (by omega) Try.prog (h) (by omega)
            have l20b:=S1.out.ld R (by omega) Try.prog (a) (by omega)
            rw [← hx20] at l20a
            rw [← hy20] at l20b
            have hc20:=S1.out.cmp HC.out (by omega) x20 y20
            have hv20:cf x20 y20 < 0:=by rw [hx20,hy20]; exact of_decide_eq_true hL
            have hd20:decide (cf x20 y20 < 0)=true:=decide_eq_true hv20
            clear hx20 hy20
            go_wp2_with fail
            go_quiet_grown (first | (go_at_fn g; refine Calls.grown_of (hc20 _ _)))
            have S2:Aside (SWK enc k w0 blk off d (grow (wr.drewN nq) osq)):=S1.out.grown nq osq
            clear l20a l20b hc20 S1
            generalize grow (wr.drewN nq) osq=w2 at S2 ⊢
            clear nq osq
            go_wp2
            go_roundg (j - (h+1))
            case measure=>omega
            case rel =>
              refine ⟨h+1,j,f,by first | rfl | go_num | (congr 1; omega),rfl,by omega,by omega,by omega,by omega,by omega,S2,?_⟩
              show _=_
              rw [← HE.out]
              conv=>rhs; unfold bsR
              rw [if_pos hlt]
              simp only [HH.out]
              rw [if_pos (by simp [hL])]
          | false => as_aux_lemma =>
            have ea21:((h:Int)).toNat=h:=by omega
            have pa21:(0:Int)≤(h:Int):=by omega
            have ba21:(h:Int) < (N:Int):=by omega
            have ra21:IntKind.i64.wrap ((h:Int))=(h:Int):=by rw [IntKind.wrap_i64]; omega
            have ec21:((a:Int)).toNat=a:=by omega
            have pc21:(0:Int)≤(a:Int):=by omega
            have bc21:(a:Int) < (N:Int):=by omega
            have rc21:IntKind.i64.wrap ((a:Int))=(a:Int):=by rw [IntKind.wrap_i64]; omega
            obtain ⟨x21,hx21⟩:∃ x,x=d[h]! := ⟨_,rfl⟩
            obtain ⟨y21,hy21⟩:∃ x,x=d[a]! := ⟨_,rfl⟩
            have l21a:=S1.out.ld R (by omega) Try.prog (h) (by omega)
            have l21b:=S1.out.ld R (by omega) Try.prog (a) (by omega)
            rw [← hx21] at l21a
            rw [← hy21] at l21b
            have hc21:=S1.out.cmp HC.out (by omega) x21 y21
            have hv21:¬ cf x21 y21 < 0:=by rw [hx21,hy21]; exact of_decide_eq_false hL
            have hd21:decide (cf x21 y21 < 0)=false:=decide_eq_false hv21
            clear hx21 hy21
            go_wp2_with fail
            go_quiet_grown (first | (go_at_fn g; refine Calls.grown_of (hc21 _ _)))
            have S2:Aside (SWK enc k w0 blk off d (grow (wr.drewN nq) osq)):=S1.out.grown nq osq
            clear l21a l21b hc21 S1
            generalize grow (wr.drewN nq) osq=w2 at S2 ⊢
            clear nq osq
            go_wp2
            go_roundg (h - i)
            case measure=>omega
            case rel =>
              refine ⟨i,h,f,rfl,rfl,by omega,by omega,by omega,by omega,by omega,S2,?_⟩
              show _=_
              rw [← HE.out]
              conv=>rhs; unfold bsR
              rw [if_pos hlt]
              simp only [HH.out]
              rw [if_neg (by simp [hL])]
        · as_aux_lemma =>
          have hltz:¬ (i:Int) < (j:Int):=by omega
          have E1:Hid (bsR (fun h=>ltOf cf d[h]! d[a]!) (b - a) m b=i):=by
            show _=_
            rw [← HE.out]
            cases f0 with
            | zero=>rfl
            | succ f=>unfold bsR; rw [if_neg hlt]
          clear HE
          go_wp2
          go_loopg [13] (b - a) (fun kx sq wr=>∃ (q n:Nat) (dk:Array α),sq = .int .i64 q∧a≤q∧q+n+1≤i∧i≤q+n+1∧n≤kx∧dk.size=N∧Aside (SWK enc k w0 blk off dk wr)∧Hid (upR n q dk=upR (i - 1 - a) a d))
          case atStart=>exact ⟨a,i - 1 - a,d,rfl,by omega,by omega,by omega,by omega,hds,S1,rfl⟩
          case round =>
            clear S1
            obtain ⟨q,n,dk,rfl,hq,hn1,hn2,hkx2,hdk,S3,HE2⟩:=hrel
            by_cases hq2:q+1 < i
            · have hqz : (q : Int) < (i : Int) - 1 := by omega
              obtain ⟨n,rfl⟩:∃ n',n=n'+1:=⟨n - 1,by omega⟩
              have ea60:((q:Int)).toNat=q:=by omega
              have pa60:(0:Int)≤(q:Int):=by omega
              have ba60:(q:Int) < (N:Int):=by omega
              have ra60:IntKind.i64.wrap ((q:Int))=(q:Int):=by rw [IntKind.wrap_i64]; omega
              have ec60:((q:Int)+1).toNat=q+1:=by omega
              have pc60:(0:Int)≤(q:Int)+1:=by omega
              have bc60:(q:Int)+1 < (N:Int):=by omega
              have rc60:IntKind.i64.wrap ((q:Int)+1)=(q:Int)+1:=by rw [IntKind.wrap_i64]; omega
              have S4:Aside (SWK enc k w0 blk off (swp dk (q) (q+1)) ((wr.drew.setCells blk (off+(q) * k) (enc dk[q+1]!)).setCells blk (off+(q+1) * k) (enc dk[q]!))):=S3.out.swapped R (q) (q+1) (by omega) (by omega)
              have l60a:=S3.out.ld1 R (by omega) Try.prog (q) (by omega)
              have l60b:=S3.out.ld1 R (by omega) Try.prog (q+1) (by omega)
              have s60a:=S3.out.st1 R (by omega) Try.prog (q) (by omega) dk[q+1]!
              have s60b:=S3.out.st2 R (by omega) Try.prog (q) (q+1) (by omega) (by omega) dk[q+1]! dk[q]!
              have n60a:(enc dk[q]!).length=k:=R.hk _
              have n60b:(enc dk[q+1]!).length=k:=R.hk _
              generalize enc dk[q]! = cI60 at S4 l60a s60b n60a
              generalize enc dk[q+1]! = cJ60 at S4 l60b s60a s60b n60b
              clear S3
              go_wp2_with fail
              go_big_region_o
              clear l60a l60b s60a s60b
              generalize (wr.drew.setCells blk (off+(q) * k) cJ60).setCells blk (off+(q+1) * k) cI60=w2 at S4 ⊢
              go_wp2
              go_roundg n
              case measure=>omega
              case rel =>
                refine ⟨q+1,n,swp dk q (q+1),by first | rfl | go_num | (congr 1; omega),by omega,by omega,by omega,Nat.le_refl _,by rw [size_swp]; exact hdk,S4,?_⟩
                show _=_
                rw [← HE2.out]
                rfl
            · have hqz : ¬ (q : Int) < (i : Int) - 1 := by omega
              obtain rfl:n=0:=by omega
              go_wp2
              (try simp only [Exit.inBlock,Exit.then]); refine bodyPost_ret (results_none rfl _ _ _) rfl ?_
              refine ⟨rfl,?_⟩
              have e:symG (ltOf cf) (fu+1) a m b d=dk:=by
                unfold symG
                rw [if_pos HA.out,E1.out,← HE2.out]
                rfl
              rw [e]
              exact S3
    · have e0 : ((m : Int) - (a : Int) == 1) = false := beq_eq_false_iff_ne.2 (by omega)
      have hA1:a+1 < m:=by omega
      have HA:Hid (¬ m=a+1):=hA
      clear hA
      by_cases hB:b=m+1
      · have e1 : (b : Int) - (m : Int) = 1 := by omega
        have hB1:b≤m+1:=by omega
        have HB:Hid (b=m+1):=hB
        clear hB ih
        go_enter Try.func61,Try.ntmps61
        go_wp2
        go_loopg [14,15] (b - a) (fun kx si sj wr=>∃ (i j f:Nat),si = .int .i64 i∧sj = .int .i64 j∧a≤i∧i≤j∧j≤m∧j - i≤f∧j - i≤kx∧Aside (SWK enc k w0 blk off d wr)∧Hid (bsR (fun h => !(ltOf cf d[m]! d[h]!)) f i j=bsR (fun h => !(ltOf cf d[m]! d[h]!)) (b - a) a m))
        case atStart=>exact ⟨a,m,b - a,rfl,rfl,by omega,by omega,by omega,by omega,by omega,S0,rfl⟩
        case round =>
          clear S0
          obtain ⟨i,j,f0,rfl,rfl,hi,hij,hj,hf,hkx,S1,HE⟩:=hrel
          by_cases hlt:i < j
          · have hltz : (i : Int) < (j : Int) := by omega
            obtain ⟨f,rfl⟩:∃ f,f0=f+1:=⟨f0 - 1,by omega⟩
            obtain ⟨h,hh⟩:∃ h,h=(i+j) / 2:=⟨_,rfl⟩
            have hh1:i≤h:=by omega
            have hh2:h < j:=by omega
            have hmid:((i:Int)+(j:Int)) / 2=(h:Int):=by omega
            have HH:Hid ((i+j) / 2=h):=hh.symm
            clear hh
            cases hL:ltOf cf d[m]! d[h]! with
            | true => as_aux_lemma =>
              have ea24:((m:Int)).toNat=m:=by omega
              have pa24:(0:Int)≤(m:Int):=by omega
              have ba24:(m:Int) < (N:Int):=by omega
              have ra24:IntKind.i64.wrap ((m:Int))=(m:Int):=by rw [IntKind.wrap_i64]; omega
              have ec24:((h:Int)).toNat=h:=by omega
              have pc24:(0:Int)≤(h:Int):=by omega
              have bc24:(h:Int) < (N:Int):=by omega
              have rc24:IntKind.i64.wrap ((h:Int))=(h:Int):=by rw [IntKind.wrap_i64]; omega
              obtain ⟨x24,hx24⟩:∃ x,x=d[m]! := ⟨_,rfl⟩
              obtain ⟨y24,hy24⟩:∃ x,x=d[h]! := ⟨_,rfl⟩
              have l24a:=S1.out.ld R (by omega) Try.prog (m) (by omega)
              have l24b:=S1.out.ld R (by omega) Try.prog (h) (by omega)
              rw [← hx24] at l24a
              rw [← hy24] at l24b
              have hc24:=S1.out.cmp HC.out (by omega) x24 y24
              have hv24:cf x24 y24 < 0:=by rw [hx24,hy24]; exact of_decide_eq_true hL
              have hd24:decide (cf x24 y24 < 0)=true:=decide_eq_true hv24
              clear hx24 hy24
              go_wp2_with fail
              go_quiet_grown (first | (go_at_fn g; refine Calls.grown_of (hc24 _ _)))
              have S2:Aside (SWK enc k w0 blk off d (grow (wr.drewN nq) osq)):=S1.out.grown nq osq
              clear l24a l24b hc24 S1
              generalize grow (wr.drewN nq) osq=w2 at S2 ⊢
              clear nq osq
              go_wp2
              go_roundg (h - i)
              case measure=>omega
              case rel =>
                refine ⟨i,h,f,rfl,rfl,by omega,by omega,by omega,by omega,by omega,S2,?_⟩
                show _=_
                rw [← HE.out]
                conv=>rhs; unfold bsR
                rw [if_pos hlt]
                simp only [HH.out]
                rw [if_neg (by simp [hL])]
            | false => as_aux_lemma =>
              have ea25:((m:Int)).toNat=m:=by omega
              have pa25:(0:Int)≤(m:Int):=by omega
              have ba25:(m:Int) < (N:Int):=by omega
              have ra25:IntKind.i64.wrap ((m:Int))=(m:Int):=by rw [IntKind.wrap_i64]; omega
              have ec25:((h:Int)).toNat=h:=by omega
              have pc25:(0:Int)≤(h:Int):=by omega
              have bc25:(h:Int) < (N:Int):=by omega
              have rc25:IntKind.i64.wrap ((h:Int))=(h:Int):=by rw [IntKind.wrap_i64]; omega
              obtain ⟨x25,hx25⟩:∃ x,x=d[m]! := ⟨_,rfl⟩
              obtain ⟨y25,hy25⟩:∃ x,x=d[h]! := ⟨_,rfl⟩
              have l25a:=S1.out.ld R (by omega) Try.prog (m) (by omega)
              have l25b:=S1.out.ld R (by omega) Try.prog (h) (by omega)
              rw [← hx25] at l25a
              rw [← hy25] at l25b
              have hc25:=S1.out.cmp HC.out (by omega) x25 y25
              have hv25:¬ cf x25 y25 < 0:=by rw [hx25,hy25]; exact of_decide_eq_false hL
              have hd25:decide (cf x25 y25 < 0)=false:=decide_eq_false hv25
              clear hx25 hy25
              go_wp2_with fail
              go_quiet_grown (first | (go_at_fn g; refine Calls.grown_of (hc25 _ _)))
              have S2:Aside (SWK enc k w0 blk off d (grow (wr.drewN nq) osq)):=S1.out.grown nq osq
              clear l25a l25b hc25 S1
              generalize grow (wr.drewN nq) osq=w2 at S2 ⊢
              clear nq osq
              go_wp2
              go_roundg (j - (h+1))
              case measure=>omega
              case rel =>
                refine ⟨h+1,j,f,by first | rfl | go_num | (congr 1; omega),rfl,by omega,by omega,by omega,by omega,by omega,S2,?_⟩
                show _=_
                rw [← HE.out]
                conv=>rhs; unfold bsR
                rw [if_pos hlt]
                simp only [HH.out]
                rw [if_pos (by simp [hL])]
          · as_aux_lemma =>
            have hltz:¬ (i:Int) < (j:Int):=by omega
            have E1:Hid (bsR (fun h => !(ltOf cf d[m]! d[h]!)) (b - a) a m=i):=by
              show _=_
              rw [← HE.out]
              cases f0 with
              | zero=>rfl
              | succ f=>unfold bsR; rw [if_neg hlt]
            clear HE
            go_wp2
            go_loopg [17] (b - a) (fun kx sq wr=>∃ (q n:Nat) (dk:Array α),sq = .int .i64 q∧q≤m∧q≤i+n∧i+n≤q∧n≤kx∧dk.size=N∧Aside (SWK enc k w0 blk off dk wr)∧Hid (dnR n q dk=dnR (m - i) m d))
            case atStart=>exact ⟨m,m - i,d,rfl,by omega,by omega,by omega,by omega,hds,S1,rfl⟩
            case round =>
              clear S1
              obtain ⟨q,n,dk,rfl,hq,hn1,hn2,hkx2,hdk,S3,HE2⟩:=hrel
              by_cases hq2:i < q
              · have hqz : (i : Int) < (q : Int) := by omega
                obtain ⟨n,rfl⟩:∃ n',n=n'+1:=⟨n - 1,by omega⟩
                have ea61:((q:Int)).toNat=q:=by omega
                have pa61:(0:Int)≤(q:Int):=by omega
                have ba61:(q:Int) < (N:Int):=by omega
                have ra61:IntKind.i64.wrap ((q:Int))=(q:Int):=by rw [IntKind.wrap_i64]; omega
                have ec61:((q:Int) - 1).toNat=q - 1:=by omega
                have pc61:(0:Int)≤(q:Int) - 1:=by omega
                have bc61:(q:Int) - 1 < (N:Int):=by omega
                have rc61:IntKind.i64.wrap ((q:Int) - 1)=(q:Int) - 1:=by rw [IntKind.wrap_i64]; omega
                have S4:Aside (SWK enc k w0 blk off (swp dk (q) (q - 1)) ((wr.drew.setCells blk (off+(q) * k) (enc dk[q - 1]!)).setCells blk (off+(q - 1) * k) (enc dk[q]!))):=S3.out.swapped R (q) (q - 1) (by omega) (by omega)
                have l61a:=S3.out.ld1 R (by omega) Try.prog (q) (by omega)
                have l61b:=S3.out.ld1 R (by omega) Try.prog (q - 1) (by omega)
                have s61a:=S3.out.st1 R (by omega) Try.prog (q) (by omega) dk[q - 1]!
                have s61b:=S3.out.st2 R (by omega) Try.prog (q) (q - 1) (by omega) (by omega) dk[q - 1]! dk[q]!
                have n61a:(enc dk[q]!).length=k:=R.hk _
                have n61b:(enc dk[q - 1]!).length=k:=R.hk _
                generalize enc dk[q]! = cI61 at S4 l61a s61b n61a
                generalize enc dk[q - 1]! = cJ61 at S4 l61b s61a s61b n61b
                clear S3
                go_wp2_with fail
                go_big_region_o
                clear l61a l61b s61a s61b
                generalize (wr.drew.setCells blk (off+(q) * k) cJ61).setCells blk (off+(q - 1) * k) cI61=w2 at S4 ⊢
                go_wp2
                go_roundg n
                case measure=>omega
                case rel =>
                  refine ⟨q - 1,n,swp dk q (q - 1),by first | rfl | go_num | (congr 1; omega),by omega,by omega,by omega,Nat.le_refl _,by rw [size_swp]; exact hdk,S4,?_⟩
                  show _=_
                  rw [← HE2.out]
                  rfl
              · have hqz : ¬ (i : Int) < (q : Int) := by omega
                obtain rfl:n=0:=by omega
                go_wp2
                (try simp only [Exit.inBlock,Exit.then]); refine bodyPost_ret (results_none rfl _ _ _) rfl ?_
                refine ⟨rfl,?_⟩
                have e:symG (ltOf cf) (fu+1) a m b d=dk:=by
                  unfold symG
                  rw [if_neg HA.out,if_pos HB.out,E1.out,← HE2.out]
                  rfl
                rw [e]
                exact S3
      · have e1 : ((b : Int) - (m : Int) == 1) = false := beq_eq_false_iff_ne.2 (by omega)
        have hB1:m+1 < b:=by omega
        have HB:Hid (¬ b=m+1):=hB
        clear hB
        have IH:Aside _:=ih
        clear ih
        obtain ⟨mid,hmid0⟩:∃ h,h=(a+b) / 2:=⟨_,rfl⟩
        have hm1:a+1≤mid:=by omega
        have hm2:mid < b:=by omega
        have hm3:2 * mid≤a+b:=by omega
        have hm4:a+b≤2 * mid+1:=by omega
        have hmidz:((a:Int)+(b:Int)) / 2=(mid:Int):=by omega
        have HM:Hid ((a+b) / 2=mid):=hmid0.symm
        clear hmid0
        obtain ⟨nn,hnn⟩:∃ p,p=mid+m:=⟨_,rfl⟩
        have hn1:nn≤mid+m:=by omega
        have hn2:mid+m≤nn:=by omega
        have HN:Hid (mid+m=nn):=hnn.symm
        clear hnn
        obtain ⟨s0,hs0⟩:∃ s,s=symS0 m b mid a:=⟨_,rfl⟩
        obtain ⟨r0,hr0⟩:∃ s,s=symR0 m mid:=⟨_,rfl⟩
        have hP:mid < m→s0+b≤nn∧nn≤s0+b∧r0≤mid∧mid≤r0:=fun h=>by
          unfold symS0 at hs0
          unfold symR0 at hr0
          rw [if_pos h] at hs0 hr0
          omega
        have hQ:¬ mid < m→s0≤a∧a≤s0∧r0≤m∧m≤r0:=fun h=>by
          unfold symS0 at hs0
          unfold symR0 at hr0
          rw [if_neg h] at hs0 hr0
          omega
        have hs1:a≤s0∧s0≤r0∧r0≤mid∧r0≤m∧nn≤s0+b:=by
          by_cases h:mid < m
          · have:=hP h; omega
          · have:=hQ h; omega
        obtain ⟨hs1,hs2,hs3,hs4,hs5⟩:=hs1
        have HS:Hid (symS0 m b mid a=s0):=hs0.symm
        have HR:Hid (symR0 m mid=r0):=hr0.symm
        have HPQ:Aside ((mid < m→s0+b≤nn∧nn≤s0+b∧r0≤mid∧mid≤r0)∧(¬ mid < m→s0≤a∧a≤s0∧r0≤m∧m≤r0)):=⟨hP,hQ⟩
        clear hs0 hr0 hP hQ
        go_enter Try.func61,Try.ntmps61
        go_upto_if 140 with fail
        go_cut [18,19,20,21] from 25 (fun s18 s19 s20 s21 wc=>s18 = .int .i64 mid∧s19 = .int .i64 nn∧s20 = .int .i64 s0∧s21 = .int .i64 r0∧Aside (SWK enc k w0 blk off d wc))
        case first=>as_aux_lemma =>
          by_cases hmm:mid < m
          · have hmz : (mid : Int) < (m : Int) := by omega
            obtain ⟨q1,q2,q3,q4⟩:=HPQ.out.1 hmm
            go_wp2_with fail
            go_meet
            case rel=>exact ⟨rfl,by congr 1; omega,by congr 1; omega,by congr 1; omega,S0⟩
          · have hmz : ¬ (mid : Int) < (m : Int) := by omega
            obtain ⟨q1,q2,q3,q4⟩:=HPQ.out.2 hmm
            go_wp2_with fail
            go_meet
            case rel=>exact ⟨rfl,by congr 1; omega,by congr 1; omega,by congr 1; omega,S0⟩
        case rest => as_aux_lemma =>
          obtain ⟨rfl,rfl,rfl,rfl,S3⟩:=hcut
          clear S0
          go_wp2
          go_loopg [20,21] (b - a) (fun kx si sj wr=>∃ (i j f:Nat),si = .int .i64 i∧sj = .int .i64 j∧s0≤i∧i≤j∧j≤r0∧j - i≤f∧j - i≤kx∧Aside (SWK enc k w0 blk off d wr)∧Hid (bsR (fun c => !(ltOf cf d[nn - 1 - c]! d[c]!)) f i j=bsR (fun c => !(ltOf cf d[nn - 1 - c]! d[c]!)) (b - a) s0 r0))
          case atStart=>exact ⟨s0,r0,b - a,rfl,rfl,by omega,by omega,by omega,by omega,by omega,S3,rfl⟩
          case round =>
            clear S3
            obtain ⟨i,j,f0,rfl,rfl,hi,hij,hj,hf,hkx,S1,HE⟩:=hrel
            by_cases hlt:i < j
            · have hltz : (i : Int) < (j : Int) := by omega
              obtain ⟨f,rfl⟩:∃ f,f0=f+1:=⟨f0 - 1,by omega⟩
              obtain ⟨h,hh⟩:∃ h,h=(i+j) / 2:=⟨_,rfl⟩
              have hh1:i≤h:=by omega
              have hh2:h < j:=by omega
              have hmid:((i:Int)+(j:Int)) / 2=(h:Int):=by omega
              have HH:Hid ((i+j) / 2=h):=hh.symm
              clear hh
              obtain ⟨y,hy0⟩:∃ y,y=nn - 1 - h:=⟨_,rfl⟩
              have hy1:y+h+1≤nn:=by omega
              have hy2:nn≤y+h+1:=by omega
              have hyz:(nn:Int) - 1 - (h:Int)=(y:Int):=by omega
              have HY:Hid (nn - 1 - h=y):=hy0.symm
              clear hy0
              cases hL:ltOf cf d[y]! d[h]! with
              | true => as_aux_lemma =>
                have ea28:((y:Int)).toNat=y:=by omega
                have pa28:(0:Int)≤(y:Int):=by omega
                have ba28:(y:Int) < (N:Int):=by omega
                have ra28:IntKind.i64.wrap ((y:Int))=(y:Int):=by rw [IntKind.wrap_i64]; omega
                have ec28:((h:Int)).toNat=h:=by omega
                have pc28:(0:Int)≤(h:Int):=by omega
                have bc28:(h:Int) < (N:Int):=by omega
                have rc28:IntKind.i64.wrap ((h:Int))=(h:Int):=by rw [IntKind.wrap_i64]; omega
                obtain ⟨x28,hx28⟩:∃ x,x=d[y]! := ⟨_,rfl⟩
                obtain ⟨y28,hy28⟩:∃ x,x=d[h]! := ⟨_,rfl⟩
                have l28a:=S1.out.ld R (by omega) Try.prog (y) (by omega)
                have l28b:=S1.out.ld R (by omega) Try.prog (h) (by omega)
                rw [← hx28] at l28a
                rw [← hy28] at l28b
                have hc28:=S1.out.cmp HC.out (by omega) x28 y28
                have hv28:cf x28 y28 < 0:=by rw [hx28,hy28]; exact of_decide_eq_true hL
                have hd28:decide (cf x28 y28 < 0)=true:=decide_eq_true hv28
                clear hx28 hy28
                go_wp2_with fail
                go_quiet_grown (first | (go_at_fn g; refine Calls.grown_of (hc28 _ _)))
                have S2:Aside (SWK enc k w0 blk off d (grow (wr.drewN nq) osq)):=S1.out.grown nq osq
                clear l28a l28b hc28 S1
                generalize grow (wr.drewN nq) osq=w2 at S2 ⊢
                clear nq osq
                go_wp2
                go_roundg (h - i)
                case measure=>omega
                case rel =>
                  refine ⟨i,h,f,rfl,rfl,by omega,by omega,by omega,by omega,by omega,S2,?_⟩
                  show _=_
                  rw [← HE.out]
                  conv=>rhs; unfold bsR
                  rw [if_pos hlt]
                  simp only [HH.out]
                  rw [if_neg (by simp [HY.out,hL])]
              | false => as_aux_lemma =>
                have ea29:((y:Int)).toNat=y:=by omega
                have pa29:(0:Int)≤(y:Int):=by omega
                have ba29:(y:Int) < (N:Int):=by omega
                have ra29:IntKind.i64.wrap ((y:Int))=(y:Int):=by rw [IntKind.wrap_i64]; omega
                have ec29:((h:Int)).toNat=h:=by omega
                have pc29:(0:Int)≤(h:Int):=by omega
                have bc29:(h:Int) < (N:Int):=by omega
                have rc29:IntKind.i64.wrap ((h:Int))=(h:Int):=by rw [IntKind.wrap_i64]; omega
                obtain ⟨x29,hx29⟩:∃ x,x=d[y]! := ⟨_,rfl⟩
                obtain ⟨y29,hy29⟩:∃ x,x=d[h]! := ⟨_,rfl⟩
                have l29a:=S1.out.ld R (by omega) Try.prog (y) (by omega)
                have l29b:=S1.out.ld R (by omega) Try.prog (h) (by omega)
                rw [← hx29] at l29a
                rw [← hy29] at l29b
                have hc29:=S1.out.cmp HC.out (by omega) x29 y29
                have hv29:¬ cf x29 y29 < 0:=by rw [hx29,hy29]; exact of_decide_eq_false hL
                have hd29:decide (cf x29 y29 < 0)=false:=decide_eq_false hv29
                clear hx29 hy29
                go_wp2_with fail
                go_quiet_grown (first | (go_at_fn g; refine Calls.grown_of (hc29 _ _)))
                have S2:Aside (SWK enc k w0 blk off d (grow (wr.drewN nq) osq)):=S1.out.grown nq osq
                clear l29a l29b hc29 S1
                generalize grow (wr.drewN nq) osq=w2 at S2 ⊢
                clear nq osq
                go_wp2
                go_roundg (j - (h+1))
                case measure=>omega
                case rel =>
                  refine ⟨h+1,j,f,by first | rfl | go_num | (congr 1; omega),rfl,by omega,by omega,by omega,by omega,by omega,S2,?_⟩
                  show _=_
                  rw [← HE.out]
                  conv=>rhs; unfold bsR
                  rw [if_pos hlt]
                  simp only [HH.out]
                  rw [if_pos (by simp [HY.out,hL])]
            · as_aux_lemma =>
              have hltz:¬ (i:Int) < (j:Int):=by omega
              have E1:Hid (bsR (fun c => !(ltOf cf d[nn - 1 - c]! d[c]!)) (b - a) s0 r0=i):=by
                show _=_
                rw [← HE.out]
                cases f0 with
                | zero=>rfl
                | succ f=>unfold bsR; rw [if_neg hlt]
              clear HE
              obtain ⟨en,hen⟩:∃ e,e=nn - i:=⟨_,rfl⟩
              have hen1:en+i≤nn:=by omega
              have hen2:nn≤en+i:=by omega
              have HEN:Hid (nn - i=en):=hen.symm
              clear hen
              have hij2:j≤i:=by omega
              go_upto_region 39 with fail
              go_cut [24,185] from 25 (fun s24 s185 wc=>∃ bb:Bool,s24 = .int .i64 en∧s185 = .bool bb∧Aside (bb=true↔i < m∧m < en)∧Aside (SWK enc k w0 blk off d wc))
              case first=>as_aux_lemma =>
                by_cases g1:i < m
                · have g1z : (i : Int) < (m : Int) := by omega
                  have g1d:decide ((i:Int) < (m:Int))=true:=decide_eq_true g1z
                  by_cases g2:m < en
                  · have g2z : (m : Int) < (nn : Int) - (i : Int) := by omega
                    have g2d:decide ((m:Int) < (nn:Int) - (i:Int))=true:=decide_eq_true g2z
                    go_wp2_with fail
                    go_meet
                    case rel=>exact ⟨true,by congr 1; omega,rfl,⟨fun _=>⟨g1,g2⟩,fun _=>rfl⟩,S1⟩
                  · have g2z : ¬ (m : Int) < (nn : Int) - (i : Int) := by omega
                    have g2d:decide ((m:Int) < (nn:Int) - (i:Int))=false:=decide_eq_false g2z
                    go_wp2_with fail
                    go_meet
                    case rel=>exact ⟨false,by congr 1; omega,rfl,⟨fun h=>(by cases h),fun h=>absurd h.2 g2⟩,S1⟩
                · have g1z : ¬ (i : Int) < (m : Int) := by omega
                  have g1d:decide ((i:Int) < (m:Int))=false:=decide_eq_false g1z
                  go_wp2_with fail
                  go_meet
                  case rel=>exact ⟨false,by congr 1; omega,rfl,⟨fun h=>(by cases h),fun h=>absurd h.1 g1⟩,S1⟩
              case rest => as_aux_lemma =>
                obtain ⟨bb,rfl,rfl,hbb,S4⟩:=hcut
                clear S1
                obtain ⟨d1,hd1⟩:∃ x,x=(if i < m∧m < en then rotA d i m en else d):=⟨_,rfl⟩
                have hd1s:d1.size=N:=by
                  rw [hd1]
                  split
                  · exact (rotG_size _ _ _ _ _).trans hds
                  · exact hds
                have HD1:Hid ((if i < m∧m < en then rotA d i m en else d)=d1):=hd1.symm
                clear hd1
                go_upto_if 185 with fail
                go_cut [24] from 25 (fun s24 wc=>s24 = .int .i64 en∧Aside (SWK enc k w0 blk off d1 wc))
                case first=>as_aux_lemma =>
                  cases bb
                  · have hno : ¬ (i < m ∧ m < en) := fun h => by have := hbb.out.2 h; cases this
                    clear hbb
                    go_wp2_with fail
                    go_meet
                    case rel =>
                      refine ⟨rfl,?_⟩
                      rw [← HD1.out,if_neg hno]
                      exact S4
                  · obtain ⟨g1, g2⟩ := hbb.out.1 rfl
                    clear hbb
                    have hc:Calls Try.prog 82 #[.slice (some ⟨blk,off,none⟩) N cap,.int .i64 i,.int .i64 m,.int .i64 en,.func (.func g) #[] cb] wc fun e w'=>e = .returned (.tuple #[])∧Aside (SWK enc k w0 blk off d1 w'):=by
                      have:=rotate_any k aE zE enc g cb blk off cap i m en d0 d w0 wc R (by omega) S4.out g1 g2 (by omega) (by omega)
                      rw [hds] at this
                      rw [← HD1.out,if_pos ⟨g1,g2⟩]
                      exact this
                    go_wp2_with (go_at_call 82; refine hc.mono ?_; rintro e w' ⟨rfl,S5⟩)
                    go_meet
                    case rel=>exact ⟨rfl,S5⟩
                case rest => as_aux_lemma =>
                  obtain ⟨rfl,S6⟩:=hcut
                  clear S4 hbb
                  go_upto_region 41 with fail
                  go_cut [24,199] from 25 (fun s24 s199 wc=>∃ bb:Bool,s24 = .int .i64 en∧s199 = .bool bb∧Aside (bb=true↔a < i∧i < mid)∧Aside (SWK enc k w0 blk off d1 wc))
                  case first=>as_aux_lemma =>
                    by_cases g1:a < i
                    · have g1z : (a : Int) < (i : Int) := by omega
                      have g1d:decide ((a:Int) < (i:Int))=true:=decide_eq_true g1z
                      by_cases g2:i < mid
                      · have g2z : (i : Int) < (mid : Int) := by omega
                        have g2d:decide ((i:Int) < (mid:Int))=true:=decide_eq_true g2z
                        go_wp2_with fail
                        go_meet
                        case rel=>exact ⟨true,rfl,rfl,⟨fun _=>⟨g1,g2⟩,fun _=>rfl⟩,S6⟩
                      · have g2z : ¬ (i : Int) < (mid : Int) := by omega
                        have g2d:decide ((i:Int) < (mid:Int))=false:=decide_eq_false g2z
                        go_wp2_with fail
                        go_meet
                        case rel=>exact ⟨false,rfl,rfl,⟨fun h=>(by cases h),fun h=>absurd h.2 g2⟩,S6⟩
                    · have g1z : ¬ (a : Int) < (i : Int) := by omega
                      have g1d:decide ((a:Int) < (i:Int))=false:=decide_eq_false g1z
                      go_wp2_with fail
                      go_meet
                      case rel=>exact ⟨false,rfl,rfl,⟨fun h=>(by cases h),fun h=>absurd h.1 g1⟩,S6⟩
                  case rest => as_aux_lemma =>
                    obtain ⟨bb,rfl,rfl,hbb,S7⟩:=hcut
                    clear S6
                    obtain ⟨d2,hd2⟩:∃ x,x=(if a < i∧i < mid then symG (ltOf cf) fu a i mid d1 else d1):=⟨_,rfl⟩
                    have hd2s:d2.size=N:=by
                      rw [hd2]
                      split
                      · exact (symG_size _ _ _ _ _ _).trans hd1s
                      · exact hd1s
                    have HD2:Hid ((if a < i∧i < mid then symG (ltOf cf) fu a i mid d1 else d1)=d2):=hd2.symm
                    clear hd2
                    go_upto_if 199 with fail
                    go_cut [24] from 25 (fun s24 wc=>s24 = .int .i64 en∧Aside (SWK enc k w0 blk off d2 wc))
                    case first=>as_aux_lemma =>
                      cases bb
                      · have hno : ¬ (a < i ∧ i < mid) := fun h => by have := hbb.out.2 h; cases this
                        clear hbb
                        go_wp2_with fail
                        go_meet
                        case rel =>
                          refine ⟨rfl,?_⟩
                          rw [← HD2.out,if_neg hno]
                          exact S7
                      · obtain ⟨g1, g2⟩ := hbb.out.1 rfl
                        clear hbb
                        have hc:Calls Try.prog 61 #[.slice (some ⟨blk,off,none⟩) N cap,.int .i64 a,.int .i64 i,.int .i64 mid,.func (.func g) #[] cb] wc fun e w'=>e = .returned (.tuple #[])∧Aside (SWK enc k w0 blk off d2 w'):=by
                          have:=IH.out a i mid d1 wc (by omega) hd1s S7.out g1 g2 (by omega)
                          rw [← HD2.out,if_pos ⟨g1,g2⟩]
                          exact this
                        go_wp2_with (go_at_call 61; refine hc.mono ?_; rintro e w' ⟨rfl,S5⟩)
                        go_meet
                        case rel=>exact ⟨rfl,S5⟩
                    case rest=>as_aux_lemma =>
                      obtain ⟨rfl,S8⟩:=hcut
                      clear S7 hbb
                      have hst:Hid (symSt (ltOf cf) a m b d=i):=by
                        show _=_
                        unfold symSt
                        rw [HM.out,HN.out,HS.out,HR.out]
                        exact E1.out
                      have hG:Hid (symG (ltOf cf) (fu+1) a m b d=(if mid < en∧en < b then symG (ltOf cf) fu mid en b d2 else d2)):=by
                        show _=_
                        conv=>lhs; unfold symG
                        rw [if_neg HA.out,if_neg HB.out]
                        simp only [HM.out,hst.out,HN.out,HEN.out,HD1.out,HD2.out]
                      by_cases g1:mid < en
                      · have g1z : (mid : Int) < (en : Int) := by omega
                        have g1d:decide ((mid:Int) < (en:Int))=true:=decide_eq_true g1z
                        by_cases g2:en < b
                        · have g2z : (en : Int) < (b : Int) := by omega
                          have g2d:decide ((en:Int) < (b:Int))=true:=decide_eq_true g2z
                          have hc:Calls Try.prog 61 #[.slice (some ⟨blk,off,none⟩) N cap,.int .i64 mid,.int .i64 en,.int .i64 b,.func (.func g) #[] cb] wc fun e w'=>e = .returned (.tuple #[])∧Aside (SWK enc k w0 blk off (symG (ltOf cf) (fu+1) a m b d) w'):=by
                            have:=IH.out mid en b d2 wc (by omega) hd2s S8.out g1 g2 (by omega)
                            rw [hG.out,if_pos ⟨g1,g2⟩]
                            exact this
                          go_wp2_with (go_at_call 61; refine hc.mono ?_; rintro e w' ⟨rfl,S5⟩)
                          go_end0
                          exact ⟨rfl,S5⟩
                        · have g2z : ¬ (en : Int) < (b : Int) := by omega
                          have g2d:decide ((en:Int) < (b:Int))=false:=decide_eq_false g2z
                          go_wp2_with fail
                          go_end0
                          refine ⟨rfl,?_⟩
                          rw [hG.out,if_neg (fun h=>g2 h.2)]
                          exact S8
                      · have g1z : ¬ (mid : Int) < (en : Int) := by omega
                        have g1d:decide ((mid:Int) < (en:Int))=false:=decide_eq_false g1z
                        go_wp2_with fail
                        go_end0
                        refine ⟨rfl,?_⟩
                        rw [hG.out,if_neg (fun h=>g1 h.1)]
                        exact S8
end
end Go.Proofs.Ytkeplmpcijigaaa
