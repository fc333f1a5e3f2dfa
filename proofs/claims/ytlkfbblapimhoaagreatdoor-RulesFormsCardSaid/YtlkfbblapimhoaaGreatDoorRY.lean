import Derived.Test.YtlkfbblapimhoaaGreatDoorTS
import Derived.Test.YtlkfbblapimhoaaGreatDoorTZ
namespace Go.Proofs.YtlkfbblapimhoaaGreatDoor
set_option linter.all false
set_option maxRecDepth 100000
noncomputable def inRd (r:Rdr):Bool:=inb r.ra r.rt.length&&nle r.rt.length 90000
noncomputable def okRd (r:Rdr):Bool:=okT r.rt&&inb r.ra r.rt.length
noncomputable def takeD (r:Rdr) (kd:Int):List UInt8×Rdr:=bif r.rb || !((tokAt r.rt r.ra).kk == kd) then ([],⟨r.rt,r.ra,true⟩) else ((tokAt r.rt r.ra).kt,⟨r.rt,bif kd == 5 then r.ra else r.ra+1,r.rb⟩)
noncomputable def rwordD (r:Rdr) (kd:Int) (x:List UInt8):Rdr:=bif r.rb || !(nextB r.rt r.ra kd x) then ⟨r.rt,r.ra,true⟩ else ⟨r.rt,r.ra+1,r.rb⟩
noncomputable def okD (s:List UInt8):Bool:=List.all s (fun b=>digitB (byI b))&&(ile (Int.ofNat s.length) 15 && !(ilt 1 (Int.ofNat s.length)&&byI (List.getD s 0 0) == 48))
noncomputable def valN:Nat→List UInt8→Nat
 | acc,[]=>acc
 | acc,b :: s=>valN (10 * acc+(b.toNat - 48)) s
noncomputable def minD (r:Rdr):Bool:=!r.rb&&nextB r.rt r.ra 3 [45]
noncomputable def numQD (r:Rdr):Rdr:=⟨r.rt,bif minD r then r.ra+1 else r.ra,r.rb⟩
noncomputable def numD (r:Rdr):Int×Rdr :=
 bif (takeD (numQD r) 2).2.rb then (0,(takeD (numQD r) 2).2) else bif (takeD (numQD r) 2).1 == []||okD (takeD (numQD r) 2).1 then (bif minD r then 0 - Int.ofNat (valN 0 (takeD (numQD r) 2).1) else Int.ofNat (valN 0 (takeD (numQD r) 2).1),(takeD (numQD r) 2).2) else (0,⟨r.rt,(numQD r).ra,true⟩)
noncomputable def sgnD (r:Rdr):Bool×Rdr:=bif !r.rb&&nextB r.rt r.ra 3 [60] then (true,⟨r.rt,r.ra+1,r.rb⟩) else (false,rwordD r 3 [62,61])
noncomputable def cndD (r:Rdr):Cnd×Rdr:=(⟨(takeD r 1).1,(sgnD (takeD r 1).2).1,(numD (sgnD (takeD r 1).2).2).1⟩,(numD (sgnD (takeD r 1).2).2).2)
noncomputable def upD (r:Rdr):Rdr:=⟨r.rt,r.ra+1,r.rb⟩
noncomputable def cndsD:Nat→Rdr→List Cnd→List Cnd×Rdr
 | 0,r,acc=>(acc,r)
 | n+1,r,acc=>bif !r.rb&&nextB r.rt r.ra 1 [97,110,100] then cndsD n (cndD (upD r)).2 (acc++[(cndD (upD r)).1]) else (acc,r)
noncomputable def whenD (r:Rdr):List Cnd×Rdr:=bif !r.rb&&nextB r.rt r.ra 1 [119,104,101,110] then cndsD (r.rt.length+1) (cndD (upD r)).2 [(cndD (upD r)).1] else ([],r)
noncomputable def tailD (w:List Cnd×Rdr) (nm:List UInt8):Rule×Rdr :=
 let k:=takeD (rwordD w.2 1 [115,101,116]) 1
 let n:=numD (rwordD k.2 1 [116,111])
 (⟨nm,w.1,k.1,n.1⟩,(takeD n.2 4).2)
noncomputable def headD (r:Rdr):List UInt8×Rdr:=takeD (rwordD r 1 [114,117,108,101]) 1
noncomputable def rulD (r:Rdr):Rule×Rdr:=tailD (whenD (headD r).2) (headD r).1
theorem takeD_bad {r:Rdr} (h:r.rb=true) (kd:Int):takeD r kd=([],r):=by
 obtain ⟨a,b,c⟩:=r
 cases h
 rfl
theorem rwordD_bad {r:Rdr} (h:r.rb=true) (kd:Int) (x:List UInt8):rwordD r kd x=r:=by
 obtain ⟨a,b,c⟩:=r
 cases h
 rfl
theorem numQD_bad {r:Rdr} (h:r.rb=true):numQD r=r:=by
 obtain ⟨a,b,c⟩:=r
 cases h
 rfl
theorem numD_bad {r:Rdr} (h:r.rb=true):(numD r).2=r:=by
 unfold numD
 rw [numQD_bad h,takeD_bad h]
 simp only
 rw [h]
 rfl
theorem sgnD_bad {r:Rdr} (h:r.rb=true):(sgnD r).2=r:=by
 unfold sgnD
 rw [h]
 exact rwordD_bad h _ _
theorem whenD_bad {r:Rdr} (h:r.rb=true):(whenD r).2=r:=by
 unfold whenD
 rw [h]
 rfl
theorem tailD_bad {w:List Cnd×Rdr} {nm:List UInt8} (h:w.2.rb=true):(tailD w nm).2=w.2:=by
 unfold tailD
 simp only [rwordD_bad h,takeD_bad h,numD_bad h]
theorem decDigits_step {n:Nat} (h:10≤n):Lib.decDigits n=Lib.decDigits (n / 10)++[UInt8.ofNat (48+n%10)]:=by
 rw [Lib.decDigits.eq_1 n,dif_neg (by omega)]
theorem decDigits_one {n:Nat} (h:n < 10):Lib.decDigits n=[UInt8.ofNat (48+n)]:=by
 rw [Lib.decDigits.eq_1 n,dif_pos h]
theorem valN_snoc (b:UInt8):∀ (s:List UInt8) (acc:Nat),valN acc (s++[b])=10 * valN acc s+(b.toNat - 48):=by
 intro s
 induction s with
 | nil=>intro acc; rfl
 | cons a s ih=>intro acc; show valN _ (s++[b])=10 * valN _ s+_; exact ih _
theorem digitB_nat {b:UInt8} (h:digitB (byI b)=true):48≤b.toNat∧b.toNat≤57:=by
 unfold digitB at h
 rw [Bool.and_eq_true] at h
 have h1:=ileI h.1
 have h2:=ileI h.2
 unfold byI at h1 h2
 simp only [Int.ofNat_eq_natCast] at h1 h2
 omega
theorem ofNat_back {b:UInt8} (h:48≤b.toNat):UInt8.ofNat (48+(b.toNat - 48))=b:=by
 rw [show 48+(b.toNat - 48)=b.toNat by omega]
 exact UInt8.ofNat_toNat
theorem digits_back:∀ (n:Nat) (s:List UInt8),s.length=n+1→(∀ b∈s,digitB (byI b)=true)→(1 < s.length→(List.getD s 0 0).toNat≠48)→Lib.decDigits (valN 0 s)=s∧((List.getD s 0 0).toNat≠48→0 < valN 0 s):=by
  intro n
  induction n with
  | zero =>
    intro s hl hd _
    obtain ⟨b,rfl⟩:∃ b,s=[b]:=by
      match s,hl with
      | [b],_=>exact ⟨b,rfl⟩
    obtain ⟨h1,h2⟩:=digitB_nat (hd b (by simp))
    have hv:valN 0 [b]=b.toNat - 48:=by
      show 10 * 0+(b.toNat - 48)=_
      omega
    rw [hv]
    refine ⟨?_,fun h=>?_⟩
    · rw [decDigits_one (by omega),ofNat_back h1]
    · have : (List.getD [b] 0 0).toNat = b.toNat := rfl
      omega
  | succ n ih =>
    intro s hl hd hz
    obtain ⟨t,b,rfl⟩:∃ t b,s=t++[b]:=⟨s.dropLast,s.getLast (by intro h; rw [h] at hl; simp at hl),(List.dropLast_concat_getLast _).symm⟩
    have htl:t.length=n+1:=by simp at hl; omega
    have hg:List.getD (t++[b]) 0 0=List.getD t 0 0:=by
      cases t with
      | nil=>simp at htl
      | cons a t=>rfl
    have hz':=hz (by simp; omega)
    rw [hg] at hz' ⊢
    obtain ⟨h1,h2⟩:=digitB_nat (hd b (by simp))
    obtain ⟨i1,i2⟩:=ih t htl (fun b hb=>hd b (by simp [hb])) (fun _=>hz')
    have hp:=i2 hz'
    rw [valN_snoc]
    refine ⟨?_,fun _=>by omega⟩
    rw [decDigits_step (by omega),show (10 * valN 0 t+(b.toNat - 48)) / 10=valN 0 t by omega,show (10 * valN 0 t+(b.toNat - 48))%10=b.toNat - 48 by omega,i1,ofNat_back h1]
theorem digits_noz:∀ (n m:Nat),m≤n→10≤m→(List.getD (Lib.decDigits m) 0 0).toNat≠48:=by
  intro n
  induction n with
  | zero=>intro m h1 h2; omega
  | succ n ih =>
    intro m h1 h2
    rw [decDigits_step h2]
    have hne:=digits_ne (m / 10)
    have hg:List.getD (Lib.decDigits (m / 10)++[UInt8.ofNat (48+m%10)]) 0 0=List.getD (Lib.decDigits (m / 10)) 0 0:=by
      cases h:Lib.decDigits (m / 10) with
      | nil=>exact absurd h hne
      | cons a t=>rfl
    rw [hg]
    by_cases h:10≤m / 10
    · exact ih (m / 10) (by omega) h
    · rw [decDigits_one (by omega)]
      show (UInt8.ofNat (48+m / 10)).toNat≠48
      rw [UInt8.toNat_ofNat_of_lt' (by show 48+m / 10 < 256; omega)]
      omega
theorem num_eq {s : List UInt8} {d : UInt8} {r : List UInt8} (hs : s = d :: r) (hd : digitB (byI d) = true) : numOkS s = okD s ∧ (okD s = true → atoiZ s = Int.ofNat (valN 0 s)) := by
  have key:okD s=true→numOkS s=true∧atoiZ s=Int.ofNat (valN 0 s):=fun h=>by
    unfold okD at h
    simp only [Bool.and_eq_true,Bool.not_eq_true'] at h
    obtain ⟨h1,h2,h3⟩:=h
    have hl:=ileI h2
    have hl':s.length≤15:=by simp only [Int.ofNat_eq_natCast] at hl; omega
    have hall:=List.all_eq_true.1 h1
    have hz:1 < s.length→(List.getD s 0 0).toNat≠48:=fun hlt e=>by
      have:(ilt 1 (Int.ofNat s.length)&&byI (List.getD s 0 0) == 48)=true:=by
        rw [iltT (by simp only [Int.ofNat_eq_natCast]; omega)]
        unfold byI
        rw [e]
        rfl
      rw [this] at h3
      cases h3
    obtain ⟨k,hk⟩:∃ k,s.length=k+1:=⟨r.length,by rw [hs]; rfl⟩
    have hb:=(digits_back k s hk hall hz).1
    have hi:Lib.itoa (Int.ofNat (valN 0 s))=s:=by
      unfold Lib.itoa
      rw [if_neg (by simp only [Int.ofNat_eq_natCast]; omega)]
      exact hb
    have hA:Lib.atoiAll s = .ok (Int.ofNat (valN 0 s)):=by
      rw [Lib.atoiAll_short s (by omega)]
      have:=atoi_itoa (Int.ofNat (valN 0 s))
      rw [hi] at this
      rw [this]
      rfl
    have hZ:atoiZ s=Int.ofNat (valN 0 s):=by unfold atoiZ; rw [hA]
    refine ⟨?_,hZ⟩
    unfold numOkS
    rw [hZ,hi,h2]
    have:atoiB s=true:=by unfold atoiB; rw [hA]
    rw [this]
    simp
  have back:numOkS s=true→okD s=true:=fun h=>by
    unfold numOkS at h
    simp only [Bool.and_eq_true] at h
    obtain ⟨h1,h2,h3⟩:=h
    have h3:=eq_of_beq h3
    have h0:0≤atoiZ s:=by
      by_cases hn:atoiZ s < 0
      · exfalso
        unfold Lib.itoa at h3
        rw [if_pos hn,hs] at h3
        have:=(List.cons.inj h3).1
        rw [← this] at hd
        exact absurd hd (by decide +kernel)
      · omega
    have hdd:Lib.decDigits (atoiZ s).toNat=s:=by
      unfold Lib.itoa at h3
      rw [if_neg (by omega)] at h3
      exact h3
    have hall:List.all s (fun b=>digitB (byI b))=true:=List.all_eq_true.2 (by rw [← hdd]; exact (dig_ok _).2)
    unfold okD
    rw [hall,h2]
    simp only [Bool.true_and,Bool.not_eq_true']
    cases hlt:ilt 1 (Int.ofNat s.length) with
    | false=>rfl
    | true =>
      have hlt:=iltI hlt
      have h10:10≤(atoiZ s).toNat:=by
        by_cases h:10≤(atoiZ s).toNat
        · exact h
        · rw [decDigits_one (by omega)] at hdd
          rw [← hdd] at hlt
          simp at hlt
      have hne:=digits_noz _ _ (Nat.le_refl _) h10
      rw [hdd] at hne
      simp only [Bool.true_and,beq_eq_false_iff_ne]
      intro e
      unfold byI at e
      exact hne (Int.ofNat.inj e)
  refine ⟨?_,fun h=>(key h).2⟩
  rw [Bool.eq_iff_iff]
  exact ⟨back,fun h=>(key h).1⟩
end Go.Proofs.YtlkfbblapimhoaaGreatDoor
namespace Go.Proofs.YtlkfbblapimhoaaGreatDoor
set_option linter.all false
set_option maxRecDepth 100000
def OkR (r:Rdr):Prop:=okT r.rt=true∧At r.rt r.ra
theorem OkR.inr {r:Rdr} (h:OkR r):inRd r=true:=inpT h.2 h.1
theorem OkR.okr {r:Rdr} (h:OkR r):okRd r=true:=oktT h.2 h.1
theorem okRd_I {r:Rdr} (h:okRd r=true):OkR r:=by
 unfold okRd at h
 rw [Bool.and_eq_true] at h
 exact ⟨h.1,inb_At.1 h.2⟩
theorem inRd_I {r:Rdr} (h:inRd r=true):At r.rt r.ra∧r.rt.length≤90000:=inpI h
theorem OkR.up {r:Rdr} {kd:Int} {x:List UInt8} (h:OkR r) (hk:kd≠5) (hn:nextB r.rt r.ra kd x=true):OkR (upD r):=⟨h.1,nextB_more h.1 h.2 hk hn⟩
theorem OkR.take {r:Rdr} {kd:Int} (h:OkR r) (hk:kd≠5):OkR (takeD r kd).2∧(takeD r kd).2.rt=r.rt:=by
  unfold takeD
  cases hc:r.rb || !((tokAt r.rt r.ra).kk == kd) with
  | true=>exact ⟨h,rfl⟩
  | false =>
    simp only [Bool.or_eq_false_iff,Bool.not_eq_false',beq_iff_eq] at hc
    refine ⟨⟨h.1,?_⟩,rfl⟩
    show At r.rt (bif kd == 5 then r.ra else r.ra+1)
    rw [show (kd == 5)=false from beq_eq_false_iff_ne.2 hk]
    exact h.2.more h.1 (by rw [hc.2]; exact hk)
theorem OkR.word {r:Rdr} {kd:Int} {x:List UInt8} (h:OkR r) (hk:kd≠5):OkR (rwordD r kd x)∧(rwordD r kd x).rt=r.rt:=by
  unfold rwordD
  cases hc:r.rb || !(nextB r.rt r.ra kd x) with
  | true=>exact ⟨h,rfl⟩
  | false =>
    simp only [Bool.or_eq_false_iff,Bool.not_eq_false'] at hc
    exact ⟨⟨h.1,nextB_more h.1 h.2 hk hc.2⟩,rfl⟩
theorem OkR.numQ {r:Rdr} (h:OkR r):OkR (numQD r)∧(numQD r).rt=r.rt:=by
  unfold numQD minD
  refine ⟨⟨h.1,?_⟩,rfl⟩
  show At r.rt (bif !r.rb&&nextB r.rt r.ra 3 [45] then r.ra+1 else r.ra)
  cases hc:!r.rb&&nextB r.rt r.ra 3 [45] with
  | false=>exact h.2
  | true =>
    rw [Bool.and_eq_true] at hc
    exact nextB_more h.1 h.2 (by decide) hc.2
theorem OkR.num {r:Rdr} (h:OkR r):OkR (numD r).2∧(numD r).2.rt=r.rt:=by
  have hq:=h.numQ
  have ht:=hq.1.take (kd:=2) (by decide)
  unfold numD
  cases (takeD (numQD r) 2).2.rb with
  | true=>exact ⟨ht.1,ht.2.trans hq.2⟩
  | false =>
    cases (takeD (numQD r) 2).1 == []||okD (takeD (numQD r) 2).1 with
    | true=>exact ⟨ht.1,ht.2.trans hq.2⟩
    | false=>exact ⟨⟨h.1,by have:=hq.1.2; rw [hq.2] at this; exact this⟩,rfl⟩
theorem OkR.sgn {r:Rdr} (h:OkR r):OkR (sgnD r).2∧(sgnD r).2.rt=r.rt:=by
  unfold sgnD
  cases hc:!r.rb&&nextB r.rt r.ra 3 [60] with
  | false=>exact h.word (by decide)
  | true =>
    rw [Bool.and_eq_true] at hc
    exact ⟨⟨h.1,nextB_more h.1 h.2 (by decide) hc.2⟩,rfl⟩
theorem OkR.cnd {r:Rdr} (h:OkR r):OkR (cndD r).2∧(cndD r).2.rt=r.rt:=by
 have h1:=h.take (kd:=1) (by decide)
 have h2:=h1.1.sgn
 have h3:=h2.1.num
 exact ⟨h3.1,h3.2.trans (h2.2.trans h1.2)⟩
theorem OkR.cnds:∀ (n:Nat) {r:Rdr} (acc:List Cnd),OkR r→OkR (cndsD n r acc).2∧(cndsD n r acc).2.rt=r.rt:=by
  intro n
  induction n with
  | zero=>intro r acc h; exact ⟨h,rfl⟩
  | succ n ih =>
    intro r acc h
    unfold cndsD
    cases hc:!r.rb&&nextB r.rt r.ra 1 [97,110,100] with
    | false=>exact ⟨h,rfl⟩
    | true =>
      rw [Bool.and_eq_true] at hc
      have hu:=h.up (kd:=1) (by decide) hc.2
      have h1:=hu.cnd
      have h2:=ih (acc++[(cndD (upD r)).1]) h1.1
      exact ⟨h2.1,h2.2.trans h1.2⟩
theorem OkR.whenR {r:Rdr} (h:OkR r):OkR (whenD r).2∧(whenD r).2.rt=r.rt:=by
  unfold whenD
  cases hc:!r.rb&&nextB r.rt r.ra 1 [119,104,101,110] with
  | false=>exact ⟨h,rfl⟩
  | true =>
    rw [Bool.and_eq_true] at hc
    have hu:=h.up (kd:=1) (by decide) hc.2
    have h1:=hu.cnd
    have h2:=OkR.cnds (r.rt.length+1) [(cndD (upD r)).1] h1.1
    exact ⟨h2.1,h2.2.trans h1.2⟩
theorem wrapUp {r:Rdr} (h:At r.rt r.ra) (hl:r.rt.length≤90000):IntKind.wrap .i64 (r.ra+1)=r.ra+1:=h.wrap hl
namespace ris
noncomputable def bd:Code:=(Tryz.f93.body).getD .skip
noncomputable def X:Ctx U El:=⟨E,tds,zeros,eqs,specOf [],100000,27,dspecOf [],fun _=>none,fun _=>none⟩
noncomputable def nmR:Norm U:=⟨[],[6],[],[],[],[],[]⟩
noncomputable def RR:Kont U El:=fun st=>normK nmR st (retFin [6] [])
noncomputable def fr0 (r:Rdr) (kd:Int) (x:List UInt8):St U El:=⟨[(0,(.agg [(.lst .tok r.rt),(.int .i64 r.ra),(.bool r.rb)])),(1,(.int .i64 kd)),(2,(.str x))],[]⟩
noncomputable def sh0 (r:Rdr) (kd:Int) (x:List UInt8):R :=
 chk (inb r.ra (List.length r.rt)) (condB ((List.getD r.rt (Int.toNat r.ra) d_tok).kk == kd) (chk (inb r.ra (List.length r.rt)) (some ((.bool (((List.getD r.rt (Int.toNat r.ra) d_tok).kt) == x)),[]))) (some ((.bool false),[])))
theorem P0 (r kd x):exec X (cdp [] bd) .d (fr0 r kd x) RR (fun _ _=>none) RR=sh0 r kd x:=by kernel_rfl
noncomputable def f0 (r:Rdr) (kd:Int) (x:List UInt8):R:=sh0 r kd x
theorem T0 (r kd x):exec X bd .d (fr0 r kd x) RR (fun _ _=>none) RR=f0 r kd x:=by
 refine (P0 r kd x).trans ?_
 show _=sh0 r kd x
 rfl
theorem run (r kd x):runFn X bd .d nmR [6] [] [(.agg [(.lst .tok r.rt),(.int .i64 r.ra),(.bool r.rb)]),(.int .i64 kd),(.str x)]=f0 r kd x:=T0 r kd x
theorem f0_eq (r:Rdr) (kd:Int) (x:List UInt8) (h:inRd r=true):f0 r kd x=outB (nextB (Rdr.rt r) (Rdr.ra r) kd x):=by
 obtain ⟨ha,hl⟩:=inRd_I h
 show sh0 r kd x=_
 unfold sh0 nextB tokAt
 rw [inb_At.2 ha]
 simp only [chkT]
 cases (List.getD r.rt (Int.toNat r.ra) d_tok).kk == kd<;>rfl
theorem ok:CtxOk Tryz.prog X:=ctxOk tab spN dpN
theorem okM:MOk Tryz.prog X:=fun g sp h=>by cases h
theorem spec (r:Rdr) (kd:Int) (x:List UInt8) (h:(inRd r)=true):CallSpec Tryz.prog E 93 [(.agg [(.lst .tok r.rt),(.int .i64 r.ra),(.bool r.rb)]),(.int .i64 kd),(.str x)] (.bool (nextB (Rdr.rt r) (Rdr.ra r) kd x)) [] :=
 rfs ok okM Tryz.call93 Tryz.func93 ((run r kd x).trans (f0_eq r kd x h))
noncomputable def sp:Sp U El:=fun args k=>match args with
 | [.agg [.lst .tok r_rt,.int .i64 r_ra,.bool r_rb],.int .i64 kd,.str x]=>chk (inRd (⟨r_rt,r_ra,r_rb⟩:Rdr)) (k (.bool (nextB (Rdr.rt (⟨r_rt,r_ra,r_rb⟩:Rdr)) (Rdr.ra (⟨r_rt,r_ra,r_rb⟩:Rdr)) kd x)) [])
 | _=>none
theorem spOk:SpOk Tryz.prog E 93 sp:=⟨fun vs=>by unfold sp;split;exact det_c _ _ _;exact ⟨none,fun _=>rfl⟩,fun vs k r h=>by unfold sp at h;split at h;(obtain ⟨h1,h2⟩:=chk_some h;exact ⟨_,_,spec ⟨_,_,_⟩ _ _ h1,h2⟩);cases h⟩
end ris
namespace rtake
noncomputable def bd:Code:=(Tryz.f92.body).getD .skip
noncomputable def X:Ctx U El:=⟨E,tds,zeros,eqs,specOf [],100000,37,dspecOf [],fun _=>none,fun _=>none⟩
noncomputable def nmR:Norm U:=⟨[],[4,37],[],[],[],[(37,0,.tok)],[]⟩
noncomputable def RR:Kont U El:=fun st=>loadRes X 37 [(5,107)] 37 st fun st=>normK nmR st (retFin [4,37] [])
noncomputable def nm1:Norm U:=⟨[],[1,2,5],[2,5],[],[],[],[(2,0,.tok)]⟩
noncomputable def nm2:Norm U:=⟨[],[2,5,6],[2,5],[],[],[],[(2,0,.tok)]⟩
abbrev Y1:=Int→(List Tok)→Int→Bool→Int→Bool→R
abbrev Y2:=(List UInt8)→(List Tok)→Int→Bool→Int→Bool→R
noncomputable def fr0 (r:Rdr) (kd:Int):St U El:=⟨[(0,(.agg [(.lst .tok r.rt),(.int .i64 r.ra),(.bool r.rb)])),(1,(.int .i64 kd))],[]⟩
noncomputable def fr1 (mA:Int) (hA:List Tok) (iA:Int) (jA:Bool) (kA:Int) (lA:Bool):St U El:=⟨[(1,(.int .i64 mA)),(2,(.ptr 2 0)),(5,(.ptr 5 0))],[(2,(.box 0 [(.lst .tok hA),(.int .i64 iA),(.bool jA)])),(5,(.box 0 [.nils,(.int .i64 kA),(.bool lA)]))]⟩
noncomputable def fr2 (s6:List UInt8) (hA:List Tok) (iA:Int) (jA:Bool) (kA:Int) (lA:Bool):St U El:=⟨[(2,(.ptr 2 0)),(5,(.ptr 5 0)),(6,(.str s6))],[(2,(.box 0 [(.lst .tok hA),(.int .i64 iA),(.bool jA)])),(5,(.box 0 [.nils,(.int .i64 kA),(.bool lA)]))]⟩
noncomputable def sh0 (r:Rdr) (kd:Int) (k1:Y1):R :=
 condB r.rb (some ((.tup [(.str ([]:List UInt8)),(.agg [(.lst .tok r.rt),(.int .i64 r.ra),(.bool true)])]),[])) (chk (inb r.ra (List.length r.rt)) (condB ((List.getD r.rt (Int.toNat r.ra) d_tok).kk != kd) (some ((.tup [(.str ([]:List UInt8)),(.agg [(.lst .tok r.rt),(.int .i64 r.ra),(.bool true)])]),[])) (k1 kd r.rt r.ra r.rb (0:Int) false)))
noncomputable def sh1 (mA:Int) (hA:List Tok) (iA:Int) (jA:Bool) (kA:Int) (lA:Bool) (k2:Y2):R :=
 chk (inb iA (List.length hA)) (condB (mA != (5:Int)) (k2 ((List.getD hA (Int.toNat iA) d_tok).kt) hA (IntKind.wrap .i64 (iA+(1:Int))) jA kA lA) (k2 ((List.getD hA (Int.toNat iA) d_tok).kt) hA iA jA kA lA))
noncomputable def sh2 (s6:List UInt8) (hA:List Tok) (iA:Int) (jA:Bool) (kA:Int) (lA:Bool):R :=
 some ((.tup [(.str s6),(.agg [(.lst .tok hA),(.int .i64 iA),(.bool jA)])]),[])
noncomputable def ct1:Kont U El:=fun st=>exec X (cdp [1,1] bd) (.seq none .d (.seq (some nm2) .d (.seq none (.region [(3,5)]) .d))) st RR (fun _ _=>none) RR
noncomputable def ct2:Kont U El:=fun st=>exec X (cdp [1,1,1,1] bd) (.seq none (.region [(3,5)]) .d) st RR (fun _ _=>none) RR
theorem P0 (r kd):exec X (cdp [] bd) (.seq none .d (.seq (some nm1) (.seq none .d (.cond (.seq none .d (.seq none (.region [(2,5)]) .d)) .d)) (.seq none .d (.seq (some nm2) .d (.seq none (.region [(3,5)]) .d))))) (fr0 r kd) RR (fun _ _=>none) RR=sh0 r kd (fun y0 y1 y2 y3 y4 y5=>(hid ct1) (fr1 y0 y1 y2 y3 y4 y5)):=by kernel_rfl
theorem P1 (mA hA iA jA kA lA):ct1 (fr1 mA hA iA jA kA lA)=sh1 mA hA iA jA kA lA (fun y0 y1 y2 y3 y4 y5=>(hid ct2) (fr2 y0 y1 y2 y3 y4 y5)):=by kernel_rfl
theorem P2 (s6 hA iA jA kA lA):ct2 (fr2 s6 hA iA jA kA lA)=sh2 s6 hA iA jA kA lA:=by kernel_rfl
noncomputable def f2 (s6:List UInt8) (hA:List Tok) (iA:Int) (jA:Bool) (kA:Int) (lA:Bool):R:=sh2 s6 hA iA jA kA lA
noncomputable def f1 (mA:Int) (hA:List Tok) (iA:Int) (jA:Bool) (kA:Int) (lA:Bool):R:=sh1 mA hA iA jA kA lA f2
noncomputable def f0 (r:Rdr) (kd:Int):R:=sh0 r kd f1
theorem T2 (s6 hA iA jA kA lA):(hid ct2) (fr2 s6 hA iA jA kA lA)=f2 s6 hA iA jA kA lA:=by
 refine (congrFun (hid_eq _) _).trans <| (P2 s6 hA iA jA kA lA).trans ?_
 show _=sh2 s6 hA iA jA kA lA
 rfl
theorem T1 (mA hA iA jA kA lA):(hid ct1) (fr1 mA hA iA jA kA lA)=f1 mA hA iA jA kA lA:=by
 refine (congrFun (hid_eq _) _).trans <| (P1 mA hA iA jA kA lA).trans ?_
 show _=sh1 mA hA iA jA kA lA f2
 simp only [T2]
theorem T0 (r kd):exec X bd (.seq none .d (.seq (some nm1) (.seq none .d (.cond (.seq none .d (.seq none (.region [(2,5)]) .d)) .d)) (.seq none .d (.seq (some nm2) .d (.seq none (.region [(3,5)]) .d))))) (fr0 r kd) RR (fun _ _=>none) RR=f0 r kd:=by
 refine (P0 r kd).trans ?_
 show _=sh0 r kd f1
 simp only [T1]
theorem run (r kd):runFnC X bd (.seq none .d (.seq (some nm1) (.seq none .d (.cond (.seq none .d (.seq none (.region [(2,5)]) .d)) .d)) (.seq none .d (.seq (some nm2) .d (.seq none (.region [(3,5)]) .d))))) nmR [(5,107)] [4,37] [] [(.agg [(.lst .tok r.rt),(.int .i64 r.ra),(.bool r.rb)]),(.int .i64 kd)]=f0 r kd:=T0 r kd
theorem f0_eq (r:Rdr) (kd:Int) (h:inRd r=true):f0 r kd=some (.tup [.str (takeD r kd).1,.agg [.lst .tok (takeD r kd).2.rt,.int .i64 (takeD r kd).2.ra,.bool (takeD r kd).2.rb]],[]):=by
  obtain ⟨ha,hl⟩:=inRd_I h
  show sh0 r kd f1=_
  unfold sh0
  cases hb:r.rb with
  | true =>
    rw [takeD_bad hb]
    simp only [condT]
    rw [hb]
  | false =>
    simp only [condF]
    rw [inb_At.2 ha]
    simp only [chkT]
    have hk:((List.getD r.rt (Int.toNat r.ra) d_tok).kk != kd) = !((tokAt r.rt r.ra).kk == kd):=rfl
    rw [hk]
    unfold takeD
    rw [hb]
    cases hq:(tokAt r.rt r.ra).kk == kd with
    | false=>rfl
    | true =>
      simp only [Bool.not_true,condF,Bool.or_self,cond_false]
      show sh1 kd r.rt r.ra false 0 false f2=_
      unfold sh1
      rw [inb_At.2 ha,wrapUp ha hl]
      simp only [chkT]
      have h5:(kd != (5:Int)) = !(kd == 5):=rfl
      rw [h5]
      cases kd == 5<;>rfl
theorem ok:CtxOk Tryz.prog X:=ctxOk tab spN dpN
theorem okM:MOk Tryz.prog X:=fun g sp h=>by cases h
theorem spec (r:Rdr) (kd:Int) (h:(inRd r)=true):CallSpec Tryz.prog E 92 [(.agg [(.lst .tok r.rt),(.int .i64 r.ra),(.bool r.rb)]),(.int .i64 kd)] (.tup [(.str ((takeD r kd).1)),(.agg [(.lst .tok (((takeD r kd).2).rt)),(.int .i64 (((takeD r kd).2).ra)),(.bool (((takeD r kd).2).rb))])]) [] :=
 runFnC_sound ok okM Tryz.call92 Tryz.func92 (by kernel_rfl) (by kernel_rfl) (by kernel_rfl) (by show 2≤37; decide) (by decide) (by rfl) ((run r kd).trans (f0_eq r kd h))
noncomputable def sp:Sp U El:=fun args k=>match args with
 | [.agg [.lst .tok r_rt,.int .i64 r_ra,.bool r_rb],.int .i64 kd]=>chk (inRd (⟨r_rt,r_ra,r_rb⟩:Rdr)) (k (.tup [(.str ((takeD (⟨r_rt,r_ra,r_rb⟩:Rdr) kd).1)),(.agg [(.lst .tok (((takeD (⟨r_rt,r_ra,r_rb⟩:Rdr) kd).2).rt)),(.int .i64 (((takeD (⟨r_rt,r_ra,r_rb⟩:Rdr) kd).2).ra)),(.bool (((takeD (⟨r_rt,r_ra,r_rb⟩:Rdr) kd).2).rb))])]) [])
 | _=>none
theorem spOk:SpOk Tryz.prog E 92 sp:=⟨fun vs=>by unfold sp;split;exact det_c _ _ _;exact ⟨none,fun _=>rfl⟩,fun vs k r h=>by unfold sp at h;split at h;(obtain ⟨h1,h2⟩:=chk_some h;exact ⟨_,_,spec ⟨_,_,_⟩ _ h1,h2⟩);cases h⟩
end rtake
namespace rwd
noncomputable def bd:Code:=(Tryz.f91.body).getD .skip
noncomputable def X:Ctx U El:=⟨E,tds,zeros,eqs,specOf [(93,ris.sp)],100000,23,dspecOf [],fun _=>none,fun _=>none⟩
noncomputable def nmR:Norm U:=⟨[],[23],[],[],[],[(23,0,.tok)],[]⟩
noncomputable def RR:Kont U El:=fun st=>loadRes X 23 [(6,107)] 23 st fun st=>normK nmR st (retFin [23] [])
noncomputable def nm1:Norm U:=⟨[],[3,6],[3,6],[],[],[],[(3,0,.tok)]⟩
abbrev Y1:=(List Tok)→Int→Bool→Int→Bool→R
noncomputable def fr0 (r:Rdr) (kd:Int) (x:List UInt8):St U El:=⟨[(0,(.agg [(.lst .tok r.rt),(.int .i64 r.ra),(.bool r.rb)])),(1,(.int .i64 kd)),(2,(.str x))],[]⟩
noncomputable def fr1 (nA:List Tok) (bA:Int) (cA:Bool) (oA:Int) (pA:Bool):St U El:=⟨[(3,(.ptr 3 0)),(6,(.ptr 6 0))],[(3,(.box 0 [(.lst .tok nA),(.int .i64 bA),(.bool cA)])),(6,(.box 0 [.nils,(.int .i64 oA),(.bool pA)]))]⟩
noncomputable def sh0 (r:Rdr) (kd:Int) (x:List UInt8) (k1:Y1):R :=
 condB r.rb (some ((.agg [(.lst .tok r.rt),(.int .i64 r.ra),(.bool true)]),[])) (chk (inRd r) (condB (!(nextB (Rdr.rt r) (Rdr.ra r) kd x)) (some ((.agg [(.lst .tok r.rt),(.int .i64 r.ra),(.bool true)]),[])) (k1 r.rt r.ra r.rb (0:Int) false)))
noncomputable def sh1 (nA:List Tok) (bA:Int) (cA:Bool) (oA:Int) (pA:Bool):R :=
 some ((.agg [(.lst .tok nA),(.int .i64 (IntKind.wrap .i64 (bA+(1:Int)))),(.bool cA)]),[])
noncomputable def ct1:Kont U El:=fun st=>exec X (cdp [1,1] bd) .d st RR (fun _ _=>none) RR
theorem P0 (r kd x):exec X (cdp [] bd) (.seq none .d (.seq (some nm1) .d .d)) (fr0 r kd x) RR (fun _ _=>none) RR=sh0 r kd x (fun y0 y1 y2 y3 y4=>(hid ct1) (fr1 y0 y1 y2 y3 y4)):=by kernel_rfl
theorem P1 (nA bA cA oA pA):ct1 (fr1 nA bA cA oA pA)=sh1 nA bA cA oA pA:=by kernel_rfl
noncomputable def f1 (nA:List Tok) (bA:Int) (cA:Bool) (oA:Int) (pA:Bool):R:=sh1 nA bA cA oA pA
noncomputable def f0 (r:Rdr) (kd:Int) (x:List UInt8):R:=sh0 r kd x f1
theorem T1 (nA bA cA oA pA):(hid ct1) (fr1 nA bA cA oA pA)=f1 nA bA cA oA pA:=by
 refine (congrFun (hid_eq _) _).trans <| (P1 nA bA cA oA pA).trans ?_
 show _=sh1 nA bA cA oA pA
 rfl
theorem T0 (r kd x):exec X bd (.seq none .d (.seq (some nm1) .d .d)) (fr0 r kd x) RR (fun _ _=>none) RR=f0 r kd x:=by
 refine (P0 r kd x).trans ?_
 show _=sh0 r kd x f1
 simp only [T1]
theorem run (r kd x):runFnC X bd (.seq none .d (.seq (some nm1) .d .d)) nmR [(6,107)] [23] [] [(.agg [(.lst .tok r.rt),(.int .i64 r.ra),(.bool r.rb)]),(.int .i64 kd),(.str x)]=f0 r kd x:=T0 r kd x
theorem f0_eq (r:Rdr) (kd:Int) (x:List UInt8) (h:inRd r=true):f0 r kd x=some (.agg [.lst .tok (rwordD r kd x).rt,.int .i64 (rwordD r kd x).ra,.bool (rwordD r kd x).rb],[]):=by
  obtain ⟨ha,hl⟩:=inRd_I h
  show sh0 r kd x f1=_
  unfold sh0
  cases hb:r.rb with
  | true =>
    rw [rwordD_bad hb]
    simp only [condT]
    rw [hb]
  | false =>
    simp only [condF]
    rw [h]
    simp only [chkT]
    unfold rwordD
    rw [hb]
    cases nextB r.rt r.ra kd x with
    | false=>rfl
    | true =>
      simp only [Bool.not_true,condF,Bool.or_self,cond_false]
      show sh1 r.rt r.ra false 0 false=_
      unfold sh1
      rw [wrapUp ha hl]
theorem ok:CtxOk Tryz.prog X:=ctxOk tab (spC ris.spOk spN) dpN
theorem okM:MOk Tryz.prog X:=fun g sp h=>by cases h
theorem spec (r:Rdr) (kd:Int) (x:List UInt8) (h:(inRd r)=true):CallSpec Tryz.prog E 91 [(.agg [(.lst .tok r.rt),(.int .i64 r.ra),(.bool r.rb)]),(.int .i64 kd),(.str x)] (.agg [(.lst .tok ((rwordD r kd x).rt)),(.int .i64 ((rwordD r kd x).ra)),(.bool ((rwordD r kd x).rb))]) [] :=
 runFnC_sound ok okM Tryz.call91 Tryz.func91 (by kernel_rfl) (by kernel_rfl) (by kernel_rfl) (by show 3≤23; decide) (by decide) (by rfl) ((run r kd x).trans (f0_eq r kd x h))
noncomputable def sp:Sp U El:=fun args k=>match args with
 | [.agg [.lst .tok r_rt,.int .i64 r_ra,.bool r_rb],.int .i64 kd,.str x]=>chk (inRd (⟨r_rt,r_ra,r_rb⟩:Rdr)) (k (.agg [(.lst .tok ((rwordD (⟨r_rt,r_ra,r_rb⟩:Rdr) kd x).rt)),(.int .i64 ((rwordD (⟨r_rt,r_ra,r_rb⟩:Rdr) kd x).ra)),(.bool ((rwordD (⟨r_rt,r_ra,r_rb⟩:Rdr) kd x).rb))]) [])
 | _=>none
theorem spOk:SpOk Tryz.prog E 91 sp:=⟨fun vs=>by unfold sp;split;exact det_c _ _ _;exact ⟨none,fun _=>rfl⟩,fun vs k r h=>by unfold sp at h;split at h;(obtain ⟨h1,h2⟩:=chk_some h;exact ⟨_,_,spec ⟨_,_,_⟩ _ _ h1,h2⟩);cases h⟩
end rwd
namespace rnum
noncomputable def bd:Code:=(Tryz.f95.body).getD .skip
noncomputable def X:Ctx U El:=⟨E,tds,zeros,eqs,specOf [(92,rtake.sp),(93,ris.sp),(120,rdigit.sp)],100000,74,dspecOf [],fun _=>none,fun _=>none⟩
noncomputable def nmR:Norm U:=⟨[],[2,74],[],[],[],[(74,0,.tok)],[]⟩
noncomputable def RR:Kont U El:=fun st=>loadRes X 74 [(3,107)] 74 st fun st=>normK nmR st (retFin [2,74] [])
noncomputable def nm1:Norm U:=⟨[],[1,3,4],[1,3],[],[],[],[(1,0,.tok)]⟩
noncomputable def nm2:Norm U:=⟨[],[1,3,4],[1,3],[],[],[],[(1,0,.tok)]⟩
noncomputable def nm3:Norm U:=⟨[],[1,3,4,7],[1,3],[],[],[],[(1,0,.tok)]⟩
noncomputable def nm4:Norm U:=⟨[],[1,3,4,5,6,7,8],[1,3],[],[],[],[(1,0,.tok)]⟩
noncomputable def nm5:Norm U:=⟨[],[1,3,4,5,6,7,8],[1,3],[],[],[],[(1,0,.tok)]⟩
noncomputable def nm6:Norm U:=⟨[],[1,3,4,5,6,7,8],[1,3],[],[],[],[(1,0,.tok)]⟩
noncomputable def nm7:Norm U:=⟨[],[1,3,7],[1,3],[],[],[],[(1,0,.tok)]⟩
abbrev Y1:=Bool→(List Tok)→Int→Bool→Int→Bool→R
abbrev Y2:=Bool→(List Tok)→Int→Bool→Int→Bool→R
abbrev Y3:=Bool→Int→(List Tok)→Int→Bool→Int→Bool→R
abbrev Y4:=Bool→Int→(List UInt8)→Int→Int→(List Tok)→Int→Bool→Int→Bool→R
abbrev Y5:=Bool→Int→(List UInt8)→Int→Int→(List Tok)→Int→Bool→Int→Bool→R
abbrev Y6:=Bool→Int→(List UInt8)→Int→Int→(List Tok)→Int→Bool→Int→Bool→R
abbrev Y7:=Int→(List Tok)→Int→Bool→Int→Bool→R
noncomputable def fr0 (r:Rdr):St U El:=⟨[(0,(.agg [(.lst .tok r.rt),(.int .i64 r.ra),(.bool r.rb)]))],[]⟩
noncomputable def fr1 (aA:Bool) (dA:List Tok) (eA:Int) (fA:Bool) (bA:Int) (cA:Bool):St U El:=⟨[(1,(.ptr 1 0)),(3,(.ptr 3 0)),(4,(.bool aA))],[(1,(.box 0 [(.lst .tok dA),(.int .i64 eA),(.bool fA)])),(3,(.box 0 [.nils,(.int .i64 bA),(.bool cA)]))]⟩
noncomputable def fr2 (aA:Bool) (dA:List Tok) (eA:Int) (fA:Bool) (bA:Int) (cA:Bool):St U El:=⟨[(1,(.ptr 1 0)),(3,(.ptr 3 0)),(4,(.bool aA))],[(1,(.box 0 [(.lst .tok dA),(.int .i64 eA),(.bool fA)])),(3,(.box 0 [.nils,(.int .i64 bA),(.bool cA)]))]⟩
noncomputable def fr3 (aA:Bool) (n7:Int) (dA:List Tok) (eA:Int) (fA:Bool) (bA:Int) (cA:Bool):St U El:=⟨[(1,(.ptr 1 0)),(3,(.ptr 3 0)),(4,(.bool aA)),(7,(.int .i64 n7))],[(1,(.box 0 [(.lst .tok dA),(.int .i64 eA),(.bool fA)])),(3,(.box 0 [.nils,(.int .i64 bA),(.bool cA)]))]⟩
noncomputable def fr4 (aA:Bool) (gA:Int) (s6:List UInt8) (n7:Int) (i8:Int) (dA:List Tok) (eA:Int) (fA:Bool) (bA:Int) (cA:Bool):St U El:=⟨[(1,(.ptr 1 0)),(3,(.ptr 3 0)),(4,(.bool aA)),(5,(.int .i64 gA)),(6,(.str s6)),(7,(.int .i64 n7)),(8,(.int .i64 i8))],[(1,(.box 0 [(.lst .tok dA),(.int .i64 eA),(.bool fA)])),(3,(.box 0 [.nils,(.int .i64 bA),(.bool cA)]))]⟩
noncomputable def fr5 (aA:Bool) (gA:Int) (s6:List UInt8) (n7:Int) (i8:Int) (dA:List Tok) (eA:Int) (fA:Bool) (bA:Int) (cA:Bool):St U El:=⟨[(1,(.ptr 1 0)),(3,(.ptr 3 0)),(4,(.bool aA)),(5,(.int .i64 gA)),(6,(.str s6)),(7,(.int .i64 n7)),(8,(.int .i64 i8))],[(1,(.box 0 [(.lst .tok dA),(.int .i64 eA),(.bool fA)])),(3,(.box 0 [.nils,(.int .i64 bA),(.bool cA)]))]⟩
noncomputable def fr6 (aA:Bool) (gA:Int) (s6:List UInt8) (n7:Int) (i8:Int) (dA:List Tok) (eA:Int) (fA:Bool) (bA:Int) (cA:Bool):St U El:=⟨[(1,(.ptr 1 0)),(3,(.ptr 3 0)),(4,(.bool aA)),(5,(.int .i64 gA)),(6,(.str s6)),(7,(.int .i64 n7)),(8,(.int .i64 i8))],[(1,(.box 0 [(.lst .tok dA),(.int .i64 eA),(.bool fA)])),(3,(.box 0 [.nils,(.int .i64 bA),(.bool cA)]))]⟩
noncomputable def fr7 (n7:Int) (dA:List Tok) (eA:Int) (fA:Bool) (bA:Int) (cA:Bool):St U El:=⟨[(1,(.ptr 1 0)),(3,(.ptr 3 0)),(7,(.int .i64 n7))],[(1,(.box 0 [(.lst .tok dA),(.int .i64 eA),(.bool fA)])),(3,(.box 0 [.nils,(.int .i64 bA),(.bool cA)]))]⟩
noncomputable def sh0 (r:Rdr) (k1:Y1):R :=
 condB (!r.rb) (chk (inRd r) (k1 (nextB (Rdr.rt r) (Rdr.ra r) (3:Int) ([45]:List UInt8)) r.rt r.ra r.rb (0:Int) false)) (k1 false r.rt r.ra r.rb (0:Int) false)
noncomputable def sh1 (aA:Bool) (dA:List Tok) (eA:Int) (fA:Bool) (bA:Int) (cA:Bool) (k2:Y2):R :=
 condB aA (k2 aA dA (IntKind.wrap .i64 (eA+(1:Int))) fA bA cA) (k2 aA dA eA fA bA cA)
noncomputable def sh2 (aA:Bool) (dA:List Tok) (eA:Int) (fA:Bool) (bA:Int) (cA:Bool) (k4:Y4):R :=
 chk (inRd (⟨dA,eA,fA⟩:Rdr)) (condB (((takeD (⟨dA,eA,fA⟩:Rdr) (2:Int)).2).rb) (some ((.tup [(.int .i64 (0:Int)),(.agg [(.lst .tok (((takeD (⟨dA,eA,fA⟩:Rdr) (2:Int)).2).rt)),(.int .i64 (((takeD (⟨dA,eA,fA⟩:Rdr) (2:Int)).2).ra)),(.bool (((takeD (⟨dA,eA,fA⟩:Rdr) (2:Int)).2).rb))])]),[])) (k4 aA eA ((takeD (⟨dA,eA,fA⟩:Rdr) (2:Int)).1) (0:Int) (0:Int) (((takeD (⟨dA,eA,fA⟩:Rdr) (2:Int)).2).rt) (((takeD (⟨dA,eA,fA⟩:Rdr) (2:Int)).2).ra) (((takeD (⟨dA,eA,fA⟩:Rdr) (2:Int)).2).rb) bA cA))
noncomputable def sh3 (aA:Bool) (n7:Int) (dA:List Tok) (eA:Int) (fA:Bool) (bA:Int) (cA:Bool) (k7:Y7):R :=
 condB aA (k7 (IntKind.wrap .i64 ((0:Int) - n7)) dA eA fA bA cA) (k7 n7 dA eA fA bA cA)
noncomputable def sh4 (aA:Bool) (gA:Int) (s6:List UInt8) (n7:Int) (i8:Int) (dA:List Tok) (eA:Int) (fA:Bool) (bA:Int) (cA:Bool) (k3:Y3) (k6:Y6):R :=
 condB (ilt i8 (Int.ofNat (List.length s6))) (chk (inb i8 (List.length s6)) (condB (!(digitB (Int.ofNat (UInt8.toNat (List.getD s6 (Int.toNat i8) 0))))) (some ((.tup [(.int .i64 (0:Int)),(.agg [(.lst .tok dA),(.int .i64 gA),(.bool true)])]),[])) (condB (ilt (15:Int) (Int.ofNat (List.length s6))) (some ((.tup [(.int .i64 (0:Int)),(.agg [(.lst .tok dA),(.int .i64 gA),(.bool true)])]),[])) (condB (ilt (1:Int) (Int.ofNat (List.length s6))) (chk (inb (0:Int) (List.length s6)) (condB ((Int.ofNat (UInt8.toNat (List.getD s6 0 0))) == (48:Int)) (some ((.tup [(.int .i64 (0:Int)),(.agg [(.lst .tok dA),(.int .i64 gA),(.bool true)])]),[])) (k6 aA gA s6 n7 i8 dA eA fA bA cA))) (k6 aA gA s6 n7 i8 dA eA fA bA cA))))) (k3 aA n7 dA eA fA bA cA)
noncomputable def sh5 (aA:Bool) (gA:Int) (s6:List UInt8) (n7:Int) (i8:Int) (dA:List Tok) (eA:Int) (fA:Bool) (bA:Int) (cA:Bool) (k4:Y4):R :=
 k4 aA gA s6 n7 (IntKind.wrap .i64 (i8+(1:Int))) dA eA fA bA cA
noncomputable def sh6 (aA:Bool) (gA:Int) (s6:List UInt8) (n7:Int) (i8:Int) (dA:List Tok) (eA:Int) (fA:Bool) (bA:Int) (cA:Bool) (k5:Y5):R :=
 chk (inb i8 (List.length s6)) (k5 aA gA s6 (IntKind.wrap .i64 ((IntKind.wrap .i64 ((10:Int) * n7))+(IntKind.wrap .i64 (IntKind.wrap .u8 ((Int.ofNat (UInt8.toNat (List.getD s6 (Int.toNat i8) 0))) - (48:Int)))))) i8 dA eA fA bA cA)
noncomputable def sh7 (n7:Int) (dA:List Tok) (eA:Int) (fA:Bool) (bA:Int) (cA:Bool):R :=
 some ((.tup [(.int .i64 n7),(.agg [(.lst .tok dA),(.int .i64 eA),(.bool fA)])]),[])
noncomputable def it4 (Kb3:Kont U El) (n:Nat):Kont U El:=iter nm4 (fun st' K'=>exec X (cdp [1,1,1,1,1,1,1,0,1,0,0] bd) (.seq none .d (.seq (some nm5) (.block (.seq (some nm6) (.seq none .d (.cond (.seq none .d (.seq none .d (.seq none (.region [(2,3)]) .d))) .d)) .d)) .d)) st' K' (Eblk 0 (cutK nm3 Kb3) (fun _ _=>none)) RR) n
noncomputable def ct1:Kont U El:=fun st=>exec X (cdp [1,1] bd) (.seq (some nm2) .d (.seq none .d (.seq none .d (.seq none (.seq none .d (.cond (.seq none (.region [(2,3)]) .d) .d)) (.seq none .d (.seq (some nm3) (.seq none .d (.block (.loop nm4 (.seq none .d (.seq (some nm5) (.block (.seq (some nm6) (.seq none .d (.cond (.seq none .d (.seq none .d (.seq none (.region [(2,3)]) .d))) .d)) .d)) .d))))) (.seq (some nm7) .d (.seq none (.region [(3,3)]) .d)))))))) st RR (fun _ _=>none) RR
noncomputable def ct2:Kont U El:=fun st=>exec X (cdp [1,1,1] bd) (.seq none .d (.seq none .d (.seq none (.seq none .d (.cond (.seq none (.region [(2,3)]) .d) .d)) (.seq none .d (.seq (some nm3) (.seq none .d (.block (.loop nm4 (.seq none .d (.seq (some nm5) (.block (.seq (some nm6) (.seq none .d (.cond (.seq none .d (.seq none .d (.seq none (.region [(2,3)]) .d))) .d)) .d)) .d))))) (.seq (some nm7) .d (.seq none (.region [(3,3)]) .d))))))) st RR (fun _ _=>none) RR
noncomputable def ct3:Kont U El:=fun st=>exec X (cdp [1,1,1,1,1,1,1,1] bd) (.seq (some nm7) .d (.seq none (.region [(3,3)]) .d)) st RR (fun _ _=>none) RR
noncomputable def ct5 (Kb3 Kb4:Kont U El):Kont U El:=fun st=>exec X (cdp [1,1,1,1,1,1,1,0,1,0,0,1,1] bd) .d st (cutK nm4 Kb4) (Eblk 0 (cutK nm3 Kb3) (fun _ _=>none)) RR
noncomputable def ct6 (Kb3 Kb5:Kont U El):Kont U El:=fun st=>exec X (cdp [1,1,1,1,1,1,1,0,1,0,0,1,0,0,1] bd) .d st (cutK nm5 Kb5) (Eblk 1 (cutK nm5 Kb5) (Eblk 0 (cutK nm3 Kb3) (fun _ _=>none))) RR
noncomputable def ct7:Kont U El:=fun st=>exec X (cdp [1,1,1,1,1,1,1,1,1] bd) (.seq none (.region [(3,3)]) .d) st RR (fun _ _=>none) RR
theorem P0 (r):exec X (cdp [] bd) (.seq none .d (.seq (some nm1) .d (.seq (some nm2) .d (.seq none .d (.seq none .d (.seq none (.seq none .d (.cond (.seq none (.region [(2,3)]) .d) .d)) (.seq none .d (.seq (some nm3) (.seq none .d (.block (.loop nm4 (.seq none .d (.seq (some nm5) (.block (.seq (some nm6) (.seq none .d (.cond (.seq none .d (.seq none .d (.seq none (.region [(2,3)]) .d))) .d)) .d)) .d))))) (.seq (some nm7) .d (.seq none (.region [(3,3)]) .d)))))))))) (fr0 r) RR (fun _ _=>none) RR=sh0 r (fun y0 y1 y2 y3 y4 y5=>(hid ct1) (fr1 y0 y1 y2 y3 y4 y5)):=by kernel_rfl
theorem P1 (aA dA eA fA bA cA):ct1 (fr1 aA dA eA fA bA cA)=sh1 aA dA eA fA bA cA (fun y0 y1 y2 y3 y4 y5=>(hid ct2) (fr2 y0 y1 y2 y3 y4 y5)):=by kernel_rfl
theorem P2 (aA dA eA fA bA cA):ct2 (fr2 aA dA eA fA bA cA)=sh2 aA dA eA fA bA cA (fun y0 y1 y2 y3 y4 y5 y6 y7 y8 y9=>(hid (it4 (hid ct3) 100000)) (fr4 y0 y1 y2 y3 y4 y5 y6 y7 y8 y9)):=by kernel_rfl
theorem P3 (aA n7 dA eA fA bA cA):ct3 (fr3 aA n7 dA eA fA bA cA)=sh3 aA n7 dA eA fA bA cA (fun y0 y1 y2 y3 y4 y5=>(hid ct7) (fr7 y0 y1 y2 y3 y4 y5)):=by kernel_rfl
theorem P4 (aA gA s6 n7 i8 dA eA fA bA cA) (Kb3 Kb4:Kont U El):exec X (cdp [1,1,1,1,1,1,1,0,1,0,0] bd) (.seq none .d (.seq (some nm5) (.block (.seq (some nm6) (.seq none .d (.cond (.seq none .d (.seq none .d (.seq none (.region [(2,3)]) .d))) .d)) .d)) .d)) (fr4 aA gA s6 n7 i8 dA eA fA bA cA) (cutK nm4 Kb4) (Eblk 0 (cutK nm3 Kb3) (fun _ _=>none)) RR=sh4 aA gA s6 n7 i8 dA eA fA bA cA (fun y0 y1 y2 y3 y4 y5 y6=>Kb3 (fr3 y0 y1 y2 y3 y4 y5 y6)) (fun y0 y1 y2 y3 y4 y5 y6 y7 y8 y9=>(hid (ct6 Kb3 (hid (ct5 Kb3 Kb4)))) (fr6 y0 y1 y2 y3 y4 y5 y6 y7 y8 y9)):=by kernel_rfl
theorem P5 (aA gA s6 n7 i8 dA eA fA bA cA) (Kb3 Kb4:Kont U El):ct5 Kb3 Kb4 (fr5 aA gA s6 n7 i8 dA eA fA bA cA)=sh5 aA gA s6 n7 i8 dA eA fA bA cA (fun y0 y1 y2 y3 y4 y5 y6 y7 y8 y9=>Kb4 (fr4 y0 y1 y2 y3 y4 y5 y6 y7 y8 y9)):=by kernel_rfl
theorem P6 (aA gA s6 n7 i8 dA eA fA bA cA) (Kb3 Kb5:Kont U El):ct6 Kb3 Kb5 (fr6 aA gA s6 n7 i8 dA eA fA bA cA)=sh6 aA gA s6 n7 i8 dA eA fA bA cA (fun y0 y1 y2 y3 y4 y5 y6 y7 y8 y9=>Kb5 (fr5 y0 y1 y2 y3 y4 y5 y6 y7 y8 y9)):=by kernel_rfl
theorem P7 (n7 dA eA fA bA cA):ct7 (fr7 n7 dA eA fA bA cA)=sh7 n7 dA eA fA bA cA:=by kernel_rfl
noncomputable def f7 (n7:Int) (dA:List Tok) (eA:Int) (fA:Bool) (bA:Int) (cA:Bool):R:=sh7 n7 dA eA fA bA cA
noncomputable def f3 (aA:Bool) (n7:Int) (dA:List Tok) (eA:Int) (fA:Bool) (bA:Int) (cA:Bool):R:=sh3 aA n7 dA eA fA bA cA f7
noncomputable def f5 (k4:Y4) (aA:Bool) (gA:Int) (s6:List UInt8) (n7:Int) (i8:Int) (dA:List Tok) (eA:Int) (fA:Bool) (bA:Int) (cA:Bool):R:=sh5 aA gA s6 n7 i8 dA eA fA bA cA k4
noncomputable def f6 (k4:Y4) (aA:Bool) (gA:Int) (s6:List UInt8) (n7:Int) (i8:Int) (dA:List Tok) (eA:Int) (fA:Bool) (bA:Int) (cA:Bool):R:=sh6 aA gA s6 n7 i8 dA eA fA bA cA (f5 k4)
noncomputable def f4:Nat→Y4
 | 0=>fun _ _ _ _ _ _ _ _ _ _=>none
 | n+1=>fun aA gA s6 n7 i8 dA eA fA bA cA=>sh4 aA gA s6 n7 i8 dA eA fA bA cA f3 (f6 (f4 n))
noncomputable def f2 (aA:Bool) (dA:List Tok) (eA:Int) (fA:Bool) (bA:Int) (cA:Bool):R:=sh2 aA dA eA fA bA cA (f4 100000)
noncomputable def f1 (aA:Bool) (dA:List Tok) (eA:Int) (fA:Bool) (bA:Int) (cA:Bool):R:=sh1 aA dA eA fA bA cA f2
noncomputable def f0 (r:Rdr):R:=sh0 r f1
theorem T7 (n7 dA eA fA bA cA):(hid ct7) (fr7 n7 dA eA fA bA cA)=f7 n7 dA eA fA bA cA:=by
 refine (congrFun (hid_eq _) _).trans <| (P7 n7 dA eA fA bA cA).trans ?_
 show _=sh7 n7 dA eA fA bA cA
 rfl
theorem T3 (aA n7 dA eA fA bA cA):(hid ct3) (fr3 aA n7 dA eA fA bA cA)=f3 aA n7 dA eA fA bA cA:=by
 refine (congrFun (hid_eq _) _).trans <| (P3 aA n7 dA eA fA bA cA).trans ?_
 show _=sh3 aA n7 dA eA fA bA cA f7
 simp only [T7]
theorem T5 (KL4:Kont U El) (k4:Y4) (h4:∀ aA gA s6 n7 i8 dA eA fA bA cA,KL4 (fr4 aA gA s6 n7 i8 dA eA fA bA cA)=k4 aA gA s6 n7 i8 dA eA fA bA cA) (aA gA s6 n7 i8 dA eA fA bA cA):(hid (ct5 (hid ct3) KL4)) (fr5 aA gA s6 n7 i8 dA eA fA bA cA)=f5 k4 aA gA s6 n7 i8 dA eA fA bA cA:=by
 refine (congrFun (hid_eq _) _).trans <| (P5 aA gA s6 n7 i8 dA eA fA bA cA (hid ct3) KL4).trans ?_
 show _=sh5 aA gA s6 n7 i8 dA eA fA bA cA k4
 simp only [h4]
theorem T6 (KL4:Kont U El) (k4:Y4) (h4:∀ aA gA s6 n7 i8 dA eA fA bA cA,KL4 (fr4 aA gA s6 n7 i8 dA eA fA bA cA)=k4 aA gA s6 n7 i8 dA eA fA bA cA) (aA gA s6 n7 i8 dA eA fA bA cA):(hid (ct6 (hid ct3) (hid (ct5 (hid ct3) KL4)))) (fr6 aA gA s6 n7 i8 dA eA fA bA cA)=f6 k4 aA gA s6 n7 i8 dA eA fA bA cA:=by
 refine (congrFun (hid_eq _) _).trans <| (P6 aA gA s6 n7 i8 dA eA fA bA cA (hid ct3) (hid (ct5 (hid ct3) KL4))).trans ?_
 show _=sh6 aA gA s6 n7 i8 dA eA fA bA cA (f5 k4)
 simp only [T5 KL4 k4 h4]
theorem T4:∀ (n:Nat),∀ aA gA s6 n7 i8 dA eA fA bA cA,it4 (hid ct3) n (fr4 aA gA s6 n7 i8 dA eA fA bA cA)=f4 n aA gA s6 n7 i8 dA eA fA bA cA:=by
  intro n
  induction n with
  | zero=>intros; rfl
  | succ n ih =>
    intro aA gA s6 n7 i8 dA eA fA bA cA
    refine (P4 aA gA s6 n7 i8 dA eA fA bA cA (hid ct3) (it4 (hid ct3) n)).trans ?_
    show _=sh4 aA gA s6 n7 i8 dA eA fA bA cA f3 (f6 (f4 n))
    simp only [T3,T6 (it4 (hid ct3) n) (f4 n) ih]
theorem H4 (aA gA s6 n7 i8 dA eA fA bA cA):hid (it4 (hid ct3) 100000) (fr4 aA gA s6 n7 i8 dA eA fA bA cA)=f4 100000 aA gA s6 n7 i8 dA eA fA bA cA:=(congrFun (hid_eq _) _).trans (T4 100000 aA gA s6 n7 i8 dA eA fA bA cA)
theorem T2 (aA dA eA fA bA cA):(hid ct2) (fr2 aA dA eA fA bA cA)=f2 aA dA eA fA bA cA:=by
 refine (congrFun (hid_eq _) _).trans <| (P2 aA dA eA fA bA cA).trans ?_
 show _=sh2 aA dA eA fA bA cA (f4 100000)
 simp only [H4]
theorem T1 (aA dA eA fA bA cA):(hid ct1) (fr1 aA dA eA fA bA cA)=f1 aA dA eA fA bA cA:=by
 refine (congrFun (hid_eq _) _).trans <| (P1 aA dA eA fA bA cA).trans ?_
 show _=sh1 aA dA eA fA bA cA f2
 simp only [T2]
theorem T0 (r):exec X bd (.seq none .d (.seq (some nm1) .d (.seq (some nm2) .d (.seq none .d (.seq none .d (.seq none (.seq none .d (.cond (.seq none (.region [(2,3)]) .d) .d)) (.seq none .d (.seq (some nm3) (.seq none .d (.block (.loop nm4 (.seq none .d (.seq (some nm5) (.block (.seq (some nm6) (.seq none .d (.cond (.seq none .d (.seq none .d (.seq none (.region [(2,3)]) .d))) .d)) .d)) .d))))) (.seq (some nm7) .d (.seq none (.region [(3,3)]) .d)))))))))) (fr0 r) RR (fun _ _=>none) RR=f0 r:=by
 refine (P0 r).trans ?_
 show _=sh0 r f1
 simp only [T1]
theorem run (r):runFnC X bd (.seq none .d (.seq (some nm1) .d (.seq (some nm2) .d (.seq none .d (.seq none .d (.seq none (.seq none .d (.cond (.seq none (.region [(2,3)]) .d) .d)) (.seq none .d (.seq (some nm3) (.seq none .d (.block (.loop nm4 (.seq none .d (.seq (some nm5) (.block (.seq (some nm6) (.seq none .d (.cond (.seq none .d (.seq none .d (.seq none (.region [(2,3)]) .d))) .d)) .d)) .d))))) (.seq (some nm7) .d (.seq none (.region [(3,3)]) .d)))))))))) nmR [(3,107)] [2,74] [] [(.agg [(.lst .tok r.rt),(.int .i64 r.ra),(.bool r.rb)])]=f0 r:=T0 r
noncomputable def outN (z:Int) (r:Rdr):R:=some (.tup [.int .i64 z,.agg [.lst .tok r.rt,.int .i64 r.ra,.bool r.rb]],[])
theorem valN_lt:∀ (s:List UInt8) (acc k:Nat),(∀ b∈s,digitB (byI b)=true)→acc < 10 ^ k→valN acc s < 10 ^ (k+s.length):=by
  intro s
  induction s with
  | nil=>intro acc k _ h; exact h
  | cons b s ih =>
    intro acc k hd h
    obtain ⟨h1,h2⟩:=digitB_nat (hd b (by simp))
    have:=ih (10 * acc+(b.toNat - 48)) (k+1) (fun b hb=>hd b (by simp [hb])) (by rw [Nat.pow_succ]; omega)
    show valN (10 * acc+(b.toNat - 48)) s < _
    rw [List.length_cons,show k+(s.length+1)=k+1+s.length by omega]
    exact this
theorem loop (mi : Bool) (gA : Int) (s : List UInt8) (rt : List Tok) (ra : Int) (rb : Bool) (x : Int) (y : Bool) (h15 : s.length ≤ 15) (hz : (ilt 1 (Int.ofNat s.length) && byI (List.getD s 0 0) == 48) = false) : ∀ (n i acc : Nat), s.length < n + i → i ≤ s.length → acc < 10 ^ i → f4 n mi gA s (acc : Int) (i : Int) rt ra rb x y =
    bif List.all (s.drop i) (fun b=>digitB (byI b)) then f3 mi ((valN acc (s.drop i):Nat):Int) rt ra rb x y else outN 0 ⟨rt,gA,true⟩:=by
  intro n
  induction n with
  | zero=>intro i acc h1 h2; omega
  | succ n ih =>
    intro i acc h1 h2 h3
    show sh4 mi gA s (acc:Int) (i:Int) rt ra rb x y f3 (f6 (f4 n))=_
    unfold sh4
    by_cases hi:i < s.length
    · have hp : (10 : Nat) ^ i ≤ 10 ^ 15 := Nat.pow_le_pow_right (by decide) (by omega)
      rw [iltT (show (i:Int) < Int.ofNat s.length by simp; omega),inbT hi,toNat_nat,getD_lt hi,drop_lt hi,List.all_cons]
      simp only [chkT,condT]
      cases hd:digitB (byI s[i]) with
      | false=>rfl
      | true =>
        simp only [Bool.not_true,condF,Bool.true_and]
        rw [iltF (show ¬ (15:Int) < Int.ofNat s.length by simp; omega)]
        simp only [condF]
        obtain ⟨d1,d2⟩:=digitB_nat hd
        have h6:f6 (f4 n) mi gA s (acc:Int) (i:Int) rt ra rb x y=f4 n mi gA s ((10 * acc+(s[i].toNat - 48):Nat):Int) ((i+1:Nat):Int) rt ra rb x y:=by
          show sh6 mi gA s (acc:Int) (i:Int) rt ra rb x y (f5 (f4 n))=_
          unfold sh6
          rw [inbT hi,toNat_nat,getD_lt hi]
          simp only [chkT]
          have e8:IntKind.wrap .u8 ((Int.ofNat (UInt8.toNat s[i])) - (48:Int))=((s[i].toNat - 48:Nat):Int):=by
            have:(Int.ofNat (UInt8.toNat s[i])) - (48:Int)=((s[i].toNat - 48:Nat):Int):=by simp only [Int.ofNat_eq_natCast]; omega
            rw [this]
            exact IntWalk.u8_in _ ⟨by omega,by omega⟩
          rw [e8,wrapI (x:=10 * (acc:Int)) (by omega) (by omega),wrapI (x:=((s[i].toNat - 48:Nat):Int)) (by omega) (by omega),wrapI (x:=10 * (acc:Int)+((s[i].toNat - 48:Nat):Int)) (by omega) (by omega)]
          show f4 n mi gA s _ (IntKind.wrap .i64 ((i:Int)+1)) rt ra rb x y=_
          rw [wrapS i (by omega)]
          congr 1
        have fin:=ih (i+1) (10 * acc+(s[i].toNat - 48)) (by omega) hi (by rw [Nat.pow_succ]; omega)
        have hlast:f6 (f4 n) mi gA s (acc:Int) (i:Int) rt ra rb x y=bif List.all (s.drop (i+1)) (fun b=>digitB (byI b)) then f3 mi ((valN acc (s[i] :: s.drop (i+1)):Nat):Int) rt ra rb x y else outN 0 ⟨rt,gA,true⟩:=h6.trans fin
        cases hlt:ilt (1:Int) (Int.ofNat s.length) with
        | false=>exact hlast
        | true =>
          rw [hlt] at hz
          have h0:((Int.ofNat (UInt8.toNat (List.getD s 0 0))) == (48:Int))=false:=hz
          rw [inb0 (by omega),h0]
          exact hlast
    · have : i = s.length := by omega
      subst this
      rw [iltF (by simp),List.drop_length]
      rfl
theorem loop0 (mi : Bool) (gA : Int) (s : List UInt8) (rt : List Tok) (ra : Int) (rb : Bool) (x : Int) (y : Bool) (hl : s.length ≤ 90000) : f4 100000 mi gA s 0 0 rt ra rb x y = bif s == [] || okD s then f3 mi (Int.ofNat (valN 0 s)) rt ra rb x y else outN 0 ⟨rt, gA, true⟩ := by
  cases s with
  | nil=>rfl
  | cons b s =>
    have hne:(b :: s == ([]:List UInt8))=false:=rfl
    rw [hne,Bool.false_or]
    by_cases h15:(b :: s).length≤15
    · cases hz : (ilt 1 (Int.ofNat (b :: s).length) && byI (List.getD (b :: s) 0 0) == 48) with
      | false =>
        have:=loop mi gA (b :: s) rt ra rb x y h15 hz 100000 0 0 (by omega) (by omega) (by decide)
        rw [List.drop_zero] at this
        refine this.trans ?_
        unfold okD
        rw [hz,ileT (by simp only [Int.ofNat_eq_natCast]; omega)]
        simp only [Bool.not_false,Bool.and_true]
        rfl
      | true =>
        have ho:okD (b :: s)=false:=by unfold okD; rw [hz]; simp
        rw [ho]
        simp only [cond_false]
        show sh4 mi gA (b :: s) 0 0 rt ra rb x y f3 (f6 (f4 99999))=_
        unfold sh4
        rw [Bool.and_eq_true] at hz
        rw [iltT (show (0:Int) < Int.ofNat (b :: s).length by simp only [Int.ofNat_eq_natCast,List.length_cons]; omega),inb0 (by simp)]
        simp only [condT,chkT]
        cases hd:digitB (Int.ofNat (UInt8.toNat (List.getD (b :: s) (Int.toNat 0) 0))) with
        | false=>rfl
        | true =>
          simp only [Bool.not_true,condF]
          rw [iltF (show ¬ (15:Int) < Int.ofNat (b :: s).length by simp only [Int.ofNat_eq_natCast]; omega),hz.1]
          simp only [condF,condT]
          have h0:((Int.ofNat (UInt8.toNat (List.getD (b :: s) 0 0))) == (48:Int))=true:=hz.2
          rw [h0]
          rfl
    · have ho : okD (b :: s) = false := by unfold okD; rw [ileF (by simp only [Int.ofNat_eq_natCast]; omega)]; simp
      rw [ho]
      simp only [cond_false]
      show sh4 mi gA (b :: s) 0 0 rt ra rb x y f3 (f6 (f4 99999))=_
      unfold sh4
      rw [iltT (show (0:Int) < Int.ofNat (b :: s).length by simp only [Int.ofNat_eq_natCast,List.length_cons]; omega),inb0 (by simp)]
      simp only [condT,chkT]
      cases hd:digitB (Int.ofNat (UInt8.toNat (List.getD (b :: s) (Int.toNat 0) 0))) with
      | false=>rfl
      | true =>
        simp only [Bool.not_true,condF]
        rw [iltT (show (15:Int) < Int.ofNat (b :: s).length by simp only [Int.ofNat_eq_natCast]; omega)]
        rfl
theorem f0_eq (r : Rdr) (h : okRd r = true) : f0 r = outN (numD r).1 (numD r).2 := by
  have hR:=okRd_I h
  have hl:=(hR.2.len hR.1).1
  have hq:=hR.numQ
  have ht:=hq.1.take (kd:=2) (by decide)
  have h1:f0 r=f2 (minD r) (numQD r).rt (numQD r).ra (numQD r).rb 0 false:=by
    show sh0 r f1=_
    unfold sh0
    have hk:∀ m:Bool,f1 m r.rt r.ra r.rb 0 false=f2 m r.rt (bif m then r.ra+1 else r.ra) r.rb 0 false:=fun m=>by
      show sh1 m r.rt r.ra r.rb 0 false f2=_
      unfold sh1
      rw [wrapUp hR.2 hl]
      cases m<;>rfl
    rw [hk,hk,hR.inr]
    unfold numQD minD
    cases r.rb<;>rfl
  rw [h1]
  show sh2 (minD r) (numQD r).rt (numQD r).ra (numQD r).rb 0 false (f4 100000)=_
  unfold sh2
  have hrd:(⟨(numQD r).rt,(numQD r).ra,(numQD r).rb⟩:Rdr)=numQD r:=rfl
  rw [hrd,hq.1.inr]
  simp only [chkT]
  have htxt:(takeD (numQD r) 2).1.length≤90000:=by
    unfold takeD
    cases (numQD r).rb || !((tokAt (numQD r).rt (numQD r).ra).kk == 2) with
    | true=>simp
    | false=>exact okT_text hq.1.1 _
  unfold numD
  cases hb:(takeD (numQD r) 2).2.rb with
  | true =>
    simp only [condT,cond_true]
    unfold outN
    rw [hb]
  | false =>
    simp only [condF,cond_false]
    have:=loop0 (minD r) (numQD r).ra (takeD (numQD r) 2).1 (takeD (numQD r) 2).2.rt (takeD (numQD r) 2).2.ra false 0 false htxt
    refine this.trans ?_
    cases ho:(takeD (numQD r) 2).1 == []||okD (takeD (numQD r) 2).1 with
    | false =>
      simp only [cond_false]
      rw [ht.2,hq.2]
    | true =>
      simp only [cond_true]
      show sh3 (minD r) _ _ _ false 0 false f7=_
      unfold sh3
      have hv:valN 0 (takeD (numQD r) 2).1 < 10 ^ 15:=by
        rw [Bool.or_eq_true] at ho
        rcases ho with ho | ho
        · rw [eq_of_beq ho]; decide
        · unfold okD at ho
          simp only [Bool.and_eq_true] at ho
          have h15:=ileI ho.2.1
          have:=valN_lt (takeD (numQD r) 2).1 0 0 (List.all_eq_true.1 ho.1) (by decide)
          refine Nat.lt_of_lt_of_le this (Nat.pow_le_pow_right (by decide) ?_)
          simp only [Int.ofNat_eq_natCast] at h15
          omega
      rw [wrapI (x:=0 - Int.ofNat (valN 0 (takeD (numQD r) 2).1)) (by simp only [Int.ofNat_eq_natCast]; omega) (by simp only [Int.ofNat_eq_natCast]; omega)]
      unfold outN
      rw [hb]
      cases minD r<;>rfl
theorem ok:CtxOk Tryz.prog X:=ctxOk tab (spC rtake.spOk (spC ris.spOk (spC rdigit.spOk spN))) dpN
theorem okM:MOk Tryz.prog X:=fun g sp h=>by cases h
theorem spec (r:Rdr) (h:(okRd r)=true):CallSpec Tryz.prog E 95 [(.agg [(.lst .tok r.rt),(.int .i64 r.ra),(.bool r.rb)])] (.tup [(.int .i64 ((numD r).1)),(.agg [(.lst .tok (((numD r).2).rt)),(.int .i64 (((numD r).2).ra)),(.bool (((numD r).2).rb))])]) [] :=
 runFnC_sound ok okM Tryz.call95 Tryz.func95 (by kernel_rfl) (by kernel_rfl) (by kernel_rfl) (by show 1≤74; decide) (by decide) (by rfl) ((run r).trans (f0_eq r h))
noncomputable def sp:Sp U El:=fun args k=>match args with
 | [.agg [.lst .tok r_rt,.int .i64 r_ra,.bool r_rb]]=>chk (okRd (⟨r_rt,r_ra,r_rb⟩:Rdr)) (k (.tup [(.int .i64 ((numD (⟨r_rt,r_ra,r_rb⟩:Rdr)).1)),(.agg [(.lst .tok (((numD (⟨r_rt,r_ra,r_rb⟩:Rdr)).2).rt)),(.int .i64 (((numD (⟨r_rt,r_ra,r_rb⟩:Rdr)).2).ra)),(.bool (((numD (⟨r_rt,r_ra,r_rb⟩:Rdr)).2).rb))])]) [])
 | _=>none
theorem spOk:SpOk Tryz.prog E 95 sp:=⟨fun vs=>by unfold sp;split;exact det_c _ _ _;exact ⟨none,fun _=>rfl⟩,fun vs k r h=>by unfold sp at h;split at h;(obtain ⟨h1,h2⟩:=chk_some h;exact ⟨_,_,spec ⟨_,_,_⟩ h1,h2⟩);cases h⟩
end rnum
end Go.Proofs.YtlkfbblapimhoaaGreatDoor
