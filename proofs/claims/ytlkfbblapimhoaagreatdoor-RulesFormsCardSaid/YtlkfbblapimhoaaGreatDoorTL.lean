import Derived.Test.YtlkfbblapimhoaaGreatDoorRD
namespace Go.Proofs.YtlkfbblapimhoaaGreatDoor
set_option linter.all false
set_option maxRecDepth 100000
noncomputable abbrev byI (b:UInt8):Int:=Int.ofNat b.toNat
noncomputable def digN:List UInt8→Nat
 | []=>0
 | b :: s=>bif digitB (byI b) then digN s+1 else 0
noncomputable def fracB (s:List UInt8):Bool:=match s with
 | 46 :: b :: _=>digitB (byI b)
 | _=>false
noncomputable def numeralN (s:List UInt8):Nat:=bif fracB (s.drop (digN s)) then digN s+1+digN (s.drop (digN s+1)) else digN s
noncomputable def numeralD (s:List UInt8):Int:=Int.ofNat (numeralN s)
noncomputable def preB (s x:List UInt8):Bool:=s.take x.length == x
noncomputable def symN (s:List UInt8):Nat:=bif preB s [62,61]||(preB s [60,61]||preB s [58,61]) then 2 else bif ile (0:Int) (idxbZ ([45,43,58,44,59,47,61,40,41,60,62,42]:List UInt8) (byI (List.getD s 0 0))) then 1 else 0
noncomputable def symD (s:List UInt8):Int:=Int.ofNat (symN s)
noncomputable def comN:List UInt8→Nat
 | []=>0
 | b :: s=>bif b == 10 then 0 else comN s+1
noncomputable def kindN (s:List UInt8):Int×Nat :=
 let c:=byI (List.getD s 0 0)
 bif c == 32||c == 9 then (0,1) else bif c == 10 then (4,1) else bif c == 35 then (0,comN s) else
 bif letterB c then (bif ilt 20 (wordD s) then (-1,1) else (1,wordN s)) else bif digitB c then (2,numeralN s) else bif symN s == 0 then (-1,1) else (3,symN s)
structure TR where
 l:List Tok
 bad:Bool
 pl:Int
 pc:Int
noncomputable def TR.cons (t:Tok) (r:TR):TR:=⟨t :: r.l,r.bad,r.pl,r.pc⟩
noncomputable def tokR:Nat→List UInt8→Int→Int→TR
 | 0,_,l,c=>⟨[],true,l,c⟩
 | _+1,[],l,c=>⟨[⟨5,[],l,c⟩],false,0,0⟩
 | n + 1, b :: s, l, c => bif ilt (kindN (b :: s)).1 0 then ⟨[], true, l, c⟩ else bif (kindN (b :: s)).1 == 4 then (tokR n s (l + 1) 1).cons ⟨4, [], l, c⟩ else
   bif (kindN (b :: s)).1 == 0 then tokR n ((b :: s).drop (kindN (b :: s)).2) l (c+Int.ofNat (kindN (b :: s)).2) else
   (tokR n ((b :: s).drop (kindN (b :: s)).2) l (c+Int.ofNat (kindN (b :: s)).2)).cons ⟨(kindN (b :: s)).1,(b :: s).take (kindN (b :: s)).2,l,c⟩
noncomputable def tokS (s:List UInt8):TR:=tokR (s.length+1) s 1 1
noncomputable def tokE (s:List UInt8):Int:=bif ilt 262144 (Int.ofNat s.length) then 4 else bif (tokS s).bad then 7 else 0
noncomputable def tokL (s:List UInt8):List Tok:=bif tokE s == 0 then (tokS s).l else []
noncomputable def tokP (s:List UInt8):Pos:=bif tokE s == 7 then ⟨(tokS s).pl,(tokS s).pc⟩ else ⟨0,0⟩
theorem wordN_le:∀ s:List UInt8,wordN s≤s.length:=by
 intro s
 induction s with
 | nil=>exact Nat.le_refl _
 | cons b s ih=>unfold wordN; cases bodyB b<;>simp<;>omega
theorem digN_le:∀ s:List UInt8,digN s≤s.length:=by
 intro s
 induction s with
 | nil=>exact Nat.le_refl _
 | cons b s ih=>unfold digN; cases digitB (byI b)<;>simp<;>omega
theorem comN_le:∀ s:List UInt8,comN s≤s.length:=by
 intro s
 induction s with
 | nil=>exact Nat.le_refl _
 | cons b s ih=>unfold comN; cases b == 10<;>simp<;>omega
theorem fracB_len {s:List UInt8} (h:fracB s=true):2≤s.length:=by
 unfold fracB at h
 split at h
 ·simp
 ·cases h
theorem numeralN_le (s:List UInt8):numeralN s≤s.length:=by
  unfold numeralN
  have h1:=digN_le s
  cases hf:fracB (s.drop (digN s)) with
  | false=>exact h1
  | true =>
    have h2:=fracB_len hf
    have h3:=digN_le (s.drop (digN s+1))
    simp only [List.length_drop,cond_true] at *
    omega
theorem symN_le (s:List UInt8) (h:s≠[]):symN s≤s.length:=by
  unfold symN
  have h1:1≤s.length:=by cases s; exact absurd rfl h; simp
  cases hp:(preB s [62,61]||(preB s [60,61]||preB s [58,61])) with
  | false=>simp only [cond_false]; cases ile (0:Int) (idxbZ ([45,43,58,44,59,47,61,40,41,60,62,42]:List UInt8) (byI (List.getD s 0 0)))<;>simp<;>omega
  | true =>
    have:∀ x:List UInt8,x.length=2→preB s x=true→2≤s.length:=fun x hx hq=>by
      have hq:=eq_of_beq (show (s.take x.length == x)=true from hq)
      have:=congrArg List.length hq
      rw [List.length_take] at this
      omega
    simp only [Bool.or_eq_true] at hp
    simp only [cond_true]
    rcases hp with h | h | h<;>exact this _ rfl h
namespace numeral
noncomputable def bd:Code:=(Tryz.f84.body).getD .skip
noncomputable def X:Ctx U El:=⟨E,tds,zeros,eqs,specOf [(83,digit.sp)],100000,49,dspecOf [],fun _=>none,fun _=>none⟩
noncomputable def nmR:Norm U:=⟨[],[2],[],[],[],[],[]⟩
noncomputable def RR:Kont U El:=fun st=>normK nmR st (retFin [2] [])
noncomputable def nm1:Norm U:=⟨[],[0,3],[],[],[],[],[]⟩
noncomputable def nm2:Norm U:=⟨[],[0,3],[],[],[],[],[]⟩
noncomputable def nm3:Norm U:=⟨[],[0,3],[],[],[],[],[]⟩
noncomputable def nm4:Norm U:=⟨[],[3],[],[],[],[],[]⟩
noncomputable def nm5:Norm U:=⟨[],[0,3],[],[],[],[],[]⟩
noncomputable def nm6:Norm U:=⟨[],[0,3],[],[],[],[],[]⟩
abbrev Y1:=(List UInt8)→Int→R
abbrev Y2:=(List UInt8)→Int→R
abbrev Y3:=(List UInt8)→Int→R
abbrev Y4:=Int→R
abbrev Y5:=(List UInt8)→Int→R
abbrev Y6:=(List UInt8)→Int→R
noncomputable def fr0 (s:List UInt8):St U El:=⟨[(0,(.str s))],[]⟩
noncomputable def fr1 (s0:List UInt8) (i3:Int):St U El:=⟨[(0,(.str s0)),(3,(.int .i64 i3))],[]⟩
noncomputable def fr2 (s0:List UInt8) (i3:Int):St U El:=⟨[(0,(.str s0)),(3,(.int .i64 i3))],[]⟩
noncomputable def fr3 (s0:List UInt8) (i3:Int):St U El:=⟨[(0,(.str s0)),(3,(.int .i64 i3))],[]⟩
noncomputable def fr4 (i3:Int):St U El:=⟨[(3,(.int .i64 i3))],[]⟩
noncomputable def fr5 (s0:List UInt8) (i3:Int):St U El:=⟨[(0,(.str s0)),(3,(.int .i64 i3))],[]⟩
noncomputable def fr6 (s0:List UInt8) (i3:Int):St U El:=⟨[(0,(.str s0)),(3,(.int .i64 i3))],[]⟩
noncomputable def sh0 (s:List UInt8) (k2:Y2):R :=
 k2 s (0:Int)
noncomputable def sh1 (s0:List UInt8) (i3:Int) (k4:Y4) (k5:Y5):R :=
 condB (ilt (IntKind.wrap .i64 (i3+(1:Int))) (Int.ofNat (List.length s0))) (chk (inb i3 (List.length s0)) (condB ((Int.ofNat (UInt8.toNat (List.getD s0 (Int.toNat i3) 0))) == (46:Int)) (chk (inb (IntKind.wrap .i64 (i3+(1:Int))) (List.length s0)) (condB (digitB (Int.ofNat (UInt8.toNat (List.getD s0 (Int.toNat (IntKind.wrap .i64 (i3+(1:Int)))) 0)))) (k5 s0 (IntKind.wrap .i64 (i3+(1:Int)))) (k4 i3))) (k4 i3))) (k4 i3)
noncomputable def sh2 (s0:List UInt8) (i3:Int) (k1:Y1) (k3:Y3):R :=
 condB (ilt i3 (Int.ofNat (List.length s0))) (chk (inb i3 (List.length s0)) (condB (digitB (Int.ofNat (UInt8.toNat (List.getD s0 (Int.toNat i3) 0)))) (k3 s0 i3) (k1 s0 i3))) (k1 s0 i3)
noncomputable def sh3 (s0:List UInt8) (i3:Int) (k2:Y2):R :=
 k2 s0 (IntKind.wrap .i64 (i3+(1:Int)))
noncomputable def sh4 (i3:Int):R :=
 some ((.int .i64 i3),[])
noncomputable def sh5 (s0:List UInt8) (i3:Int) (k4:Y4) (k6:Y6):R :=
 condB (ilt i3 (Int.ofNat (List.length s0))) (chk (inb i3 (List.length s0)) (condB (digitB (Int.ofNat (UInt8.toNat (List.getD s0 (Int.toNat i3) 0)))) (k6 s0 i3) (k4 i3))) (k4 i3)
noncomputable def sh6 (s0:List UInt8) (i3:Int) (k5:Y5):R :=
 k5 s0 (IntKind.wrap .i64 (i3+(1:Int)))
noncomputable def it2 (Kb1:Kont U El) (n:Nat):Kont U El:=iter nm2 (fun st' K'=>exec X (cdp [1,1,0,0,0] bd) (.seq (some nm3) .d .d) st' K' (Eblk 0 (cutK nm1 Kb1) (fun _ _=>none)) RR) n
noncomputable def it5 (Kb4:Kont U El) (n:Nat):Kont U El:=iter nm5 (fun st' K'=>exec X (cdp [1,1,1,0,1,0,1,0,0] bd) (.seq (some nm6) .d .d) st' K' (Eblk 2 (cutK nm4 Kb4) (fun _ _=>none)) RR) n
noncomputable def ct1:Kont U El:=fun st=>exec X (cdp [1,1,1] bd) (.seq (some nm4) (.seq none .d (.cond (.seq none .d (.block (.loop nm5 (.seq (some nm6) .d .d)))) .d)) .d) st RR (fun _ _=>none) RR
noncomputable def ct3 (Kb1 Kb2:Kont U El):Kont U El:=fun st=>exec X (cdp [1,1,0,0,0,1] bd) .d st (cutK nm2 Kb2) (Eblk 0 (cutK nm1 Kb1) (fun _ _=>none)) RR
noncomputable def ct4:Kont U El:=fun st=>exec X (cdp [1,1,1,1] bd) .d st RR (fun _ _=>none) RR
noncomputable def ct6 (Kb4 Kb5:Kont U El):Kont U El:=fun st=>exec X (cdp [1,1,1,0,1,0,1,0,0,1] bd) .d st (cutK nm5 Kb5) (Eblk 2 (cutK nm4 Kb4) (fun _ _=>none)) RR
theorem P0 (s):exec X (cdp [] bd) (.seq none .d (.seq none .d (.seq (some nm1) (.block (.loop nm2 (.seq (some nm3) .d .d))) (.seq (some nm4) (.seq none .d (.cond (.seq none .d (.block (.loop nm5 (.seq (some nm6) .d .d)))) .d)) .d)))) (fr0 s) RR (fun _ _=>none) RR=sh0 s (fun y0 y1=>(hid (it2 (hid ct1) 100000)) (fr2 y0 y1)):=by kernel_rfl
theorem P1 (s0 i3):ct1 (fr1 s0 i3)=sh1 s0 i3 (fun y0=>(hid ct4) (fr4 y0)) (fun y0 y1=>(hid (it5 (hid ct4) 100000)) (fr5 y0 y1)):=by kernel_rfl
theorem P2 (s0 i3) (Kb1 Kb2:Kont U El):exec X (cdp [1,1,0,0,0] bd) (.seq (some nm3) .d .d) (fr2 s0 i3) (cutK nm2 Kb2) (Eblk 0 (cutK nm1 Kb1) (fun _ _=>none)) RR=sh2 s0 i3 (fun y0 y1=>Kb1 (fr1 y0 y1)) (fun y0 y1=>(hid (ct3 Kb1 Kb2)) (fr3 y0 y1)):=by kernel_rfl
theorem P3 (s0 i3) (Kb1 Kb2:Kont U El):ct3 Kb1 Kb2 (fr3 s0 i3)=sh3 s0 i3 (fun y0 y1=>Kb2 (fr2 y0 y1)):=by kernel_rfl
theorem P4 (i3):ct4 (fr4 i3)=sh4 i3:=by kernel_rfl
theorem P5 (s0 i3) (Kb4 Kb5:Kont U El):exec X (cdp [1,1,1,0,1,0,1,0,0] bd) (.seq (some nm6) .d .d) (fr5 s0 i3) (cutK nm5 Kb5) (Eblk 2 (cutK nm4 Kb4) (fun _ _=>none)) RR=sh5 s0 i3 (fun y0=>Kb4 (fr4 y0)) (fun y0 y1=>(hid (ct6 Kb4 Kb5)) (fr6 y0 y1)):=by kernel_rfl
theorem P6 (s0 i3) (Kb4 Kb5:Kont U El):ct6 Kb4 Kb5 (fr6 s0 i3)=sh6 s0 i3 (fun y0 y1=>Kb5 (fr5 y0 y1)):=by kernel_rfl
noncomputable def f4 (i3:Int):R:=sh4 i3
noncomputable def f6 (k5:Y5) (s0:List UInt8) (i3:Int):R:=sh6 s0 i3 k5
noncomputable def f5:Nat→Y5
 | 0=>fun _ _=>none
 | n+1=>fun s0 i3=>sh5 s0 i3 f4 (f6 (f5 n))
noncomputable def f1 (s0:List UInt8) (i3:Int):R:=sh1 s0 i3 f4 (f5 100000)
noncomputable def f3 (k2:Y2) (s0:List UInt8) (i3:Int):R:=sh3 s0 i3 k2
noncomputable def f2:Nat→Y2
 | 0=>fun _ _=>none
 | n+1=>fun s0 i3=>sh2 s0 i3 f1 (f3 (f2 n))
noncomputable def f0 (s:List UInt8):R:=sh0 s (f2 100000)
theorem T4 (i3):(hid ct4) (fr4 i3)=f4 i3:=by
 refine (congrFun (hid_eq _) _).trans <| (P4 i3).trans ?_
 show _=sh4 i3
 rfl
theorem T6 (KL5:Kont U El) (k5:Y5) (h5:∀ s0 i3,KL5 (fr5 s0 i3)=k5 s0 i3) (s0 i3):(hid (ct6 (hid ct4) KL5)) (fr6 s0 i3)=f6 k5 s0 i3:=by
 refine (congrFun (hid_eq _) _).trans <| (P6 s0 i3 (hid ct4) KL5).trans ?_
 show _=sh6 s0 i3 k5
 simp only [h5]
theorem T5:∀ (n:Nat),∀ s0 i3,it5 (hid ct4) n (fr5 s0 i3)=f5 n s0 i3:=by
  intro n
  induction n with
  | zero=>intros; rfl
  | succ n ih =>
    intro s0 i3
    refine (P5 s0 i3 (hid ct4) (it5 (hid ct4) n)).trans ?_
    show _=sh5 s0 i3 f4 (f6 (f5 n))
    simp only [T4,T6 (it5 (hid ct4) n) (f5 n) ih]
theorem H5 (s0 i3):hid (it5 (hid ct4) 100000) (fr5 s0 i3)=f5 100000 s0 i3:=(congrFun (hid_eq _) _).trans (T5 100000 s0 i3)
theorem T1 (s0 i3):(hid ct1) (fr1 s0 i3)=f1 s0 i3:=by
 refine (congrFun (hid_eq _) _).trans <| (P1 s0 i3).trans ?_
 show _=sh1 s0 i3 f4 (f5 100000)
 simp only [T4,H5]
theorem T3 (KL2:Kont U El) (k2:Y2) (h2:∀ s0 i3,KL2 (fr2 s0 i3)=k2 s0 i3) (s0 i3):(hid (ct3 (hid ct1) KL2)) (fr3 s0 i3)=f3 k2 s0 i3:=by
 refine (congrFun (hid_eq _) _).trans <| (P3 s0 i3 (hid ct1) KL2).trans ?_
 show _=sh3 s0 i3 k2
 simp only [h2]
theorem T2:∀ (n:Nat),∀ s0 i3,it2 (hid ct1) n (fr2 s0 i3)=f2 n s0 i3:=by
  intro n
  induction n with
  | zero=>intros; rfl
  | succ n ih =>
    intro s0 i3
    refine (P2 s0 i3 (hid ct1) (it2 (hid ct1) n)).trans ?_
    show _=sh2 s0 i3 f1 (f3 (f2 n))
    simp only [T1,T3 (it2 (hid ct1) n) (f2 n) ih]
theorem H2 (s0 i3):hid (it2 (hid ct1) 100000) (fr2 s0 i3)=f2 100000 s0 i3:=(congrFun (hid_eq _) _).trans (T2 100000 s0 i3)
theorem T0 (s):exec X bd (.seq none .d (.seq none .d (.seq (some nm1) (.block (.loop nm2 (.seq (some nm3) .d .d))) (.seq (some nm4) (.seq none .d (.cond (.seq none .d (.block (.loop nm5 (.seq (some nm6) .d .d)))) .d)) .d)))) (fr0 s) RR (fun _ _=>none) RR=f0 s:=by
 refine (P0 s).trans ?_
 show _=sh0 s (f2 100000)
 simp only [H2]
theorem run (s):runFn X bd (.seq none .d (.seq none .d (.seq (some nm1) (.block (.loop nm2 (.seq (some nm3) .d .d))) (.seq (some nm4) (.seq none .d (.cond (.seq none .d (.block (.loop nm5 (.seq (some nm6) .d .d)))) .d)) .d)))) nmR [2] [] [(.str s)]=f0 s:=T0 s
theorem tail (s : List UInt8) (hl : s.length ≤ 90000) : ∀ (n i : Nat), s.length < n + i → i ≤ s.length → f5 n s (i : Int) = some (.int .i64 ((i + digN (s.drop i) : Nat) : Int), []) := by
  intro n
  induction n with
  | zero=>intro i h1 h2; omega
  | succ n ih =>
    intro i h1 h2
    show sh5 s (i:Int) f4 (f6 (f5 n))=_
    unfold sh5
    by_cases hi:i < s.length
    · rw [iltT (show (i : Int) < Int.ofNat s.length by simp; omega), inbT hi, toNat_nat, getD_lt hi, drop_lt hi]
      simp only [chkT,condT]
      unfold digN
      cases hb:digitB (byI s[i]) with
      | false=>show some (_,_)=some (_,_); simp
      | true =>
        show f5 n s (IntKind.wrap .i64 ((i:Int)+1))=_
        rw [wrapS i (by omega),ih (i+1) (by omega) hi]
        congr 3
        simp only [cond_true]
        omega
    · have : i = s.length := by omega
      subst this
      rw [iltF (by simp),List.drop_length]
      rfl
theorem mid (s : List UInt8) (hl : s.length ≤ 90000) (i : Nat) (h2 : i ≤ s.length) : f1 s (i : Int) = some (.int .i64 ((bif fracB (s.drop i) then i + 1 + digN (s.drop (i + 1)) else i : Nat) : Int), []) := by
  show sh1 s (i:Int) f4 (f5 100000)=_
  unfold sh1
  rw [wrapS i (by omega)]
  by_cases hi:i+1 < s.length
  · rw [iltT (show ((i + 1 : Nat) : Int) < Int.ofNat s.length by simp; omega), inbT (show i < s.length by omega), inbT hi, toNat_nat, toNat_nat, getD_lt (show i < s.length by omega), getD_lt hi, drop_lt (show i < s.length by omega), drop_lt hi]
    simp only [chkT,condT]
    have hf:fracB (s[i] :: s[i+1] :: s.drop (i+1+1))=(((Int.ofNat s[i].toNat) == (46:Int))&&digitB (byI s[i+1])):=by
      unfold fracB
      split
      · rename_i b r heq
        obtain ⟨h1,h2⟩:=List.cons.inj heq
        rw [h1,(List.cons.inj h2).1]
        rfl
      · rename_i hn
        cases h46:((Int.ofNat s[i].toNat) == (46:Int)) with
        | false=>rfl
        | true =>
          exfalso
          have:s[i]=46:=UInt8.toNat_inj.1 (by have:=eq_of_beq h46; simpa using Int.ofNat.inj this)
          exact hn _ _ (by rw [this])
    rw [hf]
    cases (Int.ofNat s[i].toNat) == (46:Int) with
    | false=>rfl
    | true =>
      simp only [condT,Bool.true_and]
      cases digitB (byI s[i+1]) with
      | false=>rfl
      | true =>
        simp only [condT,cond_true]
        rw [tail s hl 100000 (i+1) (by omega) (by omega),← drop_lt hi]
  · rw [iltF (by simp; omega)]
    have hf:fracB (s.drop i)=false:=by
      cases h:fracB (s.drop i) with
      | false=>rfl
      | true=>have:=fracB_len h; rw [List.length_drop] at this; omega
    rw [hf]
    rfl
theorem loop (s : List UInt8) (hl : s.length ≤ 90000) : ∀ (n i : Nat), s.length < n + i → i ≤ s.length → f2 n s (i : Int) = f1 s ((i + digN (s.drop i) : Nat) : Int) := by
  intro n
  induction n with
  | zero=>intro i h1 h2; omega
  | succ n ih =>
    intro i h1 h2
    show sh2 s (i:Int) f1 (f3 (f2 n))=_
    unfold sh2
    by_cases hi:i < s.length
    · rw [iltT (show (i : Int) < Int.ofNat s.length by simp; omega), inbT hi, toNat_nat, getD_lt hi, drop_lt hi]
      simp only [chkT,condT]
      unfold digN
      cases hb:digitB (byI s[i]) with
      | false=>rfl
      | true =>
        show f2 n s (IntKind.wrap .i64 ((i:Int)+1))=_
        rw [wrapS i (by omega),ih (i+1) (by omega) hi]
        congr 2
        simp only [cond_true]
        omega
    · have : i = s.length := by omega
      subst this
      rw [iltF (by simp),List.drop_length]
      rfl
theorem f0_eq (s:List UInt8) (h:nle (List.length s) 90000=true):f0 s=some (.int .i64 (numeralD s),[]):=by
 have hl:=nleI h
 show f2 100000 s ((0:Nat):Int)=_
 rw [loop s hl 100000 0 (by omega) (by omega),List.drop_zero,Nat.zero_add,mid s hl _ (digN_le s)]
 rfl
theorem ok:CtxOk Tryz.prog X:=ctxOk tab (spC digit.spOk spN) dpN
theorem okM:MOk Tryz.prog X:=fun g sp h=>by cases h
theorem spec (s:List UInt8) (h:(nle (List.length s) 90000)=true):CallSpec Tryz.prog E 84 [(.str s)] (.int .i64 (numeralD s)) [] :=
 rfs ok okM Tryz.call84 Tryz.func84 ((run s).trans (f0_eq s h))
noncomputable def sp:Sp U El:=fun args k=>match args with
 | [.str s]=>chk (nle (List.length s) 90000) (k (.int .i64 (numeralD s)) [])
 | _=>none
theorem spOk:SpOk Tryz.prog E 84 sp:=⟨fun vs=>by unfold sp;split;exact det_c _ _ _;exact ⟨none,fun _=>rfl⟩,fun vs k r h=>by unfold sp at h;split at h;(obtain ⟨h1,h2⟩:=chk_some h;exact ⟨_,_,spec _ h1,h2⟩);cases h⟩
end numeral
namespace hasPreL
noncomputable def bd:Code:=(Tryz.f151.body).getD .skip
noncomputable def X:Ctx U El:=⟨E,tds,zeros,eqs,specOf [],100000,18,dspecOf [],fun _=>none,fun _=>none⟩
noncomputable def nmR:Norm U:=⟨[],[4],[],[],[],[],[]⟩
noncomputable def RR:Kont U El:=fun st=>normK nmR st (retFin [4] [])
noncomputable def fr0 (s:List UInt8) (x:List UInt8):St U El:=⟨[(0,(.str s)),(1,(.str x))],[]⟩
noncomputable def sh0 (s:List UInt8) (x:List UInt8):R :=
 condB (ile (Int.ofNat (List.length x)) (Int.ofNat (List.length s))) (chk (ile 0 (0:Int)&&ile (0:Int) (Int.ofNat (List.length x))&&ile (Int.ofNat (List.length x)) (Int.ofNat (List.length s))) (some ((.bool ((sub s (0:Int) (Int.ofNat (List.length x))) == x)),[]))) (some ((.bool false),[]))
theorem P0 (s x):exec X (cdp [] bd) .d (fr0 s x) RR (fun _ _=>none) RR=sh0 s x:=by kernel_rfl
noncomputable def f0 (s:List UInt8) (x:List UInt8):R:=sh0 s x
theorem T0 (s x):exec X bd .d (fr0 s x) RR (fun _ _=>none) RR=f0 s x:=by
 refine (P0 s x).trans ?_
 show _=sh0 s x
 rfl
theorem run (s x):runFn X bd .d nmR [4] [] [(.str s),(.str x)]=f0 s x:=T0 s x
theorem f0_eq (s x : List UInt8) (h : nle (List.length s) 90000 = true) : f0 s x = outB (preB s x) := by
  have hl:=nleI h
  show sh0 s x=_
  unfold sh0 preB
  by_cases hx:x.length≤s.length
  · rw [ileT (by simp; omega), ileT (by simp), ileT (by simp)]
    simp only [condT,Bool.and_self,chkT]
    show outB _=_
    unfold sub
    simp
  · rw [ileF (by simp; omega)]
    have:(s.take x.length == x)=false:=by
      cases hq:(s.take x.length == x) with
      | false=>rfl
      | true =>
        have:=congrArg List.length (eq_of_beq hq)
        rw [List.length_take] at this
        omega
    rw [this]
    rfl
theorem ok:CtxOk Tryz.prog X:=ctxOk tab spN dpN
theorem okM:MOk Tryz.prog X:=fun g sp h=>by cases h
theorem spec (s:List UInt8) (x:List UInt8) (h:(nle (List.length s) 90000)=true):CallSpec Tryz.prog E 151 [(.str s),(.str x)] (.bool (preB s x)) [] :=
 rfs ok okM Tryz.call151 Tryz.func151 ((run s x).trans (f0_eq s x h))
noncomputable def sp:Sp U El:=fun args k=>match args with
 | [.str s,.str x]=>chk (nle (List.length s) 90000) (k (.bool (preB s x)) [])
 | _=>none
theorem spOk:SpOk Tryz.prog E 151 sp:=⟨fun vs=>by unfold sp;split;exact det_c _ _ _;exact ⟨none,fun _=>rfl⟩,fun vs k r h=>by unfold sp at h;split at h;(obtain ⟨h1,h2⟩:=chk_some h;exact ⟨_,_,spec _ _ h1,h2⟩);cases h⟩
end hasPreL
namespace hasPre
noncomputable def bd:Code:=(Tryz.f117.body).getD .skip
noncomputable def X:Ctx U El:=⟨E,tds,zeros,eqs,specOf [(151,hasPreL.sp)],100000,8,dspecOf [],fun _=>none,fun _=>none⟩
noncomputable def nmR:Norm U:=⟨[],[4],[],[],[],[],[]⟩
noncomputable def RR:Kont U El:=fun st=>normK nmR st (retFin [4] [])
noncomputable def fr0 (s:List UInt8) (x:List UInt8):St U El:=⟨[(0,(.str s)),(1,(.str x))],[]⟩
noncomputable def sh0 (s:List UInt8) (x:List UInt8):R :=
 chk (nle (List.length s) 90000) (some ((.bool (preB s x)),[]))
theorem P0 (s x):exec X (cdp [] bd) .d (fr0 s x) RR (fun _ _=>none) RR=sh0 s x:=by kernel_rfl
noncomputable def f0 (s:List UInt8) (x:List UInt8):R:=sh0 s x
theorem T0 (s x):exec X bd .d (fr0 s x) RR (fun _ _=>none) RR=f0 s x:=by
 refine (P0 s x).trans ?_
 show _=sh0 s x
 rfl
theorem run (s x):runFn X bd .d nmR [4] [] [(.str s),(.str x)]=f0 s x:=T0 s x
theorem f0_eq (s x:List UInt8) (h:nle (List.length s) 90000=true):f0 s x=outB (preB s x):=by
 show sh0 s x=_
 unfold sh0
 rw [h]
 rfl
theorem ok:CtxOk Tryz.prog X:=ctxOk tab (spC hasPreL.spOk spN) dpN
theorem okM:MOk Tryz.prog X:=fun g sp h=>by cases h
theorem spec (s:List UInt8) (x:List UInt8) (h:(nle (List.length s) 90000)=true):CallSpec Tryz.prog E 117 [(.str s),(.str x)] (.bool (preB s x)) [] :=
 rfs ok okM Tryz.call117 Tryz.func117 ((run s x).trans (f0_eq s x h))
noncomputable def sp:Sp U El:=fun args k=>match args with
 | [.str s,.str x]=>chk (nle (List.length s) 90000) (k (.bool (preB s x)) [])
 | _=>none
theorem spOk:SpOk Tryz.prog E 117 sp:=⟨fun vs=>by unfold sp;split;exact det_c _ _ _;exact ⟨none,fun _=>rfl⟩,fun vs k r h=>by unfold sp at h;split at h;(obtain ⟨h1,h2⟩:=chk_some h;exact ⟨_,_,spec _ _ h1,h2⟩);cases h⟩
end hasPre
namespace symbol
noncomputable def bd:Code:=(Tryz.f85.body).getD .skip
noncomputable def X:Ctx U El:=⟨E,tds,zeros,eqs,specOf [(80,idxb.sp),(117,hasPre.sp)],100000,19,dspecOf [],fun _=>none,fun _=>none⟩
noncomputable def nmR:Norm U:=⟨[],[2],[],[],[],[],[]⟩
noncomputable def RR:Kont U El:=fun st=>normK nmR st (retFin [2] [])
noncomputable def nm1:Norm U:=⟨[],[0],[],[],[],[],[]⟩
noncomputable def nm2:Norm U:=⟨[(5,.str)],[0,5,6,7],[5],[],[],[],[]⟩
abbrev Y1:=(List UInt8)→R
abbrev Y2:=(List UInt8)→(List (List UInt8))→Int→Int→R
noncomputable def fr0 (s:List UInt8):St U El:=⟨[(0,(.str s))],[]⟩
noncomputable def fr1 (s0:List UInt8):St U El:=⟨[(0,(.str s0))],[]⟩
noncomputable def fr2 (s0:List UInt8) (x5:List (List UInt8)) (x6:Int) (x7:Int):St U El:=⟨[(0,(.str s0)),(5,(.ful 5)),(6,(.int .i64 x6)),(7,(.int .i64 x7))],[(5,(.rows .str x5))]⟩
noncomputable def sh0 (s:List UInt8) (k2:Y2):R :=
 k2 s ([([62,61]:List UInt8),([60,61]:List UInt8),([58,61]:List UInt8)]:List (List UInt8)) (Int.ofNat (List.length ([([62,61]:List UInt8),([60,61]:List UInt8),([58,61]:List UInt8)]:List (List UInt8)))) (0:Int)
noncomputable def sh1 (s0:List UInt8):R :=
 chk (inb (0:Int) (List.length s0)) (condB (ile (0:Int) (idxbZ ([45,43,58,44,59,47,61,40,41,60,62,42]:List UInt8) (Int.ofNat (UInt8.toNat (List.getD s0 0 0))))) (some ((.int .i64 (1:Int)),[])) (some ((.int .i64 (0:Int)),[])))
noncomputable def sh2 (s0:List UInt8) (x5:List (List UInt8)) (x6:Int) (x7:Int) (k1:Y1) (k2:Y2):R :=
 condB (ilt x7 x6) (chk (inb x7 (List.length x5)) (chk (nlt (Int.toNat x7) (List.length x5)) (chk (nle (List.length s0) 90000) (condB (preB s0 (List.getD x5 (Int.toNat x7) d_str)) (some ((.int .i64 (2:Int)),[])) (k2 s0 x5 x6 (IntKind.wrap .i64 (x7+(1:Int)))))))) (k1 s0)
noncomputable def it2 (Kb1:Kont U El) (n:Nat):Kont U El:=iter nm2 (fun st' K'=>exec X (cdp [1,0,1,0,0] bd) .d st' K' (Eblk 0 (cutK nm1 Kb1) (fun _ _=>none)) RR) n
noncomputable def ct1:Kont U El:=fun st=>exec X (cdp [1,1] bd) .d st RR (fun _ _=>none) RR
theorem P0 (s):exec X (cdp [] bd) (.seq none .d (.seq (some nm1) (.seq none .d (.block (.loop nm2 .d))) .d)) (fr0 s) RR (fun _ _=>none) RR=sh0 s (fun y0 y1 y2 y3=>(hid (it2 (hid ct1) 100000)) (fr2 y0 y1 y2 y3)):=by kernel_rfl
theorem P1 (s0):ct1 (fr1 s0)=sh1 s0:=by kernel_rfl
theorem P2 (s0 x5 x6 x7) (Kb1 Kb2:Kont U El):exec X (cdp [1,0,1,0,0] bd) .d (fr2 s0 x5 x6 x7) (cutK nm2 Kb2) (Eblk 0 (cutK nm1 Kb1) (fun _ _=>none)) RR=sh2 s0 x5 x6 x7 (fun y0=>Kb1 (fr1 y0)) (fun y0 y1 y2 y3=>Kb2 (fr2 y0 y1 y2 y3)):=by kernel_rfl
noncomputable def f1 (s0:List UInt8):R:=sh1 s0
noncomputable def f2:Nat→Y2
 | 0=>fun _ _ _ _=>none
 | n+1=>fun s0 x5 x6 x7=>sh2 s0 x5 x6 x7 f1 (f2 n)
noncomputable def f0 (s:List UInt8):R:=sh0 s (f2 100000)
theorem T1 (s0):(hid ct1) (fr1 s0)=f1 s0:=by
 refine (congrFun (hid_eq _) _).trans <| (P1 s0).trans ?_
 show _=sh1 s0
 rfl
theorem T2:∀ (n:Nat),∀ s0 x5 x6 x7,it2 (hid ct1) n (fr2 s0 x5 x6 x7)=f2 n s0 x5 x6 x7:=by
  intro n
  induction n with
  | zero=>intros; rfl
  | succ n ih =>
    intro s0 x5 x6 x7
    refine (P2 s0 x5 x6 x7 (hid ct1) (it2 (hid ct1) n)).trans ?_
    show _=sh2 s0 x5 x6 x7 f1 (f2 n)
    simp only [T1,ih]
theorem H2 (s0 x5 x6 x7):hid (it2 (hid ct1) 100000) (fr2 s0 x5 x6 x7)=f2 100000 s0 x5 x6 x7:=(congrFun (hid_eq _) _).trans (T2 100000 s0 x5 x6 x7)
theorem T0 (s):exec X bd (.seq none .d (.seq (some nm1) (.seq none .d (.block (.loop nm2 .d))) .d)) (fr0 s) RR (fun _ _=>none) RR=f0 s:=by
 refine (P0 s).trans ?_
 show _=sh0 s (f2 100000)
 simp only [H2]
theorem run (s):runFn X bd (.seq none .d (.seq (some nm1) (.seq none .d (.block (.loop nm2 .d))) .d)) nmR [2] [] [(.str s)]=f0 s:=T0 s
theorem f0_eq (s:List UInt8) (h:(nle (List.length s) 90000&&nlt 0 (List.length s))=true):f0 s=some (.int .i64 (symD s),[]):=by
 rw [Bool.and_eq_true] at h
 have hs:inb (0:Int) s.length=true:=inb0 (of_decide_eq_true h.2)
 have e1:f1 s=condB (ile (0:Int) (idxbZ ([45,43,58,44,59,47,61,40,41,60,62,42]:List UInt8) (byI (List.getD s 0 0)))) (some ((.int .i64 (1:Int)),[])) (some ((.int .i64 (0:Int)),[])):=by
  show sh1 s=_
  unfold sh1
  rw [hs]
  rfl
 have step:∀ (n:Nat) (i:Nat) (x:List UInt8) (X:List (List UInt8)),X[i]? = some x→i < X.length→i < 10→f2 (n+1) s X (Int.ofNat X.length) (i:Int)=condB (preB s x) (some ((.int .i64 (2:Int)),[])) (f2 n s X (Int.ofNat X.length) ((i+1:Nat):Int)):=fun n i x X hx hi h10=>by
  show sh2 s X (Int.ofNat X.length) (i:Int) f1 (f2 n)=_
  unfold sh2
  rw [iltT (by simp; omega),inbT hi,toNat_nat,nltT hi,h.1,getD_lt hi,wrapS i (by omega)]
  have:X[i]=x:=by rw [List.getElem?_eq_getElem hi] at hx; exact Option.some.inj hx
  rw [this]
  rfl
 have last:∀ (n:Nat) (X:List (List UInt8)),f2 (n+1) s X (Int.ofNat X.length) ((X.length:Nat):Int)=f1 s:=fun n X=>by
  show sh2 s X (Int.ofNat X.length) (X.length:Int) f1 (f2 n)=_
  unfold sh2
  rw [iltF (by simp)]
  rfl
 show f2 100000 s [[62,61],[60,61],[58,61]] (Int.ofNat 3) ((0:Nat):Int)=_
 have s0:=step 99999 0 [62,61] [[62,61],[60,61],[58,61]] rfl (by decide) (by decide)
 have s1:=step 99998 1 [60,61] [[62,61],[60,61],[58,61]] rfl (by decide) (by decide)
 have s2:=step 99997 2 [58,61] [[62,61],[60,61],[58,61]] rfl (by decide) (by decide)
 have s3:=last 99996 [[62,61],[60,61],[58,61]]
 refine s0.trans ?_
 rw [s1,s2]
 show condB _ _ (condB _ _ (condB _ _ (f2 (99996+1) s [[62,61],[60,61],[58,61]] (Int.ofNat [[62,61],[60,61],[58,61]].length) _)))=_
 refine Eq.trans (congrArg (fun z=>condB _ _ (condB _ _ (condB _ _ z))) s3) ?_
 rw [e1]
 unfold symD symN
 cases preB s [62,61]<;>cases preB s [60,61]<;>cases preB s [58,61]<;>cases ile (0:Int) (idxbZ ([45,43,58,44,59,47,61,40,41,60,62,42]:List UInt8) (byI (List.getD s 0 0)))<;>rfl
theorem ok:CtxOk Tryz.prog X:=ctxOk tab (spC idxb.spOk (spC hasPre.spOk spN)) dpN
theorem okM:MOk Tryz.prog X:=fun g sp h=>by cases h
theorem spec (s:List UInt8) (h:((nle (List.length s) 90000&&nlt 0 (List.length s)))=true):CallSpec Tryz.prog E 85 [(.str s)] (.int .i64 (symD s)) [] :=
 rfs ok okM Tryz.call85 Tryz.func85 ((run s).trans (f0_eq s h))
noncomputable def sp:Sp U El:=fun args k=>match args with
 | [.str s]=>chk ((nle (List.length s) 90000&&nlt 0 (List.length s))) (k (.int .i64 (symD s)) [])
 | _=>none
theorem spOk:SpOk Tryz.prog E 85 sp:=⟨fun vs=>by unfold sp;split;exact det_c _ _ _;exact ⟨none,fun _=>rfl⟩,fun vs k r h=>by unfold sp at h;split at h;(obtain ⟨h1,h2⟩:=chk_some h;exact ⟨_,_,spec _ h1,h2⟩);cases h⟩
end symbol
end Go.Proofs.YtlkfbblapimhoaaGreatDoor
namespace Go.Proofs.YtlkfbblapimhoaaGreatDoor
set_option linter.all false
set_option maxRecDepth 100000
noncomputable def outTK (out:List Tok) (r:TR):R:=condB r.bad (some (.tup [.lst .tok [],.agg [.int .i64 r.pl,.int .i64 r.pc],.int .i64 7],[])) (some (.tup [.lst .tok (out++r.l),.agg [.int .i64 0,.int .i64 0],.int .i64 0],[]))
theorem outTK_cons (out:List Tok) (t:Tok) (r:TR):outTK out (r.cons t)=outTK (out++[t]) r:=by
 unfold outTK TR.cons
 simp
theorem kindN_le (b : UInt8) (s : List UInt8) : (kindN (b :: s)).2 ≤ (b :: s).length ∧ 0 < (kindN (b :: s)).2 := by
  have hn:(b :: s)≠[]:=by simp
  unfold kindN
  have hg:List.getD (b :: s) 0 0=b:=rfl
  rw [hg]
  dsimp only
  have len1:1≤(b :: s).length:=by simp
  cases h1:(byI b == 32||byI b == 9) with
  | true=>exact ⟨len1,Nat.one_pos⟩
  | false =>
    cases h2:byI b == 10 with
    | true=>exact ⟨len1,Nat.one_pos⟩
    | false =>
      cases h3:byI b == 35 with
      | true =>
        refine ⟨comN_le _,?_⟩
        have:b≠10:=fun e=>by rw [e] at h3; exact absurd h3 (by decide)
        show 0 < comN (b :: s)
        unfold comN
        rw [show (b == 10)=false from beq_eq_false_iff_ne.2 this]
        simp
      | false =>
        cases h4:letterB (byI b) with
        | true =>
          cases h5:ilt 20 (wordD (b :: s)) with
          | true=>exact ⟨len1,Nat.one_pos⟩
          | false =>
            refine ⟨wordN_le _,?_⟩
            show 0 < wordN (b :: s)
            unfold wordN bodyB
            rw [show letterB (Int.ofNat b.toNat)=true from h4]
            simp
        | false =>
          cases h5:digitB (byI b) with
          | true =>
            refine ⟨numeralN_le _,?_⟩
            show 0 < numeralN (b :: s)
            have:0 < digN (b :: s):=by unfold digN; rw [h5]; simp
            unfold numeralN
            cases fracB ((b :: s).drop (digN (b :: s)))<;>simp<;>omega
          | false =>
            cases h6:symN (b :: s) == 0 with
            | true=>exact ⟨len1,Nat.one_pos⟩
            | false =>
              have:=beq_eq_false_iff_ne.1 h6
              exact ⟨symN_le _ hn,Nat.pos_of_ne_zero this⟩
theorem idx_com : ∀ s : List UInt8, (idxbZ s 10 = -1 ∧ comN s = s.length) ∨ (idxbZ s 10 = Int.ofNat (comN s) ∧ comN s < s.length) := by
  intro s
  show (Lib.indexByte s 10 = -1∧_)∨(Lib.indexByte s 10=_∧_)
  induction s with
  | nil=>exact .inl ⟨rfl,rfl⟩
  | cons b s ih =>
    unfold Lib.indexByte comN
    cases hb:b == 10 with
    | true=>exact .inr ⟨rfl,by simp⟩
    | false =>
      rcases ih with ⟨h1,h2⟩ | ⟨h1,h2⟩
      · left
        rw [h1]
        exact ⟨rfl,by simp [h2]⟩
      · right
        rw [h1]
        have:(Int.ofNat (comN s) == -1)=false:=by simp
        rw [this]
        exact ⟨by simp,by simp; exact h2⟩
namespace tokens
noncomputable def bd:Code:=(Tryz.f42.body).getD .skip
noncomputable def X:Ctx U El:=⟨E,tds,zeros,eqs,specOf [(80,idxb.sp),(81,letter.sp),(82,word.sp),(83,digit.sp),(84,numeral.sp),(85,symbol.sp)],100000,92,dspecOf [],fun _=>none,fun _=>none⟩
noncomputable def nmR:Norm U:=⟨[],[2,92,4],[],[(2,.tok)],[],[],[]⟩
noncomputable def RR:Kont U El:=fun st=>loadRes X 92 [(3,29)] 92 st fun st=>normK nmR st (retFin [2,92,4] [])
noncomputable def nm1:Norm U:=⟨[(5,.tok)],[3,5,6],[5,3,6],[],[],[],[]⟩
noncomputable def nm2:Norm U:=⟨[(5,.tok)],[0,3,5,6],[5,3,6],[],[],[],[]⟩
noncomputable def nm3:Norm U:=⟨[(5,.tok)],[0,3,5,6,7,8],[5,3,6],[],[],[],[]⟩
noncomputable def nm4:Norm U:=⟨[(5,.tok)],[0,3,5,6,8],[5,3,6],[],[],[],[]⟩
abbrev Y1:=(List Tok)→Int→Int→Int→Int→R
abbrev Y2:=(List UInt8)→(List Tok)→Int→Int→Int→Int→R
abbrev Y3:=(List UInt8)→(List Tok)→Int→Int→Int→Int→Int→Int→R
abbrev Y4:=(List UInt8)→(List Tok)→Int→Int→Int→Int→Int→R
noncomputable def fr0 (s:List UInt8):St U El:=⟨[(0,(.str s))],[]⟩
noncomputable def fr1 (cA:List Tok) (dA:Int) (eA:Int) (aA:Int) (bA:Int):St U El:=⟨[(3,(.ptr 3 0)),(5,(.ful 5)),(6,(.ptr 6 0))],[(5,(.rows .tok cA)),(3,(.box 0 [(.int .i64 dA),(.int .i64 eA)])),(6,(.box 0 [(.int .i64 aA),(.int .i64 bA)]))]⟩
noncomputable def fr2 (s0:List UInt8) (cA:List Tok) (dA:Int) (eA:Int) (aA:Int) (bA:Int):St U El:=⟨[(0,(.str s0)),(3,(.ptr 3 0)),(5,(.ful 5)),(6,(.ptr 6 0))],[(5,(.rows .tok cA)),(3,(.box 0 [(.int .i64 dA),(.int .i64 eA)])),(6,(.box 0 [(.int .i64 aA),(.int .i64 bA)]))]⟩
noncomputable def fr3 (s0:List UInt8) (cA:List Tok) (fA:Int) (n8:Int) (dA:Int) (eA:Int) (aA:Int) (bA:Int):St U El:=⟨[(0,(.str s0)),(3,(.ptr 3 0)),(5,(.ful 5)),(6,(.ptr 6 0)),(7,(.int .i64 fA)),(8,(.int .i64 n8))],[(5,(.rows .tok cA)),(3,(.box 0 [(.int .i64 dA),(.int .i64 eA)])),(6,(.box 0 [(.int .i64 aA),(.int .i64 bA)]))]⟩
noncomputable def fr4 (s0:List UInt8) (cA:List Tok) (n8:Int) (dA:Int) (eA:Int) (aA:Int) (bA:Int):St U El:=⟨[(0,(.str s0)),(3,(.ptr 3 0)),(5,(.ful 5)),(6,(.ptr 6 0)),(8,(.int .i64 n8))],[(5,(.rows .tok cA)),(3,(.box 0 [(.int .i64 dA),(.int .i64 eA)])),(6,(.box 0 [(.int .i64 aA),(.int .i64 bA)]))]⟩
noncomputable def sh0 (s:List UInt8) (k2:Y2):R :=
 condB (ilt (262144:Int) (Int.ofNat (List.length s))) (some ((.tup [(.lst .tok ([]:List Tok)),(.agg [(.int .i64 (0:Int)),(.int .i64 (0:Int))]),(.int .i64 (4:Int))]),[])) (k2 s ([]:List Tok) (0:Int) (0:Int) (1:Int) (1:Int))
noncomputable def sh1 (cA:List Tok) (dA:Int) (eA:Int) (aA:Int) (bA:Int):R :=
 chk (nle ((List.length cA+List.length ([(⟨(5:Int),([]:List UInt8),aA,bA⟩:Tok)]:List Tok)) * 40) 140737488355328&&nle (List.length cA+List.length ([(⟨(5:Int),([]:List UInt8),aA,bA⟩:Tok)]:List Tok)) 9223372036854775807) (some ((.tup [(.lst .tok (cA++([(⟨(5:Int),([]:List UInt8),aA,bA⟩:Tok)]:List Tok))),(.agg [(.int .i64 (0:Int)),(.int .i64 (0:Int))]),(.int .i64 (0:Int))]),[]))
noncomputable def sh2 (s0:List UInt8) (cA:List Tok) (dA:Int) (eA:Int) (aA:Int) (bA:Int) (k1:Y1) (k2:Y2) (k3:Y3):R :=
 condB (!(s0 == ([]:List UInt8))) (chk (inb (0:Int) (List.length s0)) (condB ((Int.ofNat (UInt8.toNat (List.getD s0 0 0))) == (32:Int)) (k3 s0 cA (0:Int) (1:Int) dA eA aA bA) (condB ((Int.ofNat (UInt8.toNat (List.getD s0 0 0))) == (9:Int)) (k3 s0 cA (0:Int) (1:Int) dA eA aA bA) (condB ((Int.ofNat (UInt8.toNat (List.getD s0 0 0))) == (10:Int)) (chk (nle ((List.length cA+List.length ([(⟨(4:Int),([]:List UInt8),aA,bA⟩:Tok)]:List Tok)) * 40) 140737488355328&&nle (List.length cA+List.length ([(⟨(4:Int),([]:List UInt8),aA,bA⟩:Tok)]:List Tok)) 9223372036854775807) (chk (ile 0 (1:Int)&&ile (1:Int) (Int.ofNat (List.length s0))&&ile (Int.ofNat (List.length s0)) (Int.ofNat (List.length s0))) (k2 (sub s0 (1:Int) (Int.ofNat (List.length s0))) (cA++([(⟨(4:Int),([]:List UInt8),aA,bA⟩:Tok)]:List Tok)) dA eA (IntKind.wrap .i64 (aA+(1:Int))) (1:Int)))) (condB ((Int.ofNat (UInt8.toNat (List.getD s0 0 0))) == (35:Int)) (condB (ilt (idxbZ s0 (10:Int)) (0:Int)) (k3 s0 cA (0:Int) (Int.ofNat (List.length s0)) dA eA aA bA) (k3 s0 cA (0:Int) (idxbZ s0 (10:Int)) dA eA aA bA)) (condB (letterB (Int.ofNat (UInt8.toNat (List.getD s0 0 0)))) (chk (nle (List.length s0) 90000) (condB (ilt (20:Int) (wordD s0)) (some ((.tup [(.lst .tok ([]:List Tok)),(.agg [(.int .i64 aA),(.int .i64 bA)]),(.int .i64 (7:Int))]),[])) (k3 s0 cA (1:Int) (wordD s0) dA eA aA bA))) (condB (digitB (Int.ofNat (UInt8.toNat (List.getD s0 0 0)))) (chk (nle (List.length s0) 90000) (k3 s0 cA (2:Int) (numeralD s0) dA eA aA bA)) (chk ((nle (List.length s0) 90000&&nlt 0 (List.length s0))) (condB ((symD s0) == (0:Int)) (some ((.tup [(.lst .tok ([]:List Tok)),(.agg [(.int .i64 aA),(.int .i64 bA)]),(.int .i64 (7:Int))]),[])) (k3 s0 cA (3:Int) (symD s0) dA eA aA bA)))))))))) (k1 cA dA eA aA bA)
noncomputable def sh3 (s0:List UInt8) (cA:List Tok) (fA:Int) (n8:Int) (dA:Int) (eA:Int) (aA:Int) (bA:Int) (k4:Y4):R :=
 condB (fA != (0:Int)) (chk (ile 0 (0:Int)&&ile (0:Int) n8&&ile n8 (Int.ofNat (List.length s0))) (chk (nle ((List.length cA+List.length ([(⟨fA,(sub s0 (0:Int) n8),aA,bA⟩:Tok)]:List Tok)) * 40) 140737488355328&&nle (List.length cA+List.length ([(⟨fA,(sub s0 (0:Int) n8),aA,bA⟩:Tok)]:List Tok)) 9223372036854775807) (k4 s0 (cA++([(⟨fA,(sub s0 (0:Int) n8),aA,bA⟩:Tok)]:List Tok)) n8 dA eA aA bA))) (k4 s0 cA n8 dA eA aA bA)
noncomputable def sh4 (s0:List UInt8) (cA:List Tok) (n8:Int) (dA:Int) (eA:Int) (aA:Int) (bA:Int) (k2:Y2):R :=
 chk (ile 0 n8&&ile n8 (Int.ofNat (List.length s0))&&ile (Int.ofNat (List.length s0)) (Int.ofNat (List.length s0))) (k2 (sub s0 n8 (Int.ofNat (List.length s0))) cA dA eA aA (IntKind.wrap .i64 (bA+n8)))
noncomputable def it2 (Kb1:Kont U El) (n:Nat):Kont U El:=iter nm2 (fun st' K'=>exec X (cdp [1,1,1,1,0,0,0] bd) (.seq none .d (.block (.seq none .d (.seq (some nm3) (.seq none .d (.block (.seq none .d (.cond .d (.seq none .d (.cond (.seq none .d (.seq none (.region [(7,6)]) .d)) (.seq none .d (.cond .d (.seq none .d (.cond (.seq none .d (.seq none .d (.cond (.seq none (.region [(2,3)]) .d) .d))) (.seq none .d (.cond .d (.seq none .d (.seq none .d (.cond (.seq none (.region [(2,3)]) .d) .d))))))))))))))) (.seq (some nm4) (.seq none .d (.cond (.region [(8,5)]) .d)) .d))))) st' K' (Eblk 0 (cutK nm1 Kb1) (fun _ _=>none)) RR) n
noncomputable def ct1:Kont U El:=fun st=>exec X (cdp [1,1,1,1,1] bd) .d st RR (fun _ _=>none) RR
noncomputable def ct3 (Kb1 Kb2:Kont U El):Kont U El:=fun st=>exec X (cdp [1,1,1,1,0,0,0,1,0,1,1] bd) (.seq (some nm4) (.seq none .d (.cond (.region [(8,5)]) .d)) .d) st (cutK nm2 Kb2) (Eblk 1 (cutK nm2 Kb2) (Eblk 0 (cutK nm1 Kb1) (fun _ _=>none))) RR
noncomputable def ct4 (Kb1 Kb2:Kont U El):Kont U El:=fun st=>exec X (cdp [1,1,1,1,0,0,0,1,0,1,1,1] bd) .d st (cutK nm2 Kb2) (Eblk 1 (cutK nm2 Kb2) (Eblk 0 (cutK nm1 Kb1) (fun _ _=>none))) RR
theorem P0 (s):exec X (cdp [] bd) (.seq none .d (.seq none .d (.seq none .d (.seq none .d (.seq (some nm1) (.block (.loop nm2 (.seq none .d (.block (.seq none .d (.seq (some nm3) (.seq none .d (.block (.seq none .d (.cond .d (.seq none .d (.cond (.seq none .d (.seq none (.region [(7,6)]) .d)) (.seq none .d (.cond .d (.seq none .d (.cond (.seq none .d (.seq none .d (.cond (.seq none (.region [(2,3)]) .d) .d))) (.seq none .d (.cond .d (.seq none .d (.seq none .d (.cond (.seq none (.region [(2,3)]) .d) .d))))))))))))))) (.seq (some nm4) (.seq none .d (.cond (.region [(8,5)]) .d)) .d))))))) .d))))) (fr0 s) RR (fun _ _=>none) RR=sh0 s (fun y0 y1 y2 y3 y4 y5=>(hid (it2 (hid ct1) 100000)) (fr2 y0 y1 y2 y3 y4 y5)):=by kernel_rfl
theorem P1 (cA dA eA aA bA):ct1 (fr1 cA dA eA aA bA)=sh1 cA dA eA aA bA:=by kernel_rfl
theorem P2 (s0 cA dA eA aA bA) (Kb1 Kb2:Kont U El):exec X (cdp [1,1,1,1,0,0,0] bd) (.seq none .d (.block (.seq none .d (.seq (some nm3) (.seq none .d (.block (.seq none .d (.cond .d (.seq none .d (.cond (.seq none .d (.seq none (.region [(7,6)]) .d)) (.seq none .d (.cond .d (.seq none .d (.cond (.seq none .d (.seq none .d (.cond (.seq none (.region [(2,3)]) .d) .d))) (.seq none .d (.cond .d (.seq none .d (.seq none .d (.cond (.seq none (.region [(2,3)]) .d) .d))))))))))))))) (.seq (some nm4) (.seq none .d (.cond (.region [(8,5)]) .d)) .d))))) (fr2 s0 cA dA eA aA bA) (cutK nm2 Kb2) (Eblk 0 (cutK nm1 Kb1) (fun _ _=>none)) RR=sh2 s0 cA dA eA aA bA (fun y0 y1 y2 y3 y4=>Kb1 (fr1 y0 y1 y2 y3 y4)) (fun y0 y1 y2 y3 y4 y5=>Kb2 (fr2 y0 y1 y2 y3 y4 y5)) (fun y0 y1 y2 y3 y4 y5 y6 y7=>(hid (ct3 Kb1 Kb2)) (fr3 y0 y1 y2 y3 y4 y5 y6 y7)):=by kernel_rfl
theorem P3 (s0 cA fA n8 dA eA aA bA) (Kb1 Kb2:Kont U El):ct3 Kb1 Kb2 (fr3 s0 cA fA n8 dA eA aA bA)=sh3 s0 cA fA n8 dA eA aA bA (fun y0 y1 y2 y3 y4 y5 y6=>(hid (ct4 Kb1 Kb2)) (fr4 y0 y1 y2 y3 y4 y5 y6)):=by kernel_rfl
theorem P4 (s0 cA n8 dA eA aA bA) (Kb1 Kb2:Kont U El):ct4 Kb1 Kb2 (fr4 s0 cA n8 dA eA aA bA)=sh4 s0 cA n8 dA eA aA bA (fun y0 y1 y2 y3 y4 y5=>Kb2 (fr2 y0 y1 y2 y3 y4 y5)):=by kernel_rfl
noncomputable def f1 (cA:List Tok) (dA:Int) (eA:Int) (aA:Int) (bA:Int):R:=sh1 cA dA eA aA bA
noncomputable def f4 (k2:Y2) (s0:List UInt8) (cA:List Tok) (n8:Int) (dA:Int) (eA:Int) (aA:Int) (bA:Int):R:=sh4 s0 cA n8 dA eA aA bA k2
noncomputable def f3 (k2:Y2) (s0:List UInt8) (cA:List Tok) (fA:Int) (n8:Int) (dA:Int) (eA:Int) (aA:Int) (bA:Int):R:=sh3 s0 cA fA n8 dA eA aA bA (f4 k2)
noncomputable def f2:Nat→Y2
 | 0=>fun _ _ _ _ _ _=>none
 | n+1=>fun s0 cA dA eA aA bA=>sh2 s0 cA dA eA aA bA f1 (f2 n) (f3 (f2 n))
noncomputable def f0 (s:List UInt8):R:=sh0 s (f2 100000)
theorem T1 (cA dA eA aA bA):(hid ct1) (fr1 cA dA eA aA bA)=f1 cA dA eA aA bA:=by
 refine (congrFun (hid_eq _) _).trans <| (P1 cA dA eA aA bA).trans ?_
 show _=sh1 cA dA eA aA bA
 rfl
theorem T4 (KL2:Kont U El) (k2:Y2) (h2:∀ s0 cA dA eA aA bA,KL2 (fr2 s0 cA dA eA aA bA)=k2 s0 cA dA eA aA bA) (s0 cA n8 dA eA aA bA):(hid (ct4 (hid ct1) KL2)) (fr4 s0 cA n8 dA eA aA bA)=f4 k2 s0 cA n8 dA eA aA bA:=by
 refine (congrFun (hid_eq _) _).trans <| (P4 s0 cA n8 dA eA aA bA (hid ct1) KL2).trans ?_
 show _=sh4 s0 cA n8 dA eA aA bA k2
 simp only [h2]
theorem T3 (KL2:Kont U El) (k2:Y2) (h2:∀ s0 cA dA eA aA bA,KL2 (fr2 s0 cA dA eA aA bA)=k2 s0 cA dA eA aA bA) (s0 cA fA n8 dA eA aA bA):(hid (ct3 (hid ct1) KL2)) (fr3 s0 cA fA n8 dA eA aA bA)=f3 k2 s0 cA fA n8 dA eA aA bA:=by
 refine (congrFun (hid_eq _) _).trans <| (P3 s0 cA fA n8 dA eA aA bA (hid ct1) KL2).trans ?_
 show _=sh3 s0 cA fA n8 dA eA aA bA (f4 k2)
 simp only [T4 KL2 k2 h2]
theorem T2:∀ (n:Nat),∀ s0 cA dA eA aA bA,it2 (hid ct1) n (fr2 s0 cA dA eA aA bA)=f2 n s0 cA dA eA aA bA:=by
  intro n
  induction n with
  | zero=>intros; rfl
  | succ n ih =>
    intro s0 cA dA eA aA bA
    refine (P2 s0 cA dA eA aA bA (hid ct1) (it2 (hid ct1) n)).trans ?_
    show _=sh2 s0 cA dA eA aA bA f1 (f2 n) (f3 (f2 n))
    simp only [T1,ih,T3 (it2 (hid ct1) n) (f2 n) ih]
theorem H2 (s0 cA dA eA aA bA):hid (it2 (hid ct1) 100000) (fr2 s0 cA dA eA aA bA)=f2 100000 s0 cA dA eA aA bA:=(congrFun (hid_eq _) _).trans (T2 100000 s0 cA dA eA aA bA)
theorem T0 (s):exec X bd (.seq none .d (.seq none .d (.seq none .d (.seq none .d (.seq (some nm1) (.block (.loop nm2 (.seq none .d (.block (.seq none .d (.seq (some nm3) (.seq none .d (.block (.seq none .d (.cond .d (.seq none .d (.cond (.seq none .d (.seq none (.region [(7,6)]) .d)) (.seq none .d (.cond .d (.seq none .d (.cond (.seq none .d (.seq none .d (.cond (.seq none (.region [(2,3)]) .d) .d))) (.seq none .d (.cond .d (.seq none .d (.seq none .d (.cond (.seq none (.region [(2,3)]) .d) .d))))))))))))))) (.seq (some nm4) (.seq none .d (.cond (.region [(8,5)]) .d)) .d))))))) .d))))) (fr0 s) RR (fun _ _=>none) RR=f0 s:=by
 refine (P0 s).trans ?_
 show _=sh0 s (f2 100000)
 simp only [H2]
theorem run (s):runFnC X bd (.seq none .d (.seq none .d (.seq none .d (.seq none .d (.seq (some nm1) (.block (.loop nm2 (.seq none .d (.block (.seq none .d (.seq (some nm3) (.seq none .d (.block (.seq none .d (.cond .d (.seq none .d (.cond (.seq none .d (.seq none (.region [(7,6)]) .d)) (.seq none .d (.cond .d (.seq none .d (.cond (.seq none .d (.seq none .d (.cond (.seq none (.region [(2,3)]) .d) .d))) (.seq none .d (.cond .d (.seq none .d (.seq none .d (.cond (.seq none (.region [(2,3)]) .d) .d))))))))))))))) (.seq (some nm4) (.seq none .d (.cond (.region [(8,5)]) .d)) .d))))))) .d))))) nmR [(3,29)] [2,92,4] [] [(.str s)]=f0 s:=T0 s
theorem f3_eq (n:Nat) (s:List UInt8) (out:List Tok) (k:Int) (m:Nat) (a b l c:Int) (hs:s.length≤90000) (hm:m≤s.length) (hc:0≤c) (hc2:c+s.length≤100000) (ho:out.length≤100000) :
  f3 (f2 n) s out k (Int.ofNat m) a b l c=bif k == 0 then f2 n (s.drop m) out a b l (c+Int.ofNat m) else f2 n (s.drop m) (out++[⟨k,s.take m,l,c⟩]) a b l (c+Int.ofNat m):=by
 have h4:∀ o,f4 (f2 n) s o (Int.ofNat m) a b l c=f2 n (s.drop m) o a b l (c+Int.ofNat m):=fun o=>by
  show sh4 s o (Int.ofNat m) a b l c (f2 n)=_
  unfold sh4
  rw [ileT (show (0:Int)≤Int.ofNat m by simp),ileT (show Int.ofNat m≤Int.ofNat s.length by simp; omega),ileT (show Int.ofNat s.length≤Int.ofNat s.length from Int.le_refl _),wrapI (by simp; omega) (by simp; omega)]
  simp only [Bool.and_self,chkT]
  have:sub s (Int.ofNat m) (Int.ofNat s.length)=s.drop m:=by
   unfold sub
   show List.take (s.length - m) (List.drop m s)=List.drop m s
   exact List.take_of_length_le (by simp)
  rw [this]
 show sh3 s out k (Int.ofNat m) a b l c (f4 (f2 n))=_
 unfold sh3
 rw [h4,h4,ileT (show (0:Int)≤0 from Int.le_refl _),ileT (show (0:Int)≤Int.ofNat m by simp),ileT (show Int.ofNat m≤Int.ofNat s.length by simp; omega),nleT (by simp; omega),nleT (by simp; omega)]
 simp only [Bool.and_self,chkT]
 have:sub s 0 (Int.ofNat m)=s.take m:=by
  unfold sub
  simp
 rw [this]
 have hb:(k != (0:Int)) = !(k == 0):=rfl
 rw [hb]
 cases k == 0<;>rfl
theorem loop : ∀ (m n : Nat) (s : List UInt8) (out : List Tok) (a b l c : Int), s.length < m → m ≤ n → s.length ≤ 90000 → 0 ≤ l → l + s.length ≤ 100000 → 0 ≤ c → c + s.length ≤ 100000 → out.length + s.length ≤ 99999 → f2 n s out a b l c = outTK out (tokR m s l c) := by
  intro m
  induction m with
  | zero=>intro n s out a b l c h; omega
  | succ m ih =>
    intro n s out a b l c h1 h2 h3 h4 h5 h6 h7 h8
    obtain ⟨n,rfl⟩:∃ n',n=n'+1:=⟨n - 1,by omega⟩
    show sh2 s out a b l c f1 (f2 n) (f3 (f2 n))=_
    unfold sh2
    cases s with
    | nil =>
      show sh1 out a b l c=_
      unfold sh1
      rw [nleT (by simp; omega),nleT (by simp; omega)]
      rfl
    | cons x r =>
      obtain ⟨hk1,hk2⟩:=kindN_le x r
      have hx:(x :: r == ([]:List UInt8))=false:=rfl
      rw [hx,inb0 (by simp)]
      simp only [Bool.not_false,condT,chkT]
      have hg:List.getD (x :: r) 0 0=x:=rfl
      rw [hg]
      have go:∀ (k:Int) (q:Nat),kindN (x :: r)=(k,q)→0≤k→k≠4→f3 (f2 n) (x :: r) out k (Int.ofNat q) a b l c=outTK out (tokR (m+1) (x :: r) l c):=fun k q hq hk hk4=>by
        rw [hq] at hk1 hk2
        simp only at hk1 hk2
        rw [f3_eq n (x :: r) out k q a b l c h3 hk1 h6 h7 (by omega)]
        unfold tokR
        rw [hq]
        simp only
        rw [iltF (by omega),show (k == 4)=false from beq_eq_false_iff_ne.2 hk4]
        have hd:((x :: r).drop q).length=(x :: r).length - q:=List.length_drop
        cases hk0:k == 0 with
        | true =>
          simp only [cond_true,cond_false]
          exact ih n _ out a b l _ (by omega) (by omega) (by omega) h4 (by omega) (by simp; omega) (by simp only [Int.ofNat_eq_natCast]; omega) (by omega)
        | false =>
          simp only [cond_true,cond_false]
          rw [outTK_cons]
          exact ih n _ _ a b l _ (by omega) (by omega) (by omega) h4 (by omega) (by simp; omega) (by simp only [Int.ofNat_eq_natCast]; omega) (by simp only [List.length_append,List.length_singleton]; omega)
      have bad:∀ q,kindN (x :: r)=(-1,q)→(some (.tup [.lst .tok [],.agg [.int .i64 l,.int .i64 c],.int .i64 7],[]):R)=outTK out (tokR (m+1) (x :: r) l c):=fun q hq=>by
        unfold tokR
        rw [hq]
        rfl
      have hkd:kindN (x :: r)=bif byI x == 32||byI x == 9 then (0,1) else bif byI x == 10 then (4,1) else bif byI x == 35 then (0,comN (x :: r)) else bif letterB (byI x) then (bif ilt 20 (wordD (x :: r)) then (-1,1) else (1,wordN (x :: r))) else bif digitB (byI x) then (2,numeralN (x :: r)) else bif symN (x :: r) == 0 then (-1,1) else (3,symN (x :: r)):=rfl
      cases q1:byI x == 32
      · cases q2 : byI x == 9
        · rw [q1, q2] at hkd
          simp only [Bool.or_self,cond_false] at hkd
          simp only [condF]
          cases q3:byI x == 10
          · rw [q3] at hkd
            simp only [cond_false,condF] at hkd ⊢
            cases q4:byI x == 35
            · rw [q4] at hkd
              simp only [cond_false,condF] at hkd ⊢
              cases q5:letterB (byI x)
              · rw [q5] at hkd
                simp only [cond_false,condF] at hkd ⊢
                cases q6:digitB (byI x)
                · rw [q6] at hkd
                  simp only [cond_false,condF] at hkd ⊢
                  rw [nleT h3,nltT (by simp)]
                  simp only [Bool.and_self,chkT]
                  have hz:(symD (x :: r) == (0:Int))=(symN (x :: r) == 0):=by unfold symD; rw [Bool.eq_iff_iff]; simp
                  rw [hz]
                  cases q7:symN (x :: r) == 0
                  · rw [q7] at hkd
                    exact go 3 _ hkd (by decide) (by decide)
                  · rw [q7] at hkd
                    exact bad _ hkd
                · rw [q6] at hkd
                  simp only [cond_true,condT] at hkd ⊢
                  rw [nleT h3]
                  exact go 2 _ hkd (by decide) (by decide)
              · rw [q5] at hkd
                simp only [cond_true,condT] at hkd ⊢
                rw [nleT h3]
                simp only [chkT]
                cases q7:ilt (20:Int) (wordD (x :: r))
                · rw [q7] at hkd
                  exact go 1 _ hkd (by decide) (by decide)
                · rw [q7] at hkd
                  exact bad _ hkd
            · rw [q4] at hkd
              simp only [cond_true,condT] at hkd ⊢
              have hgo:=go 0 _ hkd (by decide) (by decide)
              rcases idx_com (x :: r) with ⟨e1,e2⟩ | ⟨e1,e2⟩
              · rw [e1, iltT (by decide)]
                rw [e2] at hgo
                exact hgo
              · rw [e1, iltF (by simp)]
                exact hgo
          · rw [q3] at hkd
            simp only [cond_true,condT] at hkd ⊢
            rw [nleT (by simp; omega),nleT (by simp; omega),ileT (show (0:Int)≤1 by decide),ileT (show (1:Int)≤Int.ofNat (x :: r).length by simp; omega),ileT (show Int.ofNat (x :: r).length≤Int.ofNat (x :: r).length from Int.le_refl _),wrapI (by omega) (by omega)]
            simp only [Bool.and_self,chkT]
            have:sub (x :: r) 1 (Int.ofNat (x :: r).length)=r:=by
              unfold sub
              simp
            rw [this]
            unfold tokR
            rw [hkd]
            simp only
            rw [iltF (by decide)]
            simp only [cond_false,beq_self_eq_true,cond_true]
            rw [outTK_cons]
            simp only [List.length_cons] at h1 h3 h5 h7 h8
            exact ih n r _ a b _ _ (by omega) (by omega) (by omega) (by omega) (by omega) (by decide) (by omega) (by simp only [List.length_append,List.length_singleton]; omega)
        · rw [q1, q2] at hkd
          simp only [condF,condT]
          exact go 0 1 hkd (by decide) (by decide)
      · rw [q1] at hkd
        simp only [condT]
        exact go 0 1 hkd (by decide) (by decide)
theorem f0_eq (s:List UInt8) (h:nle (List.length s) 90000=true):f0 s=some (.tup [.lst .tok (tokL s),.agg [.int .i64 (tokP s).pl,.int .i64 (tokP s).pc],.int .i64 (tokE s)],[]):=by
 have hl:=nleI h
 show sh0 s (f2 100000)=_
 unfold sh0
 have hi:ilt (262144:Int) (Int.ofNat s.length)=false:=iltF (by simp; omega)
 rw [hi]
 simp only [condF]
 rw [loop (s.length+1) 100000 s [] 0 0 1 1 (by omega) (by omega) hl (by decide) (by omega) (by decide) (by omega) (by simp; omega)]
 have he:tokE s=bif (tokS s).bad then 7 else 0:=by unfold tokE; rw [hi]; rfl
 unfold tokL tokP
 rw [he]
 show outTK [] (tokS s)=_
 unfold outTK
 cases (tokS s).bad<;>rfl
theorem ok:CtxOk Tryz.prog X:=ctxOk tab (spC idxb.spOk (spC letter.spOk (spC word.spOk (spC digit.spOk (spC numeral.spOk (spC symbol.spOk spN)))))) dpN
theorem okM:MOk Tryz.prog X:=fun g sp h=>by cases h
theorem spec (s:List UInt8) (h:(nle (List.length s) 90000)=true):CallSpec Tryz.prog E 42 [(.str s)] (.tup [(.lst .tok (tokL s)),(.agg [(.int .i64 ((tokP s).pl)),(.int .i64 ((tokP s).pc))]),(.int .i64 (tokE s))]) [] :=
 runFnC_sound ok okM Tryz.call42 Tryz.func42 (by kernel_rfl) (by kernel_rfl) (by kernel_rfl) (by show 1≤92; decide) (by decide) (by rfl) ((run s).trans (f0_eq s h))
noncomputable def sp:Sp U El:=fun args k=>match args with
 | [.str s]=>chk (nle (List.length s) 90000) (k (.tup [(.lst .tok (tokL s)),(.agg [(.int .i64 ((tokP s).pl)),(.int .i64 ((tokP s).pc))]),(.int .i64 (tokE s))]) [])
 | _=>none
theorem spOk:SpOk Tryz.prog E 42 sp:=⟨fun vs=>by unfold sp;split;exact det_c _ _ _;exact ⟨none,fun _=>rfl⟩,fun vs k r h=>by unfold sp at h;split at h;(obtain ⟨h1,h2⟩:=chk_some h;exact ⟨_,_,spec _ h1,h2⟩);cases h⟩
end tokens
end Go.Proofs.YtlkfbblapimhoaaGreatDoor
