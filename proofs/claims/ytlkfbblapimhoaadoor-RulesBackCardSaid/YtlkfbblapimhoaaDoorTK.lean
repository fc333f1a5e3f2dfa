/- Tokens of a text, of the code. -/
import Derived.Test.YtlkfbblapimhoaaDoorRD
namespace Go.Proofs.YtlkfbblapimhoaaDoor
set_option linter.unusedSectionVars false
set_option linter.unusedSimpArgs false
set_option linter.unusedVariables false
set_option maxRecDepth 100000
noncomputable abbrev byI (b:UInt8):Int:=Int.ofNat b.toNat
noncomputable def digN:List UInt8→Nat
  | []=>0
  | b :: s=>bif digitB (byI b) then digN s+1 else 0
noncomputable def fracB (s:List UInt8):Bool:=match s with
  | 46 :: b :: _=>digitB (byI b)
  | _=>false
noncomputable def numeralN (s:List UInt8):Nat:=bif fracB (s.drop (digN s)) then digN s+1+digN (s.drop (digN s+1)) else digN s
noncomputable def numeralD (s:List UInt8):Int:=Int.ofNat (numeralN s)
noncomputable def preB (s x:List UInt8):Bool:=s.take x.length == x
noncomputable def symN (s:List UInt8):Nat:=bif preB s [62,61]||(preB s [60,61]||preB s [58,61]) then 2 else bif ile (0:Int) (idxbZ ([45,43,58,44,59,47,61,40,41,60,62,42]:List UInt8) (byI (List.getD s 0 0))) then 1 else 0
noncomputable def symD (s:List UInt8):Int:=Int.ofNat (symN s)
noncomputable def comN:List UInt8→Nat
  | []=>0
  | b :: s=>bif b == 10 then 0 else comN s+1
noncomputable def kindN (s:List UInt8):Int×Nat :=
  let c:=byI (List.getD s 0 0)
  bif c == 32||c == 9 then (0,1) else bif c == 10 then (4,1) else bif c == 35 then (0,comN s) else
  bif letterB c then (bif ilt 20 (wordD s) then (-1,1) else (1,wordN s)) else bif digitB c then (2,numeralN s) else bif symN s == 0 then (-1,1) else (3,symN s)
structure TR where
  l:List Tok
  bad:Bool
  pl:Int
  pc:Int
noncomputable def TR.cons (t:Tok) (r:TR):TR:=⟨t :: r.l,r.bad,r.pl,r.pc⟩
noncomputable def tokR:Nat→List UInt8→Int→Int→TR
  | 0,_,l,c=>⟨[],true,l,c⟩
  | _+1,[],l,c=>⟨[⟨5,[],l,c⟩],false,0,0⟩
  | n + 1, b :: s, l, c => bif ilt (kindN (b :: s)).1 0 then ⟨[], true, l, c⟩ else bif (kindN (b :: s)).1 == 4 then (tokR n s (l + 1) 1).cons ⟨4, [], l, c⟩ else
      bif (kindN (b :: s)).1 == 0 then tokR n ((b :: s).drop (kindN (b :: s)).2) l (c+Int.ofNat (kindN (b :: s)).2) else
      (tokR n ((b :: s).drop (kindN (b :: s)).2) l (c+Int.ofNat (kindN (b :: s)).2)).cons ⟨(kindN (b :: s)).1,(b :: s).take (kindN (b :: s)).2,l,c⟩
noncomputable def tokS (s:List UInt8):TR:=tokR (s.length+1) s 1 1
noncomputable def tokE (s:List UInt8):Int:=bif ilt 262144 (Int.ofNat s.length) then 4 else bif (tokS s).bad then 7 else 0
noncomputable def tokL (s:List UInt8):List Tok:=bif tokE s == 0 then (tokS s).l else []
noncomputable def tokP (s:List UInt8):Pos:=bif tokE s == 7 then ⟨(tokS s).pl,(tokS s).pc⟩ else ⟨0,0⟩
theorem wordN_le:∀ s:List UInt8,wordN s≤s.length:=by
  intro s
  induction s with
  | nil=>exact Nat.le_refl _
  | cons b s ih=>unfold wordN; cases bodyB b<;>simp<;>omega
theorem digN_le:∀ s:List UInt8,digN s≤s.length:=by
  intro s
  induction s with
  | nil=>exact Nat.le_refl _
  | cons b s ih=>unfold digN; cases digitB (byI b)<;>simp<;>omega
theorem comN_le:∀ s:List UInt8,comN s≤s.length:=by
  intro s
  induction s with
  | nil=>exact Nat.le_refl _
  | cons b s ih=>unfold comN; cases b == 10<;>simp<;>omega
theorem fracB_len {s:List UInt8} (h:fracB s=true):2≤s.length:=by
  unfold fracB at h
  split at h
  · simp
  · cases h
theorem numeralN_le (s:List UInt8):numeralN s≤s.length:=by
  unfold numeralN
  have h1:=digN_le s
  cases hf:fracB (s.drop (digN s)) with
  | false=>exact h1
  | true =>
    have h2:=fracB_len hf
    have h3:=digN_le (s.drop (digN s+1))
    simp only [List.length_drop,cond_true] at *
    omega
theorem symN_le (s:List UInt8) (h:s≠[]):symN s≤s.length:=by
  unfold symN
  have h1:1≤s.length:=by cases s; exact absurd rfl h; simp
  cases hp:(preB s [62,61]||(preB s [60,61]||preB s [58,61])) with
  | false=>simp only [cond_false]; cases ile (0:Int) (idxbZ ([45,43,58,44,59,47,61,40,41,60,62,42]:List UInt8) (byI (List.getD s 0 0)))<;>simp<;>omega
  | true =>
    have:∀ x:List UInt8,x.length=2→preB s x=true→2≤s.length:=fun x hx hq=>by
      have hq:=eq_of_beq (show (s.take x.length == x)=true from hq)
      have:=congrArg List.length hq
      rw [List.length_take] at this
      omega
    simp only [Bool.or_eq_true] at hp
    simp only [cond_true]
    rcases hp with h | h | h<;>exact this _ rfl h
namespace numeral
noncomputable def bd:Code:=(Tryd.f61.body).getD .skip
noncomputable def X:Ctx U El:=⟨E,tds,zeros,eqs,specOf [(60,digit.sp)],100000,49,dspecOf [],fun _=>none,fun _=>none⟩
noncomputable def nmR:Norm U:=⟨[],[2],[],[],[],[],[]⟩
noncomputable def RR:Kont U El:=fun st=>normK nmR st (retFin [2] [])
noncomputable def nm1:Norm U:=⟨[],[0,3],[],[],[],[],[]⟩
noncomputable def nm2:Norm U:=⟨[],[0,3],[],[],[],[],[]⟩
noncomputable def nm3:Norm U:=⟨[],[0,3],[],[],[],[],[]⟩
noncomputable def nm4:Norm U:=⟨[],[3],[],[],[],[],[]⟩
noncomputable def nm5:Norm U:=⟨[],[0,3],[],[],[],[],[]⟩
noncomputable def nm6:Norm U:=⟨[],[0,3],[],[],[],[],[]⟩
abbrev Y1:=(List UInt8)→Int→R
abbrev Y2:=(List UInt8)→Int→R
abbrev Y3:=(List UInt8)→Int→R
abbrev Y4:=Int→R
abbrev Y5:=(List UInt8)→Int→R
abbrev Y6:=(List UInt8)→Int→R
noncomputable def fr0 (s:List UInt8):St U El:=⟨[(0,(.str s))],[]⟩
noncomputable def fr1 (s0:List UInt8) (i3:Int):St U El:=⟨[(0,(.str s0)),(3,(.int .i64 i3))],[]⟩
noncomputable def fr2 (s0:List UInt8) (i3:Int):St U El:=⟨[(0,(.str s0)),(3,(.int .i64 i3))],[]⟩
noncomputable def fr3 (s0:List UInt8) (i3:Int):St U El:=⟨[(0,(.str s0)),(3,(.int .i64 i3))],[]⟩
noncomputable def fr4 (i3:Int):St U El:=⟨[(3,(.int .i64 i3))],[]⟩
noncomputable def fr5 (s0:List UInt8) (i3:Int):St U El:=⟨[(0,(.str s0)),(3,(.int .i64 i3))],[]⟩
noncomputable def fr6 (s0:List UInt8) (i3:Int):St U El:=⟨[(0,(.str s0)),(3,(.int .i64 i3))],[]⟩
noncomputable def sh0 (s:List UInt8) (k2:Y2):R :=
  k2 s (0:Int)
noncomputable def sh1 (s0:List UInt8) (i3:Int) (k4:Y4) (k5:Y5):R :=
  condB (ilt (IntKind.wrap .i64 (i3+(1:Int))) (Int.ofNat (List.length s0))) (chk (inb i3 (List.length s0)) (condB ((Int.ofNat (UInt8.toNat (List.getD s0 (Int.toNat i3) 0))) == (46:Int)) (chk (inb (IntKind.wrap .i64 (i3+(1:Int))) (List.length s0)) (condB (digitB (Int.ofNat (UInt8.toNat (List.getD s0 (Int.toNat (IntKind.wrap .i64 (i3+(1:Int)))) 0)))) (k5 s0 (IntKind.wrap .i64 (i3+(1:Int)))) (k4 i3))) (k4 i3))) (k4 i3)
noncomputable def sh2 (s0:List UInt8) (i3:Int) (k1:Y1) (k3:Y3):R :=
  condB (ilt i3 (Int.ofNat (List.length s0))) (chk (inb i3 (List.length s0)) (condB (digitB (Int.ofNat (UInt8.toNat (List.getD s0 (Int.toNat i3) 0)))) (k3 s0 i3) (k1 s0 i3))) (k1 s0 i3)
noncomputable def sh3 (s0:List UInt8) (i3:Int) (k2:Y2):R :=
  k2 s0 (IntKind.wrap .i64 (i3+(1:Int)))
noncomputable def sh4 (i3:Int):R :=
  some ((.int .i64 i3),[])
noncomputable def sh5 (s0:List UInt8) (i3:Int) (k4:Y4) (k6:Y6):R :=
  condB (ilt i3 (Int.ofNat (List.length s0))) (chk (inb i3 (List.length s0)) (condB (digitB (Int.ofNat (UInt8.toNat (List.getD s0 (Int.toNat i3) 0)))) (k6 s0 i3) (k4 i3))) (k4 i3)
noncomputable def sh6 (s0:List UInt8) (i3:Int) (k5:Y5):R :=
  k5 s0 (IntKind.wrap .i64 (i3+(1:Int)))
noncomputable def it2 (Kb1:Kont U El) (n:Nat):Kont U El:=iter nm2 (fun st' K'=>exec X (cdp [1,1,0,0,0] bd) (.seq (some nm3) .d .d) st' K' (Eblk 0 (cutK nm1 Kb1) (fun _ _=>none)) RR) n
noncomputable def it5 (Kb4:Kont U El) (n:Nat):Kont U El:=iter nm5 (fun st' K'=>exec X (cdp [1,1,1,0,1,0,1,0,0] bd) (.seq (some nm6) .d .d) st' K' (Eblk 2 (cutK nm4 Kb4) (fun _ _=>none)) RR) n
noncomputable def ct1:Kont U El:=fun st=>exec X (cdp [1,1,1] bd) (.seq (some nm4) (.seq none .d (.cond (.seq none .d (.block (.loop nm5 (.seq (some nm6) .d .d)))) .d)) .d) st RR (fun _ _=>none) RR
noncomputable def ct3 (Kb1 Kb2:Kont U El):Kont U El:=fun st=>exec X (cdp [1,1,0,0,0,1] bd) .d st (cutK nm2 Kb2) (Eblk 0 (cutK nm1 Kb1) (fun _ _=>none)) RR
noncomputable def ct4:Kont U El:=fun st=>exec X (cdp [1,1,1,1] bd) .d st RR (fun _ _=>none) RR
noncomputable def ct6 (Kb4 Kb5:Kont U El):Kont U El:=fun st=>exec X (cdp [1,1,1,0,1,0,1,0,0,1] bd) .d st (cutK nm5 Kb5) (Eblk 2 (cutK nm4 Kb4) (fun _ _=>none)) RR
theorem P0 (s):exec X (cdp [] bd) (.seq none .d (.seq none .d (.seq (some nm1) (.block (.loop nm2 (.seq (some nm3) .d .d))) (.seq (some nm4) (.seq none .d (.cond (.seq none .d (.block (.loop nm5 (.seq (some nm6) .d .d)))) .d)) .d)))) (fr0 s) RR (fun _ _=>none) RR=sh0 s (fun y0 y1=>(hid (it2 (hid ct1) 100000)) (fr2 y0 y1)):=by kernel_rfl
theorem P1 (s0 i3):ct1 (fr1 s0 i3)=sh1 s0 i3 (fun y0=>(hid ct4) (fr4 y0)) (fun y0 y1=>(hid (it5 (hid ct4) 100000)) (fr5 y0 y1)):=by kernel_rfl
theorem P2 (s0 i3) (Kb1 Kb2:Kont U El):exec X (cdp [1,1,0,0,0] bd) (.seq (some nm3) .d .d) (fr2 s0 i3) (cutK nm2 Kb2) (Eblk 0 (cutK nm1 Kb1) (fun _ _=>none)) RR=sh2 s0 i3 (fun y0 y1=>Kb1 (fr1 y0 y1)) (fun y0 y1=>(hid (ct3 Kb1 Kb2)) (fr3 y0 y1)):=by kernel_rfl
theorem P3 (s0 i3) (Kb1 Kb2:Kont U El):ct3 Kb1 Kb2 (fr3 s0 i3)=sh3 s0 i3 (fun y0 y1=>Kb2 (fr2 y0 y1)):=by kernel_rfl
theorem P4 (i3):ct4 (fr4 i3)=sh4 i3:=by kernel_rfl
theorem P5 (s0 i3) (Kb4 Kb5:Kont U El):exec X (cdp [1,1,1,0,1,0,1,0,0] bd) (.seq (some nm6) .d .d) (fr5 s0 i3) (cutK nm5 Kb5) (Eblk 2 (cutK nm4 Kb4) (fun _ _=>none)) RR=sh5 s0 i3 (fun y0=>Kb4 (fr4 y0)) (fun y0 y1=>(hid (ct6 Kb4 Kb5)) (fr6 y0 y1)):=by kernel_rfl
theorem P6 (s0 i3) (Kb4 Kb5:Kont U El):ct6 Kb4 Kb5 (fr6 s0 i3)=sh6 s0 i3 (fun y0 y1=>Kb5 (fr5 y0 y1)):=by kernel_rfl
noncomputable def f4 (i3:Int):R:=sh4 i3
noncomputable def f6 (k5:Y5) (s0:List UInt8) (i3:Int):R:=sh6 s0 i3 k5
noncomputable def f5:Nat→Y5
  | 0=>fun _ _=>none
  | n+1=>fun s0 i3=>sh5 s0 i3 f4 (f6 (f5 n))
noncomputable def f1 (s0:List UInt8) (i3:Int):R:=sh1 s0 i3 f4 (f5 100000)
noncomputable def f3 (k2:Y2) (s0:List UInt8) (i3:Int):R:=sh3 s0 i3 k2
noncomputable def f2:Nat→Y2
  | 0=>fun _ _=>none
  | n+1=>fun s0 i3=>sh2 s0 i3 f1 (f3 (f2 n))
noncomputable def f0 (s:List UInt8):R:=sh0 s (f2 100000)
theorem T4 (i3):(hid ct4) (fr4 i3)=f4 i3:=by
  refine (congrFun (hid_eq _) _).trans <| (P4 i3).trans ?_
  show _=sh4 i3
  rfl
theorem T6 (KL5:Kont U El) (k5:Y5) (h5:∀ s0 i3,KL5 (fr5 s0 i3)=k5 s0 i3) (s0 i3):(hid (ct6 (hid ct4) KL5)) (fr6 s0 i3)=f6 k5 s0 i3:=by
  refine (congrFun (hid_eq _) _).trans <| (P6 s0 i3 (hid ct4) KL5).trans ?_
  show _=sh6 s0 i3 k5
  simp only [h5]
theorem T5:∀ (n:Nat),∀ s0 i3,it5 (hid ct4) n (fr5 s0 i3)=f5 n s0 i3:=by
  intro n
  induction n with
  | zero=>intros; rfl
  | succ n ih =>
    intro s0 i3
    refine (P5 s0 i3 (hid ct4) (it5 (hid ct4) n)).trans ?_
    show _=sh5 s0 i3 f4 (f6 (f5 n))
    simp only [T4,T6 (it5 (hid ct4) n) (f5 n) ih]
theorem H5 (s0 i3):hid (it5 (hid ct4) 100000) (fr5 s0 i3)=f5 100000 s0 i3:=(congrFun (hid_eq _) _).trans (T5 100000 s0 i3)
theorem T1 (s0 i3):(hid ct1) (fr1 s0 i3)=f1 s0 i3:=by
  refine (congrFun (hid_eq _) _).trans <| (P1 s0 i3).trans ?_
  show _=sh1 s0 i3 f4 (f5 100000)
  simp only [T4,H5]
theorem T3 (KL2:Kont U El) (k2:Y2) (h2:∀ s0 i3,KL2 (fr2 s0 i3)=k2 s0 i3) (s0 i3):(hid (ct3 (hid ct1) KL2)) (fr3 s0 i3)=f3 k2 s0 i3:=by
  refine (congrFun (hid_eq _) _).trans <| (P3 s0 i3 (hid ct1) KL2).trans ?_
  show _=sh3 s0 i3 k2
  simp only [h2]
theorem T2:∀ (n:Nat),∀ s0 i3,it2 (hid ct1) n (fr2 s0 i3)=f2 n s0 i3:=by
  intro n
  induction n with
  | zero=>intros; rfl
  | succ n ih =>
    intro s0 i3
    refine (P2 s0 i3 (hid ct1) (it2 (hid ct1) n)).trans ?_
    show _=sh2 s0 i3 f1 (f3 (f2 n))
    simp only [T1,T3 (it2 (hid ct1) n) (f2 n) ih]
theorem H2 (s0 i3):hid (it2 (hid ct1) 100000) (fr2 s0 i3)=f2 100000 s0 i3:=(congrFun (hid_eq _) _).trans (T2 100000 s0 i3)
theorem T0 (s):exec X bd (.seq none .d (.seq none .d (.seq (some nm1) (.block (.loop nm2 (.seq (some nm3) .d .d))) (.seq (some nm4) (.seq none .d (.cond (.seq none .d (.block (.loop nm5 (.seq (some nm6) .d .d)))) .d)) .d)))) (fr0 s) RR (fun _ _=>none) RR=f0 s:=by
  refine (P0 s).trans ?_
  show _=sh0 s (f2 100000)
  simp only [H2]
theorem run (s):runFn X bd (.seq none .d (.seq none .d (.seq (some nm1) (.block (.loop nm2 (.seq (some nm3) .d .d))) (.seq (some nm4) (.seq none .d (.cond (.seq none .d (.block (.loop nm5 (.seq (some nm6) .d .d)))) .d)) .d)))) nmR [2] [] [(.str s)]=f0 s:=T0 s
theorem tail (s : List UInt8) (hl : s.length ≤ 90000) : ∀ (n i : Nat), s.length < n + i → i ≤ s.length → f5 n s (i : Int) = some (.int .i64 ((i + digN (s.drop i) : Nat) : Int), []) := by
  intro n
  induction n with
  | zero=>intro i h1 h2; omega
  | succ n ih =>
    intro i h1 h2
    show sh5 s (i:Int) f4 (f6 (f5 n))=_
    unfold sh5
    by_cases hi:i < s.length
    · rw [iltT (show (i : Int) < Int.ofNat s.length by simp; omega), inbT hi, toNat_nat, getD_lt hi, drop_lt hi]
      simp only [chkT,condT]
      unfold digN
      cases hb:digitB (byI s[i]) with
      | false=>show some (_,_)=some (_,_); simp
      | true =>
        show f5 n s (IntKind.wrap .i64 ((i:Int)+1))=_
        rw [wrapS i (by omega),ih (i+1) (by omega) hi]
        congr 3
        simp only [cond_true]
        omega
    · have : i = s.length := by omega
      subst this
      rw [iltF (by simp),List.drop_length]
      rfl
theorem mid (s : List UInt8) (hl : s.length ≤ 90000) (i : Nat) (h2 : i ≤ s.length) : f1 s (i : Int) = some (.int .i64 ((bif fracB (s.drop i) then i + 1 + digN (s.drop (i + 1)) else i : Nat) : Int), []) := by
  show sh1 s (i:Int) f4 (f5 100000)=_
  unfold sh1
  rw [wrapS i (by omega)]
  by_cases hi:i+1 < s.length
  · rw [iltT (show ((i + 1 : Nat) : Int) < Int.ofNat s.length by simp; omega), inbT (show i < s.length by omega), inbT hi, toNat_nat, toNat_nat, getD_lt (show i < s.length by omega), getD_lt hi, drop_lt (show i < s.length by omega), drop_lt hi]
    simp only [chkT,condT]
    have hf:fracB (s[i] :: s[i+1] :: s.drop (i+1+1))=(((Int.ofNat s[i].toNat) == (46:Int))&&digitB (byI s[i+1])):=by
      unfold fracB
      split
      · rename_i b r heq
        obtain ⟨h1,h2⟩:=List.cons.inj heq
        rw [h1,(List.cons.inj h2).1]
        rfl
      · rename_i hn
        cases h46:((Int.ofNat s[i].toNat) == (46:Int)) with
        | false=>rfl
        | true =>
          exfalso
          have:s[i]=46:=UInt8.toNat_inj.1 (by have:=eq_of_beq h46; simpa using Int.ofNat.inj this)
          exact hn _ _ (by rw [this])
    rw [hf]
    cases (Int.ofNat s[i].toNat) == (46:Int) with
    | false=>rfl
    | true =>
      simp only [condT,Bool.true_and]
      cases digitB (byI s[i+1]) with
      | false=>rfl
      | true =>
        simp only [condT,cond_true]
        rw [tail s hl 100000 (i+1) (by omega) (by omega),← drop_lt hi]
  · rw [iltF (by simp; omega)]
    have hf:fracB (s.drop i)=false:=by
      cases h:fracB (s.drop i) with
      | false=>rfl
      | true=>have:=fracB_len h; rw [List.length_drop] at this; omega
    rw [hf]
    rfl
theorem loop (s : List UInt8) (hl : s.length ≤ 90000) : ∀ (n i : Nat), s.length < n + i → i ≤ s.length → f2 n s (i : Int) = f1 s ((i + digN (s.drop i) : Nat) : Int) := by
  intro n
  induction n with
  | zero=>intro i h1 h2; omega
  | succ n ih =>
    intro i h1 h2
    show sh2 s (i:Int) f1 (f3 (f2 n))=_
    unfold sh2
    by_cases hi:i < s.length
    · rw [iltT (show (i : Int) < Int.ofNat s.length by simp; omega), inbT hi, toNat_nat, getD_lt hi, drop_lt hi]
      simp only [chkT,condT]
      unfold digN
      cases hb:digitB (byI s[i]) with
      | false=>rfl
      | true =>
        show f2 n s (IntKind.wrap .i64 ((i:Int)+1))=_
        rw [wrapS i (by omega),ih (i+1) (by omega) hi]
        congr 2
        simp only [cond_true]
        omega
    · have : i = s.length := by omega
      subst this
      rw [iltF (by simp),List.drop_length]
      rfl
theorem f0_eq (s:List UInt8) (h:nle (List.length s) 90000=true):f0 s=some (.int .i64 (numeralD s),[]):=by
  have hl:=nleI h
  show f2 100000 s ((0:Nat):Int)=_
  rw [loop s hl 100000 0 (by omega) (by omega),List.drop_zero,Nat.zero_add,mid s hl _ (digN_le s)]
  rfl
theorem ok:CtxOk Tryd.prog X:=ctxOk tab (spC digit.spOk spN) dpN
theorem okM:MOk Tryd.prog X:=fun g sp h=>by cases h
theorem spec (s:List UInt8) (h:(nle (List.length s) 90000)=true):CallSpec Tryd.prog E 61 [(.str s)] (.int .i64 (numeralD s)) [] :=
  runFn_sound ok okM Tryd.call61 Tryd.func61 (by kernel_rfl) (by kernel_rfl) (by kernel_rfl) (by show 1≤49; decide) (by decide) (by rfl) ((run s).trans (f0_eq s h))
noncomputable def sp:Sp U El:=fun args k=>match args with
  | [.str s]=>chk (nle (List.length s) 90000) (k (.int .i64 (numeralD s)) [])
  | _=>none
theorem spOk:SpOk Tryd.prog E 61 sp where
  det:=fun vs=>by
    unfold sp
    split
    · exact det_c _ _ _
    · exact ⟨none,fun _=>rfl⟩
  ok:=fun vs k r h=>by
    unfold sp at h
    split at h
    · obtain ⟨h1, h2⟩ := chk_some h
      exact ⟨_,_,spec _ h1,h2⟩
    · cases h
end numeral
namespace hasPreL
noncomputable def bd:Code:=(Tryd.f79.body).getD .skip
noncomputable def X:Ctx U El:=⟨E,tds,zeros,eqs,specOf [],100000,18,dspecOf [],fun _=>none,fun _=>none⟩
noncomputable def nmR:Norm U:=⟨[],[4],[],[],[],[],[]⟩
noncomputable def RR:Kont U El:=fun st=>normK nmR st (retFin [4] [])
noncomputable def fr0 (s:List UInt8) (x:List UInt8):St U El:=⟨[(0,(.str s)),(1,(.str x))],[]⟩
noncomputable def sh0 (s:List UInt8) (x:List UInt8):R :=
  condB (ile (Int.ofNat (List.length x)) (Int.ofNat (List.length s))) (chk (ile 0 (0:Int)&&ile (0:Int) (Int.ofNat (List.length x))&&ile (Int.ofNat (List.length x)) (Int.ofNat (List.length s))) (some ((.bool ((sub s (0:Int) (Int.ofNat (List.length x))) == x)),[]))) (some ((.bool false),[]))
theorem P0 (s x):exec X (cdp [] bd) .d (fr0 s x) RR (fun _ _=>none) RR=sh0 s x:=by kernel_rfl
noncomputable def f0 (s:List UInt8) (x:List UInt8):R:=sh0 s x
theorem T0 (s x):exec X bd .d (fr0 s x) RR (fun _ _=>none) RR=f0 s x:=by
  refine (P0 s x).trans ?_
  show _=sh0 s x
  rfl
theorem run (s x):runFn X bd .d nmR [4] [] [(.str s),(.str x)]=f0 s x:=T0 s x
theorem f0_eq (s x : List UInt8) (h : nle (List.length s) 90000 = true) : f0 s x = outB (preB s x) := by
  have hl:=nleI h
  show sh0 s x=_
  unfold sh0 preB
  by_cases hx:x.length≤s.length
  · rw [ileT (by simp; omega), ileT (by simp), ileT (by simp)]
    simp only [condT,Bool.and_self,chkT]
    show outB _=_
    unfold sub
    simp
  · rw [ileF (by simp; omega)]
    have:(s.take x.length == x)=false:=by
      cases hq:(s.take x.length == x) with
      | false=>rfl
      | true =>
        have:=congrArg List.length (eq_of_beq hq)
        rw [List.length_take] at this
        omega
    rw [this]
    rfl
theorem ok:CtxOk Tryd.prog X:=ctxOk tab spN dpN
theorem okM:MOk Tryd.prog X:=fun g sp h=>by cases h
theorem spec (s:List UInt8) (x:List UInt8) (h:(nle (List.length s) 90000)=true):CallSpec Tryd.prog E 79 [(.str s),(.str x)] (.bool (preB s x)) [] :=
  runFn_sound ok okM Tryd.call79 Tryd.func79 (by kernel_rfl) (by kernel_rfl) (by kernel_rfl) (by show 2≤18; decide) (by decide) (by rfl) ((run s x).trans (f0_eq s x h))
noncomputable def sp:Sp U El:=fun args k=>match args with
  | [.str s,.str x]=>chk (nle (List.length s) 90000) (k (.bool (preB s x)) [])
  | _=>none
theorem spOk:SpOk Tryd.prog E 79 sp where
  det:=fun vs=>by
    unfold sp
    split
    · exact det_c _ _ _
    · exact ⟨none,fun _=>rfl⟩
  ok:=fun vs k r h=>by
    unfold sp at h
    split at h
    · obtain ⟨h1, h2⟩ := chk_some h
      exact ⟨_,_,spec _ _ h1,h2⟩
    · cases h
end hasPreL
namespace hasPre
noncomputable def bd:Code:=(Tryd.f72.body).getD .skip
noncomputable def X:Ctx U El:=⟨E,tds,zeros,eqs,specOf [(79,hasPreL.sp)],100000,8,dspecOf [],fun _=>none,fun _=>none⟩
noncomputable def nmR:Norm U:=⟨[],[4],[],[],[],[],[]⟩
noncomputable def RR:Kont U El:=fun st=>normK nmR st (retFin [4] [])
noncomputable def fr0 (s:List UInt8) (x:List UInt8):St U El:=⟨[(0,(.str s)),(1,(.str x))],[]⟩
noncomputable def sh0 (s:List UInt8) (x:List UInt8):R :=
  chk (nle (List.length s) 90000) (some ((.bool (preB s x)),[]))
theorem P0 (s x):exec X (cdp [] bd) .d (fr0 s x) RR (fun _ _=>none) RR=sh0 s x:=by kernel_rfl
noncomputable def f0 (s:List UInt8) (x:List UInt8):R:=sh0 s x
theorem T0 (s x):exec X bd .d (fr0 s x) RR (fun _ _=>none) RR=f0 s x:=by
  refine (P0 s x).trans ?_
  show _=sh0 s x
  rfl
theorem run (s x):runFn X bd .d nmR [4] [] [(.str s),(.str x)]=f0 s x:=T0 s x
theorem f0_eq (s x:List UInt8) (h:nle (List.length s) 90000=true):f0 s x=outB (preB s x):=by
  show sh0 s x=_
  unfold sh0
  rw [h]
  rfl
theorem ok:CtxOk Tryd.prog X:=ctxOk tab (spC hasPreL.spOk spN) dpN
theorem okM:MOk Tryd.prog X:=fun g sp h=>by cases h
theorem spec (s:List UInt8) (x:List UInt8) (h:(nle (List.length s) 90000)=true):CallSpec Tryd.prog E 72 [(.str s),(.str x)] (.bool (preB s x)) [] :=
  runFn_sound ok okM Tryd.call72 Tryd.func72 (by kernel_rfl) (by kernel_rfl) (by kernel_rfl) (by show 2≤8; decide) (by decide) (by rfl) ((run s x).trans (f0_eq s x h))
noncomputable def sp:Sp U El:=fun args k=>match args with
  | [.str s,.str x]=>chk (nle (List.length s) 90000) (k (.bool (preB s x)) [])
  | _=>none
theorem spOk:SpOk Tryd.prog E 72 sp where
  det:=fun vs=>by
    unfold sp
    split
    · exact det_c _ _ _
    · exact ⟨none,fun _=>rfl⟩
  ok:=fun vs k r h=>by
    unfold sp at h
    split at h
    · obtain ⟨h1, h2⟩ := chk_some h
      exact ⟨_,_,spec _ _ h1,h2⟩
    · cases h
end hasPre
namespace symbol
noncomputable def bd:Code:=(Tryd.f62.body).getD .skip
noncomputable def X:Ctx U El:=⟨E,tds,zeros,eqs,specOf [(59,idxb.sp),(72,hasPre.sp)],100000,19,dspecOf [],fun _=>none,fun _=>none⟩
noncomputable def nmR:Norm U:=⟨[],[2],[],[],[],[],[]⟩
noncomputable def RR:Kont U El:=fun st=>normK nmR st (retFin [2] [])
noncomputable def nm1:Norm U:=⟨[],[0],[],[],[],[],[]⟩
noncomputable def nm2:Norm U:=⟨[(5,.str)],[0,5,6,7],[5],[],[],[],[]⟩
abbrev Y1:=(List UInt8)→R
abbrev Y2:=(List UInt8)→(List (List UInt8))→Int→Int→R
noncomputable def fr0 (s:List UInt8):St U El:=⟨[(0,(.str s))],[]⟩
noncomputable def fr1 (s0:List UInt8):St U El:=⟨[(0,(.str s0))],[]⟩
noncomputable def fr2 (s0:List UInt8) (x5:List (List UInt8)) (x6:Int) (x7:Int):St U El:=⟨[(0,(.str s0)),(5,(.ful 5)),(6,(.int .i64 x6)),(7,(.int .i64 x7))],[(5,(.rows .str x5))]⟩
noncomputable def sh0 (s:List UInt8) (k2:Y2):R :=
  k2 s ([([62,61]:List UInt8),([60,61]:List UInt8),([58,61]:List UInt8)]:List (List UInt8)) (Int.ofNat (List.length ([([62,61]:List UInt8),([60,61]:List UInt8),([58,61]:List UInt8)]:List (List UInt8)))) (0:Int)
noncomputable def sh1 (s0:List UInt8):R :=
  chk (inb (0:Int) (List.length s0)) (condB (ile (0:Int) (idxbZ ([45,43,58,44,59,47,61,40,41,60,62,42]:List UInt8) (Int.ofNat (UInt8.toNat (List.getD s0 0 0))))) (some ((.int .i64 (1:Int)),[])) (some ((.int .i64 (0:Int)),[])))
noncomputable def sh2 (s0:List UInt8) (x5:List (List UInt8)) (x6:Int) (x7:Int) (k1:Y1) (k2:Y2):R :=
  condB (ilt x7 x6) (chk (inb x7 (List.length x5)) (chk (nlt (Int.toNat x7) (List.length x5)) (chk (nle (List.length s0) 90000) (condB (preB s0 (List.getD x5 (Int.toNat x7) d_str)) (some ((.int .i64 (2:Int)),[])) (k2 s0 x5 x6 (IntKind.wrap .i64 (x7+(1:Int)))))))) (k1 s0)
noncomputable def it2 (Kb1:Kont U El) (n:Nat):Kont U El:=iter nm2 (fun st' K'=>exec X (cdp [1,0,1,0,0] bd) .d st' K' (Eblk 0 (cutK nm1 Kb1) (fun _ _=>none)) RR) n
noncomputable def ct1:Kont U El:=fun st=>exec X (cdp [1,1] bd) .d st RR (fun _ _=>none) RR
theorem P0 (s):exec X (cdp [] bd) (.seq none .d (.seq (some nm1) (.seq none .d (.block (.loop nm2 .d))) .d)) (fr0 s) RR (fun _ _=>none) RR=sh0 s (fun y0 y1 y2 y3=>(hid (it2 (hid ct1) 100000)) (fr2 y0 y1 y2 y3)):=by kernel_rfl
theorem P1 (s0):ct1 (fr1 s0)=sh1 s0:=by kernel_rfl
theorem P2 (s0 x5 x6 x7) (Kb1 Kb2:Kont U El):exec X (cdp [1,0,1,0,0] bd) .d (fr2 s0 x5 x6 x7) (cutK nm2 Kb2) (Eblk 0 (cutK nm1 Kb1) (fun _ _=>none)) RR=sh2 s0 x5 x6 x7 (fun y0=>Kb1 (fr1 y0)) (fun y0 y1 y2 y3=>Kb2 (fr2 y0 y1 y2 y3)):=by kernel_rfl
noncomputable def f1 (s0:List UInt8):R:=sh1 s0
noncomputable def f2:Nat→Y2
  | 0=>fun _ _ _ _=>none
  | n+1=>fun s0 x5 x6 x7=>sh2 s0 x5 x6 x7 f1 (f2 n)
noncomputable def f0 (s:List UInt8):R:=sh0 s (f2 100000)
theorem T1 (s0):(hid ct1) (fr1 s0)=f1 s0:=by
  refine (congrFun (hid_eq _) _).trans <| (P1 s0).trans ?_
  show _=sh1 s0
  rfl
theorem T2:∀ (n:Nat),∀ s0 x5 x6 x7,it2 (hid ct1) n (fr2 s0 x5 x6 x7)=f2 n s0 x5 x6 x7:=by
  intro n
  induction n with
  | zero=>intros; rfl
  | succ n ih =>
    intro s0 x5 x6 x7
    refine (P2 s0 x5 x6 x7 (hid ct1) (it2 (hid ct1) n)).trans ?_
    show _=sh2 s0 x5 x6 x7 f1 (f2 n)
    simp only [T1,ih]
theorem H2 (s0 x5 x6 x7):hid (it2 (hid ct1) 100000) (fr2 s0 x5 x6 x7)=f2 100000 s0 x5 x6 x7:=(congrFun (hid_eq _) _).trans (T2 100000 s0 x5 x6 x7)
theorem T0 (s):exec X bd (.seq none .d (.seq (some nm1) (.seq none .d (.block (.loop nm2 .d))) .d)) (fr0 s) RR (fun _ _=>none) RR=f0 s:=by
  refine (P0 s).trans ?_
  show _=sh0 s (f2 100000)
  simp only [H2]
theorem run (s):runFn X bd (.seq none .d (.seq (some nm1) (.seq none .d (.block (.loop nm2 .d))) .d)) nmR [2] [] [(.str s)]=f0 s:=T0 s
theorem f0_eq (s:List UInt8) (h:(nle (List.length s) 90000&&nlt 0 (List.length s))=true):f0 s=some (.int .i64 (symD s),[]):=by
  rw [Bool.and_eq_true] at h
  have hs:inb (0:Int) s.length=true:=inb0 (of_decide_eq_true h.2)
  have e1:f1 s=condB (ile (0:Int) (idxbZ ([45,43,58,44,59,47,61,40,41,60,62,42]:List UInt8) (byI (List.getD s 0 0)))) (some ((.int .i64 (1:Int)),[])) (some ((.int .i64 (0:Int)),[])):=by
    show sh1 s=_
    unfold sh1
    rw [hs]
    rfl
  have step:∀ (n:Nat) (i:Nat) (x:List UInt8) (X:List (List UInt8)),X[i]? = some x→i < X.length→i < 10→f2 (n+1) s X (Int.ofNat X.length) (i:Int)=condB (preB s x) (some ((.int .i64 (2:Int)),[])) (f2 n s X (Int.ofNat X.length) ((i+1:Nat):Int)):=fun n i x X hx hi h10=>by
    show sh2 s X (Int.ofNat X.length) (i:Int) f1 (f2 n)=_
    unfold sh2
    rw [iltT (by simp; omega),inbT hi,toNat_nat,nltT hi,h.1,getD_lt hi,wrapS i (by omega)]
    have:X[i]=x:=by rw [List.getElem?_eq_getElem hi] at hx; exact Option.some.inj hx
    rw [this]
    rfl
  have last:∀ (n:Nat) (X:List (List UInt8)),f2 (n+1) s X (Int.ofNat X.length) ((X.length:Nat):Int)=f1 s:=fun n X=>by
    show sh2 s X (Int.ofNat X.length) (X.length:Int) f1 (f2 n)=_
    unfold sh2
    rw [iltF (by simp)]
    rfl
  show f2 100000 s [[62,61],[60,61],[58,61]] (Int.ofNat 3) ((0:Nat):Int)=_
  have s0:=step 99999 0 [62,61] [[62,61],[60,61],[58,61]] rfl (by decide) (by decide)
  have s1:=step 99998 1 [60,61] [[62,61],[60,61],[58,61]] rfl (by decide) (by decide)
  have s2:=step 99997 2 [58,61] [[62,61],[60,61],[58,61]] rfl (by decide) (by decide)
  have s3:=last 99996 [[62,61],[60,61],[58,61]]
  refine s0.trans ?_
  rw [s1,s2]
  show condB _ _ (condB _ _ (condB _ _ (f2 (99996+1) s [[62,61],[60,61],[58,61]] (Int.ofNat [[62,61],[60,61],[58,61]].length) _)))=_
  refine Eq.trans (congrArg (fun z=>condB _ _ (condB _ _ (condB _ _ z))) s3) ?_
  rw [e1]
  unfold symD symN
  cases preB s [62,61]<;>cases preB s [60,61]<;>cases preB s [58,61]<;>cases ile (0:Int) (idxbZ ([45,43,58,44,59,47,61,40,41,60,62,42]:List UInt8) (byI (List.getD s 0 0)))<;>rfl
theorem ok:CtxOk Tryd.prog X:=ctxOk tab (spC idxb.spOk (spC hasPre.spOk spN)) dpN
theorem okM:MOk Tryd.prog X:=fun g sp h=>by cases h
theorem spec (s:List UInt8) (h:((nle (List.length s) 90000&&nlt 0 (List.length s)))=true):CallSpec Tryd.prog E 62 [(.str s)] (.int .i64 (symD s)) [] :=
  runFn_sound ok okM Tryd.call62 Tryd.func62 (by kernel_rfl) (by kernel_rfl) (by kernel_rfl) (by show 1≤19; decide) (by decide) (by rfl) ((run s).trans (f0_eq s h))
noncomputable def sp:Sp U El:=fun args k=>match args with
  | [.str s]=>chk ((nle (List.length s) 90000&&nlt 0 (List.length s))) (k (.int .i64 (symD s)) [])
  | _=>none
theorem spOk:SpOk Tryd.prog E 62 sp where
  det:=fun vs=>by
    unfold sp
    split
    · exact det_c _ _ _
    · exact ⟨none,fun _=>rfl⟩
  ok:=fun vs k r h=>by
    unfold sp at h
    split at h
    · obtain ⟨h1, h2⟩ := chk_some h
      exact ⟨_,_,spec _ h1,h2⟩
    · cases h
end symbol
end Go.Proofs.YtlkfbblapimhoaaDoor
