/- Text, and awake. -/
import Derived.Test.YtnhmhcobpbilhaaGreatDoorVG
import Derived.Test.YtnhmhcobpbilhaaGreatDoorIT
import Derived.Test.YtnhmhcobpbilhaaGreatDoorNU
namespace Go.Proofs.YtnhmhcobpbilhaaGreatDoor
variable [Drw]
set_option linter.unusedSectionVars false
set_option linter.unusedSimpArgs false
set_option linter.unusedVariables false
set_option maxRecDepth 100000
noncomputable def numsS:List Int→List UInt8
  | []=>[]
  | n :: l=>([32]:List UInt8)++Lib.itoa n++numsS l
noncomputable def lineS (d:Df):List UInt8:=d.c++numsS [d.a,d.l,d.s]++[10]
noncomputable def linesS:List Df→List UInt8
  | []=>[]
  | d :: l=>lineS d++linesS l
noncomputable def textS (l:List Df):List UInt8:=bif validB 16777216 l then linesS l else []
noncomputable def textE (l:List Df):Int:=bif validB 16777216 l then 0 else 1
noncomputable def rngB (n:Int):Bool:=ile (-9223372036854775808) n&&ile n 9223372036854775807
noncomputable def txtOk (l:List Df):Bool:=nle (List.length (linesS l)) 140737488355328&&l.all (fun d=>rngB d.a&&(rngB d.l&&rngB d.s))
theorem valid_len {L:Int} {l:List Df} (h:validB L l=true):l.length≤1000:=by
  simp only [validB,Bool.and_eq_true,nle,decide_eq_true_eq] at h
  exact h.2.1
theorem code_name {c:List UInt8} (h:ilt 0 (pointsZ c)=true):c.length=2∧nameB c=true:=by
  have key:∀ k:List UInt8,(c == k)=true→k.length=2→nameB k=true→c.length=2∧nameB c=true:=fun k h1 h2 h3=>by rw [beq_iff_eq.1 h1]; exact ⟨h2,h3⟩
  cases h0:c == [67,82]; rotate_left; · exact key _ h0 rfl (by kernel_rfl)
  cases h1:c == [70,82]; rotate_left; · exact key _ h1 rfl (by kernel_rfl)
  cases h2:c == [66,82]; rotate_left; · exact key _ h2 rfl (by kernel_rfl)
  cases h3:c == [68,74]; rotate_left; · exact key _ h3 rfl (by kernel_rfl)
  cases h4:c == [73,78]; rotate_left; · exact key _ h4 rfl (by kernel_rfl)
  cases h5:c == [82,79]; rotate_left; · exact key _ h5 rfl (by kernel_rfl)
  cases h6:c == [67,79]; rotate_left; · exact key _ h6 rfl (by kernel_rfl)
  cases h7:c == [68,69]; rotate_left; · exact key _ h7 rfl (by kernel_rfl)
  cases h8:c == [79,66]; rotate_left; · exact key _ h8 rfl (by kernel_rfl)
  simp only [pointsZ,h0,h1,h2,h3,h4,h5,h6,h7,h8,cond_false,Bool.or_self] at h
  exact absurd (iltI h) (by omega)
theorem itoa_lt {n:Int} (h0:0≤n) (h1:n≤16777216):(Lib.itoa n).length≤8:=by
  unfold Lib.itoa
  rw [if_neg (by omega)]
  exact digits_len 7 n.toNat (by omega)
theorem chain_right {L:Int}:∀ {l:List Df} {p:Option Df},chainB L p l=true→∀ d∈l,rightB L d=true:=by
  intro l
  induction l with
  | nil=>intro p _ d hd; cases hd
  | cons x l ih =>
    intro p h d hd
    simp only [chainB,Bool.and_eq_true] at h
    rcases List.mem_cons.1 hd with rfl | hd
    · exact h.1
    · exact ih h.2.2 d hd
theorem valid_right {L:Int} {l:List Df} (h:validB L l=true):∀ d∈l,rightB L d=true:=by
  simp only [validB,Bool.and_eq_true] at h
  exact chain_right h.2.2
theorem right_lim {L:Int} {d:Df} (h:rightB L d=true):ilt 0 (pointsZ d.c)=true∧(0≤d.a∧d.a≤L)∧(0≤d.l∧d.l≤L)∧(1≤d.s∧d.s≤5):=by
  simp only [rightB,Bool.and_eq_true] at h
  obtain ⟨h0,h1,h2,h3,h4,h5,h6⟩:=h
  have:=ileI h1; have:=ileI h2; have:=ileI h3; have:=ileI h4; have:=ileI h5; have:=ileI h6
  exact ⟨h0,by omega,by omega,by omega⟩
theorem line_short {d:Df} (h:rightB 16777216 d=true):(lineS d).length≤40:=by
  obtain ⟨h0,h1,h2,h3⟩:=right_lim h
  have c2:=(code_name h0).1
  have a8:=itoa_lt h1.1 h1.2
  have l8:=itoa_lt h2.1 h2.2
  have s8:=itoa_lt (show 0≤d.s by omega) (by omega)
  simp only [lineS,numsS,List.length_append,List.length_cons,List.length_nil]
  omega
theorem lines_short:∀ {l:List Df},(∀ d∈l,rightB 16777216 d=true)→(linesS l).length≤40 * l.length:=by
  intro l
  induction l with
  | nil=>intro _; exact Nat.zero_le _
  | cons d l ih =>
    intro h
    have h1:=line_short (h d (by simp))
    have h2:=ih fun e he=>h e (by simp [he])
    simp only [linesS,List.length_append,List.length_cons]
    omega
theorem valid_lines {l:List Df} (h:validB 16777216 l=true):(linesS l).length≤40000:=by
  have:=lines_short (valid_right h); have:=valid_len h
  omega
theorem valid_txt {l:List Df} (h:validB 16777216 l=true):txtOk l=true:=by
  unfold txtOk
  rw [nleT (by have:=valid_lines h; omega),Bool.true_and,List.all_eq_true]
  intro d hd
  obtain ⟨_,h1,h2,h3⟩:=right_lim (valid_right h d hd)
  unfold rngB
  rw [ileT (by omega),ileT (by omega),ileT (by omega),ileT (by omega),ileT (by omega),ileT (by omega)]
  rfl
namespace textF
noncomputable def bd:Code:=(Tryz.f7.body).getD .skip
noncomputable def X:Ctx U El:=⟨E,tds,zeros,eqs,specOf [(10,valid.sp),(22,itoa.sp)],100000,41,dspecOf [],mspecOf [(21,wsSp .u8 (fun s=>s)),(23,strSp .u8 (fun s=>s))]⟩
noncomputable def nmR:Norm U:=⟨[],[2,3],[],[],[],[],[]⟩
noncomputable def RR:Kont U El:=fun st=>normK nmR st (retFin [2,3] [])
noncomputable def nm1:Norm U:=⟨[],[4],[4,4000],[],[],[],[]⟩
noncomputable def nm2:Norm U:=⟨[],[4,12,13,14],[4,4000],[],[],[],[]⟩
noncomputable def nm3:Norm U:=⟨[],[4,12,13,14],[4,4000],[],[],[],[]⟩
noncomputable def nm4:Norm U:=⟨[],[4,12,13,14],[4,4000],[],[],[],[]⟩
noncomputable def nm5:Norm U:=⟨[(27,.int)],[4,12,13,14,27,28,29],[27,4,4000],[],[],[],[]⟩
abbrev Y1:=(List UInt8)→R
abbrev Y2:=(List Df)→Int→Int→(List UInt8)→R
abbrev Y3:=(List Df)→Int→Int→(List UInt8)→R
abbrev Y4:=(List Df)→Int→Int→(List UInt8)→R
abbrev Y5:=(List Df)→Int→Int→(List Int)→Int→Int→(List UInt8)→R
noncomputable def fr0 (l:List Df):St U El:=⟨[(0,(.lst .df l))],[]⟩
noncomputable def fr1 (aA:List UInt8):St U El:=⟨[(4,(.ptr 4 0))],[(4,(.bld 52 4000)),(4000,(.rows .u8 aA))]⟩
noncomputable def fr2 (cA:List Df) (dA:Int) (bA:Int) (aA:List UInt8):St U El:=⟨[(4,(.ptr 4 0)),(12,(.lst .df cA)),(13,(.int .i64 dA)),(14,(.int .i64 bA))],[(4,(.bld 52 4000)),(4000,(.rows .u8 aA))]⟩
noncomputable def fr3 (cA:List Df) (dA:Int) (bA:Int) (aA:List UInt8):St U El:=⟨[(4,(.ptr 4 0)),(12,(.lst .df cA)),(13,(.int .i64 dA)),(14,(.int .i64 bA))],[(4,(.bld 52 4000)),(4000,(.rows .u8 aA))]⟩
noncomputable def fr4 (cA:List Df) (dA:Int) (bA:Int) (aA:List UInt8):St U El:=⟨[(4,(.ptr 4 0)),(12,(.lst .df cA)),(13,(.int .i64 dA)),(14,(.int .i64 bA))],[(4,(.bld 52 4000)),(4000,(.rows .u8 aA))]⟩
noncomputable def fr5 (cA:List Df) (dA:Int) (bA:Int) (fA:List Int) (gA:Int) (eA:Int) (aA:List UInt8):St U El:=⟨[(4,(.ptr 4 0)),(12,(.lst .df cA)),(13,(.int .i64 dA)),(14,(.int .i64 bA)),(27,(.ful 27)),(28,(.int .i64 gA)),(29,(.int .i64 eA))],[(27,(.rows .int fA)),(4,(.bld 52 4000)),(4000,(.rows .u8 aA))]⟩
noncomputable def sh0 (l:List Df) (k2:Y2):R :=
  condB (!(validB (16777216:Int) l)) (some ((.tup [(.str ([]:List UInt8)),(.int .i64 (1:Int))]),[])) (k2 l (Int.ofNat (List.length l)) (0:Int) ([]:List UInt8))
noncomputable def sh1 (aA:List UInt8):R :=
  chk (true&&nle (List.length aA) 9223372036854775807) (some ((.tup [(.str aA),(.int .i64 (0:Int))]),[]))
noncomputable def sh2 (cA:List Df) (dA:Int) (bA:Int) (aA:List UInt8) (k1:Y1) (k5:Y5):R :=
  condB (ilt bA dA) (chk (inb bA (List.length cA)) (chk (true&&nle (List.length aA+List.length ((List.getD cA (Int.toNat bA) d_df).c)) 140737488355328) (k5 cA dA bA ([(List.getD cA (Int.toNat bA) d_df).a,(List.getD cA (Int.toNat bA) d_df).l,(List.getD cA (Int.toNat bA) d_df).s]:List Int) (Int.ofNat (List.length ([(List.getD cA (Int.toNat bA) d_df).a,(List.getD cA (Int.toNat bA) d_df).l,(List.getD cA (Int.toNat bA) d_df).s]:List Int))) (0:Int) (aA++(List.getD cA (Int.toNat bA) d_df).c)))) (k1 aA)
noncomputable def sh3 (cA:List Df) (dA:Int) (bA:Int) (aA:List UInt8) (k2:Y2):R :=
  k2 cA dA (IntKind.wrap .i64 (bA+(1:Int))) aA
noncomputable def sh4 (cA:List Df) (dA:Int) (bA:Int) (aA:List UInt8) (k3:Y3):R :=
  chk (true&&nle (List.length aA+List.length ([10]:List UInt8)) 140737488355328) (k3 cA dA bA (aA++([10]:List UInt8)))
noncomputable def sh5 (cA:List Df) (dA:Int) (bA:Int) (fA:List Int) (gA:Int) (eA:Int) (aA:List UInt8) (k4:Y4) (k5:Y5):R :=
  condB (ilt eA gA) (chk (inb eA (List.length fA)) (chk (nlt (Int.toNat eA) (List.length fA)) (chk ((ile (-9223372036854775808) (List.getD fA (Int.toNat eA) d_int)&&ile (List.getD fA (Int.toNat eA) d_int) 9223372036854775807)) (chk (nle (List.length ([32]:List UInt8)+List.length (Lib.itoa (List.getD fA (Int.toNat eA) d_int))) 9223372036854775807) (chk (true&&nle (List.length aA+List.length (([32]:List UInt8)++(Lib.itoa (List.getD fA (Int.toNat eA) d_int)))) 140737488355328) (k5 cA dA bA fA gA (IntKind.wrap .i64 (eA+(1:Int))) (aA++(([32]:List UInt8)++(Lib.itoa (List.getD fA (Int.toNat eA) d_int)))))))))) (k4 cA dA bA aA)
noncomputable def it2 (Kb1:Kont U El) (n:Nat):Kont U El:=iter nm2 (fun st' K'=>exec X (cdp [1,1,1,0,1,0,0] bd) (.seq none .d (.seq none .d (.seq (some nm3) (.block (.seq none .d (.seq none .d (.seq (some nm4) (.seq none .d (.block (.loop nm5 .d))) .d)))) .d))) st' K' (Eblk 0 (cutK nm1 Kb1) (fun _ _=>none)) RR) n
noncomputable def it5 (Kb1 Kb3 Kb4:Kont U El) (n:Nat):Kont U El:=iter nm5 (fun st' K'=>exec X (cdp [1,1,1,0,1,0,0,1,1,0,0,1,1,0,1,0,0] bd) .d st' K' (Eblk 2 (cutK nm4 Kb4) (Eblk 1 (cutK nm3 Kb3) (Eblk 0 (cutK nm1 Kb1) (fun _ _=>none)))) RR) n
noncomputable def ct1:Kont U El:=fun st=>exec X (cdp [1,1,1,1] bd) .d st RR (fun _ _=>none) RR
noncomputable def ct3 (Kb1 Kb2:Kont U El):Kont U El:=fun st=>exec X (cdp [1,1,1,0,1,0,0,1,1,1] bd) .d st (cutK nm2 Kb2) (Eblk 0 (cutK nm1 Kb1) (fun _ _=>none)) RR
noncomputable def ct4 (Kb1 Kb3:Kont U El):Kont U El:=fun st=>exec X (cdp [1,1,1,0,1,0,0,1,1,0,0,1,1,1] bd) .d st (cutK nm3 Kb3) (Eblk 1 (cutK nm3 Kb3) (Eblk 0 (cutK nm1 Kb1) (fun _ _=>none))) RR
theorem P0 (l):exec X (cdp [] bd) (.seq none .d (.seq none .d (.seq none .d (.seq (some nm1) (.seq none .d (.block (.loop nm2 (.seq none .d (.seq none .d (.seq (some nm3) (.block (.seq none .d (.seq none .d (.seq (some nm4) (.seq none .d (.block (.loop nm5 .d))) .d)))) .d)))))) .d)))) (fr0 l) RR (fun _ _=>none) RR=sh0 l (fun y0 y1 y2 y3=>(hid (it2 (hid ct1) 100000)) (fr2 y0 y1 y2 y3)):=by kernel_rfl
theorem P1 (aA):ct1 (fr1 aA)=sh1 aA:=by kernel_rfl
theorem P2 (cA dA bA aA) (Kb1 Kb2:Kont U El):exec X (cdp [1,1,1,0,1,0,0] bd) (.seq none .d (.seq none .d (.seq (some nm3) (.block (.seq none .d (.seq none .d (.seq (some nm4) (.seq none .d (.block (.loop nm5 .d))) .d)))) .d))) (fr2 cA dA bA aA) (cutK nm2 Kb2) (Eblk 0 (cutK nm1 Kb1) (fun _ _=>none)) RR=sh2 cA dA bA aA (fun y0=>Kb1 (fr1 y0)) (fun y0 y1 y2 y3 y4 y5 y6=>(hid (it5 Kb1 (hid (ct3 Kb1 Kb2)) (hid (ct4 Kb1 (hid (ct3 Kb1 Kb2)))) 100000)) (fr5 y0 y1 y2 y3 y4 y5 y6)):=by kernel_rfl
theorem P3 (cA dA bA aA) (Kb1 Kb2:Kont U El):ct3 Kb1 Kb2 (fr3 cA dA bA aA)=sh3 cA dA bA aA (fun y0 y1 y2 y3=>Kb2 (fr2 y0 y1 y2 y3)):=by kernel_rfl
theorem P4 (cA dA bA aA) (Kb1 Kb3:Kont U El):ct4 Kb1 Kb3 (fr4 cA dA bA aA)=sh4 cA dA bA aA (fun y0 y1 y2 y3=>Kb3 (fr3 y0 y1 y2 y3)):=by kernel_rfl
theorem P5 (cA dA bA fA gA eA aA) (Kb1 Kb3 Kb4 Kb5:Kont U El):exec X (cdp [1,1,1,0,1,0,0,1,1,0,0,1,1,0,1,0,0] bd) .d (fr5 cA dA bA fA gA eA aA) (cutK nm5 Kb5) (Eblk 2 (cutK nm4 Kb4) (Eblk 1 (cutK nm3 Kb3) (Eblk 0 (cutK nm1 Kb1) (fun _ _=>none)))) RR=sh5 cA dA bA fA gA eA aA (fun y0 y1 y2 y3=>Kb4 (fr4 y0 y1 y2 y3)) (fun y0 y1 y2 y3 y4 y5 y6=>Kb5 (fr5 y0 y1 y2 y3 y4 y5 y6)):=by kernel_rfl
noncomputable def f1 (aA:List UInt8):R:=sh1 aA
noncomputable def f3 (k2:Y2) (cA:List Df) (dA:Int) (bA:Int) (aA:List UInt8):R:=sh3 cA dA bA aA k2
noncomputable def f4 (k2:Y2) (cA:List Df) (dA:Int) (bA:Int) (aA:List UInt8):R:=sh4 cA dA bA aA (f3 k2)
noncomputable def f5 (k2:Y2):Nat→Y5
  | 0=>fun _ _ _ _ _ _ _=>none
  | n+1=>fun cA dA bA fA gA eA aA=>sh5 cA dA bA fA gA eA aA (f4 k2) (f5 k2 n)
noncomputable def f2:Nat→Y2
  | 0=>fun _ _ _ _=>none
  | n+1=>fun cA dA bA aA=>sh2 cA dA bA aA f1 (f5 (f2 n) 100000)
noncomputable def f0 (l:List Df):R:=sh0 l (f2 100000)
theorem T1 (aA):(hid ct1) (fr1 aA)=f1 aA:=by
  refine (congrFun (hid_eq _) _).trans <| (P1 aA).trans ?_
  show _=sh1 aA
  rfl
theorem T3 (KL2:Kont U El) (k2:Y2) (h2:∀ cA dA bA aA,KL2 (fr2 cA dA bA aA)=k2 cA dA bA aA) (cA dA bA aA):(hid (ct3 (hid ct1) KL2)) (fr3 cA dA bA aA)=f3 k2 cA dA bA aA:=by
  refine (congrFun (hid_eq _) _).trans <| (P3 cA dA bA aA (hid ct1) KL2).trans ?_
  show _=sh3 cA dA bA aA k2
  simp only [h2]
theorem T4 (KL2:Kont U El) (k2:Y2) (h2:∀ cA dA bA aA,KL2 (fr2 cA dA bA aA)=k2 cA dA bA aA) (cA dA bA aA):(hid (ct4 (hid ct1) (hid (ct3 (hid ct1) KL2)))) (fr4 cA dA bA aA)=f4 k2 cA dA bA aA:=by
  refine (congrFun (hid_eq _) _).trans <| (P4 cA dA bA aA (hid ct1) (hid (ct3 (hid ct1) KL2))).trans ?_
  show _=sh4 cA dA bA aA (f3 k2)
  simp only [T3 KL2 k2 h2]
theorem T5 (KL2:Kont U El) (k2:Y2) (h2:∀ cA dA bA aA,KL2 (fr2 cA dA bA aA)=k2 cA dA bA aA):∀ (n:Nat),∀ cA dA bA fA gA eA aA,it5 (hid ct1) (hid (ct3 (hid ct1) KL2)) (hid (ct4 (hid ct1) (hid (ct3 (hid ct1) KL2)))) n (fr5 cA dA bA fA gA eA aA)=f5 k2 n cA dA bA fA gA eA aA:=by
  intro n
  induction n with
  | zero=>intros; rfl
  | succ n ih =>
    intro cA dA bA fA gA eA aA
    refine (P5 cA dA bA fA gA eA aA (hid ct1) (hid (ct3 (hid ct1) KL2)) (hid (ct4 (hid ct1) (hid (ct3 (hid ct1) KL2)))) (it5 (hid ct1) (hid (ct3 (hid ct1) KL2)) (hid (ct4 (hid ct1) (hid (ct3 (hid ct1) KL2)))) n)).trans ?_
    show _=sh5 cA dA bA fA gA eA aA (f4 k2) (f5 k2 n)
    simp only [T4 KL2 k2 h2,ih]
theorem H5 (KL2:Kont U El) (k2:Y2) (h2:∀ cA dA bA aA,KL2 (fr2 cA dA bA aA)=k2 cA dA bA aA) (cA dA bA fA gA eA aA):hid (it5 (hid ct1) (hid (ct3 (hid ct1) KL2)) (hid (ct4 (hid ct1) (hid (ct3 (hid ct1) KL2)))) 100000) (fr5 cA dA bA fA gA eA aA)=f5 k2 100000 cA dA bA fA gA eA aA:=(congrFun (hid_eq _) _).trans (T5 KL2 k2 h2 100000 cA dA bA fA gA eA aA)
theorem T2:∀ (n:Nat),∀ cA dA bA aA,it2 (hid ct1) n (fr2 cA dA bA aA)=f2 n cA dA bA aA:=by
  intro n
  induction n with
  | zero=>intros; rfl
  | succ n ih =>
    intro cA dA bA aA
    refine (P2 cA dA bA aA (hid ct1) (it2 (hid ct1) n)).trans ?_
    show _=sh2 cA dA bA aA f1 (f5 (f2 n) 100000)
    simp only [T1,H5 (it2 (hid ct1) n) (f2 n) ih]
theorem H2 (cA dA bA aA):hid (it2 (hid ct1) 100000) (fr2 cA dA bA aA)=f2 100000 cA dA bA aA:=(congrFun (hid_eq _) _).trans (T2 100000 cA dA bA aA)
theorem T0 (l):exec X bd (.seq none .d (.seq none .d (.seq none .d (.seq (some nm1) (.seq none .d (.block (.loop nm2 (.seq none .d (.seq none .d (.seq (some nm3) (.block (.seq none .d (.seq none .d (.seq (some nm4) (.seq none .d (.block (.loop nm5 .d))) .d)))) .d)))))) .d)))) (fr0 l) RR (fun _ _=>none) RR=f0 l:=by
  refine (P0 l).trans ?_
  show _=sh0 l (f2 100000)
  simp only [H2]
theorem run (l):runFn X bd (.seq none .d (.seq none .d (.seq none .d (.seq (some nm1) (.seq none .d (.block (.loop nm2 (.seq none .d (.seq none .d (.seq (some nm3) (.block (.seq none .d (.seq none .d (.seq (some nm4) (.seq none .d (.block (.loop nm5 .d))) .d)))) .d)))))) .d)))) nmR [2,3] [] [(.lst .df l)]=f0 l:=T0 l
theorem loop5 (k2:List Df→Int→Int→List UInt8→R) (xs:List Df) (L j:Int) (ns:List Int) (hl:ns.length≤1000) (hr:∀ x∈ns,rngB x=true):∀ (n i:Nat) (buf:List UInt8),ns.length < n+i→i≤ns.length→buf.length+(numsS (ns.drop i)).length≤140737488355328 →
    f5 k2 n xs L j ns (Int.ofNat ns.length) (i:Int) buf=f4 k2 xs L j (buf++numsS (ns.drop i)):=by
  intro n
  induction n with
  | zero=>intro i buf h1 h2; omega
  | succ n ih =>
    intro i buf h1 h2 h3
    show sh5 xs L j ns (Int.ofNat ns.length) i buf (f4 k2) (f5 k2 n)=_
    unfold sh5
    by_cases hi:i < ns.length
    · rw [drop_lt hi] at h3 ⊢
      simp only [numsS,List.length_append] at h3
      have hr':=hr ns[i] (List.getElem_mem hi)
      rw [iltT (by simp; omega),inbT hi,toNat_nat,nltT hi,getD_lt hi,wrapS i (by omega)]
      unfold rngB at hr'
      rw [hr',nleT (by simp only [List.length_cons,List.length_nil] at h3 ⊢; omega),nleT (by simp only [List.length_append]; omega)]
      have:=ih (i+1) (buf++([32]++Lib.itoa ns[i])) (by omega) (by omega) (by simp only [List.length_append]; omega)
      refine Eq.trans this ?_
      simp only [numsS,List.append_assoc]
    · have : i = ns.length := by omega
      subst this
      rw [iltF (by simp),List.drop_length]
      simp only [numsS,List.append_nil]
      rfl
theorem loop2 (xs:List Df) (hl:xs.length≤1000000) (hr:∀ d∈xs,(rngB d.a&&(rngB d.l&&rngB d.s))=true):∀ (n i:Nat) (buf:List UInt8),xs.length < n+i→i≤xs.length→buf.length+(linesS (xs.drop i)).length≤140737488355328 →
    f2 n xs (Int.ofNat xs.length) (i:Int) buf=some (.tup [.str (buf++linesS (xs.drop i)),.int .i64 0],[]):=by
  intro n
  induction n with
  | zero=>intro i buf h1 h2; omega
  | succ n ih =>
    intro i buf h1 h2 h3
    show sh2 xs (Int.ofNat xs.length) i buf f1 (f5 (f2 n) 100000)=_
    unfold sh2
    by_cases hi:i < xs.length
    · rw [drop_lt hi] at h3 ⊢
      simp only [linesS,lineS,List.length_append] at h3
      have hr':=hr xs[i] (List.getElem_mem hi)
      simp only [Bool.and_eq_true] at hr'
      rw [iltT (by simp; omega),inbT hi,toNat_nat,getD_lt hi,nleT (by omega)]
      simp only [condB,chk,cond_true,Bool.and_self]
      refine (loop5 (f2 n) xs _ i [xs[i].a,xs[i].l,xs[i].s] (by simp) (by simp [hr']) 100000 0 _ (by simp) (by simp) (by simp only [List.length_append,List.drop_zero]; omega)).trans ?_
      unfold f4 sh4 f3 sh3
      simp only [List.drop_zero]
      rw [nleT (by simp only [List.length_append,List.length_cons,List.length_nil] at h3 ⊢; omega),wrapS i (by omega)]
      have:=ih (i+1) (buf++xs[i].c++numsS [xs[i].a,xs[i].l,xs[i].s]++[10]) (by omega) (by omega) (by simp only [List.length_append]; omega)
      refine Eq.trans this ?_
      simp only [linesS,lineS,List.append_assoc]
    · have : i = xs.length := by omega
      subst this
      rw [iltF (by simp),List.drop_length] at *
      simp only [linesS,List.append_nil,List.length_nil] at *
      unfold f1 sh1
      simp only [condB,cond_false]
      rw [nleT (by omega)]
      rfl
theorem f0_ok (l:List Df) (h:txtOk l=true):f0 l=some (.tup [.str (textS l),.int .i64 (textE l)],[]):=by
  unfold f0 sh0 textS textE
  cases hv:validB 16777216 l
  · rfl
  · unfold txtOk at h
    simp only [Bool.and_eq_true,nle,decide_eq_true_eq,List.all_eq_true] at h
    exact loop2 l (by have:=valid_len hv; omega) (fun d hd=>by have:=h.2 d hd; simp only [Bool.and_eq_true]; exact this) 100000 0 [] (by have:=valid_len hv; omega) (by omega) (by simpa using h.1)
theorem f0_eq (l:List Df):f0 l=some (.tup [.str (textS l),.int .i64 (textE l)],[]):=by
  cases hv:validB 16777216 l
  · unfold f0 sh0 textS textE
    rw [hv]
    rfl
  · exact f0_ok l (valid_txt hv)
theorem ok:CtxOk Tryz.prog X:=ctxOk tab (spC valid.spOk (spC itoa.spOk spN)) dpN
theorem okM:MOk Tryz.prog X:=mspecOf_ok _ (mpC (wsOk ok byteU rfl) (mpC (strOk ok byteU rfl) mpN))
theorem spec (l:List Df):CallSpec Tryz.prog E 7 [(.lst .df l)] (.tup [(.str (textS l)),(.int .i64 (textE l))]) [] :=
  runFn_sound ok okM Tryz.call7 Tryz.func7 (by kernel_rfl) (by kernel_rfl) (by kernel_rfl) (by show 1≤41; decide) (by decide) (by rfl) ((run l).trans (f0_eq l))
noncomputable def sp:Sp U El:=fun args k=>match args with
  | [.lst .df l]=>k (.tup [(.str (textS l)),(.int .i64 (textE l))]) []
  | _=>none
theorem spOk:SpOk Tryz.prog E 7 sp where
  det:=fun vs=>by
    unfold sp
    split
    · exact ⟨some (_,_),fun _=>rfl⟩
    · exact ⟨none,fun _=>rfl⟩
  ok:=fun vs k r h=>by
    unfold sp at h
    split at h
    · exact ⟨_,_,spec _,h⟩
    · cases h
end textF
namespace awake
noncomputable def bd:Code:=(Tryz.f5.body).getD .skip
noncomputable def X:Ctx U El:=⟨E,tds,zeros,eqs,specOf [(7,textF.sp),(15,score.sp),(16,gradeF.sp),(17,exampleF.sp),(18,worst.sp)],100000,65,dspecOf [],fun _=>none⟩
noncomputable def nmR:Norm U:=⟨[],[0],[],[],[],[],[]⟩
noncomputable def RR:Kont U El:=fun st=>normK nmR st (retFin [0] [])
noncomputable def fr0:St U El:=⟨[],[]⟩
noncomputable def sh0:R :=
  condB ((scoreE (10000:Int) (exampleL)) == (0:Int)) (condB ((scoreZ (10000:Int) (exampleL)) == (184:Int)) (condB ((scoreE (10000:Int) (exampleL)) == (0:Int)) (condB ((gradeF (10000:Int) (exampleL)) == (5:Int)) (condB ((worE (10000:Int) (4000:Int) (exampleL)) == (0:Int)) (condB ((wor1 (10000:Int) (4000:Int) (exampleL)) == (168:Int)) (condB ((wor2 (10000:Int) (4000:Int) (exampleL)) == (3000:Int)) (condB ((textE (exampleL)) == (0:Int)) (some ((.bool ((textS (exampleL)) == ([67,82,32,49,48,48,48,32,50,53,48,48,32,51,10,66,82,32,55,48,48,48,32,48,32,52,10]:List UInt8))),[])) (some ((.bool false),[]))) (some ((.bool false),[]))) (some ((.bool false),[]))) (some ((.bool false),[]))) (some ((.bool false),[]))) (some ((.bool false),[]))) (some ((.bool false),[]))) (some ((.bool false),[]))
theorem P0:exec X (cdp [] bd) .d (fr0) RR (fun _ _=>none) RR=sh0:=by kernel_rfl
noncomputable def f0:R:=sh0
theorem T0:exec X bd .d (fr0) RR (fun _ _=>none) RR=f0:=by
  refine (P0).trans ?_
  show _=sh0
  rfl
theorem run:runFn X bd .d nmR [0] [] []=f0:=T0
theorem f0_eq:f0=some (.bool true,[]):=by kernel_rfl
theorem ok:CtxOk Tryz.prog X:=ctxOk tab (spC textF.spOk (spC score.spOk (spC gradeF.spOk (spC exampleF.spOk (spC worst.spOk spN))))) dpN
theorem okM:MOk Tryz.prog X:=fun g sp h=>by cases h
theorem spec:CallSpec Tryz.prog E 5 [] (.bool (true)) [] :=
  runFn_sound ok okM Tryz.call5 Tryz.func5 (by kernel_rfl) (by kernel_rfl) (by kernel_rfl) (by show 0≤65; decide) (by decide) (by rfl) ((run).trans (f0_eq))
noncomputable def sp:Sp U El:=fun args k=>match args with
  | []=>k (.bool (true)) []
  | _=>none
theorem spOk:SpOk Tryz.prog E 5 sp where
  det:=fun vs=>by
    unfold sp
    split
    · exact ⟨some (_,_),fun _=>rfl⟩
    · exact ⟨none,fun _=>rfl⟩
  ok:=fun vs k r h=>by
    unfold sp at h
    split at h
    · exact ⟨_,_,spec,h⟩
    · cases h
end awake
end Go.Proofs.YtnhmhcobpbilhaaGreatDoor
