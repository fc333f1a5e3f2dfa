/- Which work is ready; orders of works. -/
import Derived.Test.YthdklallcljhlaaVB
namespace Go.Proofs.Ythdklallcljhlaa
set_option linter.unusedSectionVars false
set_option linter.unusedSimpArgs false
set_option linter.unusedVariables false
set_option maxRecDepth 100000
theorem okO_len {l:List Work} (h:okO l=true):l.length≤90000∧∀ w∈l,w.wa.length≤90000∧∀ a∈w.wa,inb a l.length=true:=by
  unfold okO at h
  simp only [Bool.and_eq_true] at h
  refine ⟨nleI h.1,fun w hw => ?_⟩
  have:=List.all_eq_true.1 h.2 w hw
  simp only [Bool.and_eq_true] at this
  exact ⟨nleI this.1,List.all_eq_true.1 this.2⟩
namespace rready
noncomputable def bd:Code:=(Try.f41.body).getD .skip
noncomputable def X:Ctx U El:=⟨E,tds,zeros,eqs,specOf [],100000,47,dspecOf [],fun _=>none⟩
noncomputable def nmR:Norm U:=⟨[],[6],[],[],[],[],[]⟩
noncomputable def RR:Kont U El:=fun st=>normK nmR st (retFin [6] [])
noncomputable def nm1:Norm U:=⟨[],[],[],[],[],[],[]⟩
noncomputable def nm2:Norm U:=⟨[],[0,1,7],[],[],[],[],[]⟩
noncomputable def nm3:Norm U:=⟨[],[0,1,7],[],[],[],[],[]⟩
noncomputable def nm4:Norm U:=⟨[],[0,1,7,8],[],[],[],[],[]⟩
noncomputable def nm5:Norm U:=⟨[],[0,1,7,8,9],[],[],[],[],[]⟩
noncomputable def nm6:Norm U:=⟨[],[0,1,7,8,9],[],[],[],[],[]⟩
abbrev Y1:=R
abbrev Y2:=(List Work)→(List Bool)→Int→R
abbrev Y3:=(List Work)→(List Bool)→Int→R
abbrev Y4:=(List Work)→(List Bool)→Int→Bool→R
abbrev Y5:=(List Work)→(List Bool)→Int→Bool→Int→R
abbrev Y6:=(List Work)→(List Bool)→Int→Bool→Int→R
noncomputable def fr0 (l:List Work) (dn:List Bool) (frm:Int):St U El:=⟨[(0,(.lst .work l)),(1,(.lst .bool dn)),(2,(.int .i64 frm))],[]⟩
noncomputable def fr1:St U El:=⟨[],[]⟩
noncomputable def fr2 (l0:List Work) (aA:List Bool) (i7:Int):St U El:=⟨[(0,(.lst .work l0)),(1,(.lst .bool aA)),(7,(.int .i64 i7))],[]⟩
noncomputable def fr3 (l0:List Work) (aA:List Bool) (i7:Int):St U El:=⟨[(0,(.lst .work l0)),(1,(.lst .bool aA)),(7,(.int .i64 i7))],[]⟩
noncomputable def fr4 (l0:List Work) (aA:List Bool) (i7:Int) (bA:Bool):St U El:=⟨[(0,(.lst .work l0)),(1,(.lst .bool aA)),(7,(.int .i64 i7)),(8,(.bool bA))],[]⟩
noncomputable def fr5 (l0:List Work) (aA:List Bool) (i7:Int) (bA:Bool) (cA:Int):St U El:=⟨[(0,(.lst .work l0)),(1,(.lst .bool aA)),(7,(.int .i64 i7)),(8,(.bool bA)),(9,(.int .i64 cA))],[]⟩
noncomputable def fr6 (l0:List Work) (aA:List Bool) (i7:Int) (bA:Bool) (cA:Int):St U El:=⟨[(0,(.lst .work l0)),(1,(.lst .bool aA)),(7,(.int .i64 i7)),(8,(.bool bA)),(9,(.int .i64 cA))],[]⟩
noncomputable def sh0 (l:List Work) (dn:List Bool) (frm:Int) (k2:Y2):R :=
  k2 l dn frm
noncomputable def sh1:R :=
  some ((.int .i64 (-1:Int)),[])
noncomputable def sh2 (l0:List Work) (aA:List Bool) (i7:Int) (k1:Y1) (k3:Y3) (k5:Y5):R :=
  condB (ilt i7 (Int.ofNat (List.length l0))) (chk (inb i7 (List.length aA)) (condB (List.getD aA (Int.toNat i7) d_bool) (k3 l0 aA i7) (k5 l0 aA i7 true (0:Int)))) (k1)
noncomputable def sh3 (l0:List Work) (aA:List Bool) (i7:Int) (k2:Y2):R :=
  k2 l0 aA (IntKind.wrap .i64 (i7+(1:Int)))
noncomputable def sh4 (l0:List Work) (aA:List Bool) (i7:Int) (bA:Bool) (k3:Y3):R :=
  condB bA (some ((.int .i64 i7),[])) (k3 l0 aA i7)
noncomputable def sh5 (l0:List Work) (aA:List Bool) (i7:Int) (bA:Bool) (cA:Int) (k4:Y4) (k6:Y6):R :=
  chk (inb i7 (List.length l0)) (condB (ilt cA (Int.ofNat (List.length ((List.getD l0 (Int.toNat i7) d_work).wa)))) (condB bA (chk (inb i7 (List.length l0)) (chk (inb cA (List.length ((List.getD l0 (Int.toNat i7) d_work).wa))) (chk (inb (List.getD ((List.getD l0 (Int.toNat i7) d_work).wa) (Int.toNat cA) d_int) (List.length aA)) (k6 l0 aA i7 (List.getD aA (Int.toNat (List.getD ((List.getD l0 (Int.toNat i7) d_work).wa) (Int.toNat cA) d_int)) d_bool) cA)))) (k6 l0 aA i7 false cA)) (k4 l0 aA i7 bA))
noncomputable def sh6 (l0:List Work) (aA:List Bool) (i7:Int) (bA:Bool) (cA:Int) (k5:Y5):R :=
  k5 l0 aA i7 bA (IntKind.wrap .i64 (cA+(1:Int)))
noncomputable def it2 (Kb1:Kont U El) (n:Nat):Kont U El:=iter nm2 (fun st' K'=>exec X (cdp [1,0,1,0,0] bd) (.seq none .d (.seq (some nm3) (.block (.seq none .d (.seq none .d (.seq (some nm4) (.seq none .d (.block (.loop nm5 (.seq none .d (.seq (some nm6) .d .d))))) .d)))) .d)) st' K' (Eblk 0 (cutK nm1 Kb1) (fun _ _=>none)) RR) n
noncomputable def it5 (Kb1 Kb3 Kb4:Kont U El) (n:Nat):Kont U El:=iter nm5 (fun st' K'=>exec X (cdp [1,0,1,0,0,1,0,0,1,1,0,1,0,0] bd) (.seq none .d (.seq (some nm6) .d .d)) st' K' (Eblk 2 (cutK nm4 Kb4) (Eblk 1 (cutK nm3 Kb3) (Eblk 0 (cutK nm1 Kb1) (fun _ _=>none)))) RR) n
noncomputable def ct1:Kont U El:=fun st=>exec X (cdp [1,1] bd) .d st RR (fun _ _=>none) RR
noncomputable def ct3 (Kb1 Kb2:Kont U El):Kont U El:=fun st=>exec X (cdp [1,0,1,0,0,1,1] bd) .d st (cutK nm2 Kb2) (Eblk 0 (cutK nm1 Kb1) (fun _ _=>none)) RR
noncomputable def ct4 (Kb1 Kb3:Kont U El):Kont U El:=fun st=>exec X (cdp [1,0,1,0,0,1,0,0,1,1,1] bd) .d st (cutK nm3 Kb3) (Eblk 1 (cutK nm3 Kb3) (Eblk 0 (cutK nm1 Kb1) (fun _ _=>none))) RR
noncomputable def ct6 (Kb1 Kb3 Kb4 Kb5:Kont U El):Kont U El:=fun st=>exec X (cdp [1,0,1,0,0,1,0,0,1,1,0,1,0,0,1,1] bd) .d st (cutK nm5 Kb5) (Eblk 2 (cutK nm4 Kb4) (Eblk 1 (cutK nm3 Kb3) (Eblk 0 (cutK nm1 Kb1) (fun _ _=>none)))) RR
theorem P0 (l dn frm):exec X (cdp [] bd) (.seq none .d (.seq (some nm1) (.seq none .d (.block (.loop nm2 (.seq none .d (.seq (some nm3) (.block (.seq none .d (.seq none .d (.seq (some nm4) (.seq none .d (.block (.loop nm5 (.seq none .d (.seq (some nm6) .d .d))))) .d)))) .d))))) .d)) (fr0 l dn frm) RR (fun _ _=>none) RR=sh0 l dn frm (fun y0 y1 y2=>(hid (it2 (hid ct1) 100000)) (fr2 y0 y1 y2)):=by kernel_rfl
theorem P1:ct1 (fr1)=sh1:=by kernel_rfl
theorem P2 (l0 aA i7) (Kb1 Kb2:Kont U El):exec X (cdp [1,0,1,0,0] bd) (.seq none .d (.seq (some nm3) (.block (.seq none .d (.seq none .d (.seq (some nm4) (.seq none .d (.block (.loop nm5 (.seq none .d (.seq (some nm6) .d .d))))) .d)))) .d)) (fr2 l0 aA i7) (cutK nm2 Kb2) (Eblk 0 (cutK nm1 Kb1) (fun _ _=>none)) RR=sh2 l0 aA i7 (Kb1 (fr1)) (fun y0 y1 y2=>(hid (ct3 Kb1 Kb2)) (fr3 y0 y1 y2)) (fun y0 y1 y2 y3 y4=>(hid (it5 Kb1 (hid (ct3 Kb1 Kb2)) (hid (ct4 Kb1 (hid (ct3 Kb1 Kb2)))) 100000)) (fr5 y0 y1 y2 y3 y4)):=by kernel_rfl
theorem P3 (l0 aA i7) (Kb1 Kb2:Kont U El):ct3 Kb1 Kb2 (fr3 l0 aA i7)=sh3 l0 aA i7 (fun y0 y1 y2=>Kb2 (fr2 y0 y1 y2)):=by kernel_rfl
theorem P4 (l0 aA i7 bA) (Kb1 Kb3:Kont U El):ct4 Kb1 Kb3 (fr4 l0 aA i7 bA)=sh4 l0 aA i7 bA (fun y0 y1 y2=>Kb3 (fr3 y0 y1 y2)):=by kernel_rfl
theorem P5 (l0 aA i7 bA cA) (Kb1 Kb3 Kb4 Kb5:Kont U El):exec X (cdp [1,0,1,0,0,1,0,0,1,1,0,1,0,0] bd) (.seq none .d (.seq (some nm6) .d .d)) (fr5 l0 aA i7 bA cA) (cutK nm5 Kb5) (Eblk 2 (cutK nm4 Kb4) (Eblk 1 (cutK nm3 Kb3) (Eblk 0 (cutK nm1 Kb1) (fun _ _=>none)))) RR=sh5 l0 aA i7 bA cA (fun y0 y1 y2 y3=>Kb4 (fr4 y0 y1 y2 y3)) (fun y0 y1 y2 y3 y4=>(hid (ct6 Kb1 Kb3 Kb4 Kb5)) (fr6 y0 y1 y2 y3 y4)):=by kernel_rfl
theorem P6 (l0 aA i7 bA cA) (Kb1 Kb3 Kb4 Kb5:Kont U El):ct6 Kb1 Kb3 Kb4 Kb5 (fr6 l0 aA i7 bA cA)=sh6 l0 aA i7 bA cA (fun y0 y1 y2 y3 y4=>Kb5 (fr5 y0 y1 y2 y3 y4)):=by kernel_rfl
noncomputable def f1:R:=sh1
noncomputable def f3 (k2:Y2) (l0:List Work) (aA:List Bool) (i7:Int):R:=sh3 l0 aA i7 k2
noncomputable def f4 (k2:Y2) (l0:List Work) (aA:List Bool) (i7:Int) (bA:Bool):R:=sh4 l0 aA i7 bA (f3 k2)
noncomputable def f6 (k2:Y2) (k5:Y5) (l0:List Work) (aA:List Bool) (i7:Int) (bA:Bool) (cA:Int):R:=sh6 l0 aA i7 bA cA k5
noncomputable def f5 (k2:Y2):Nat→Y5
  | 0=>fun _ _ _ _ _=>none
  | n+1=>fun l0 aA i7 bA cA=>sh5 l0 aA i7 bA cA (f4 k2) (f6 k2 (f5 k2 n))
noncomputable def f2:Nat→Y2
  | 0=>fun _ _ _=>none
  | n+1=>fun l0 aA i7=>sh2 l0 aA i7 f1 (f3 (f2 n)) (f5 (f2 n) 100000)
noncomputable def f0 (l:List Work) (dn:List Bool) (frm:Int):R:=sh0 l dn frm (f2 100000)
theorem T1:(hid ct1) (fr1)=f1:=by
  refine (congrFun (hid_eq _) _).trans <| (P1).trans ?_
  show _=sh1
  rfl
theorem T3 (KL2:Kont U El) (k2:Y2) (h2:∀ l0 aA i7,KL2 (fr2 l0 aA i7)=k2 l0 aA i7) (l0 aA i7):(hid (ct3 (hid ct1) KL2)) (fr3 l0 aA i7)=f3 k2 l0 aA i7:=by
  refine (congrFun (hid_eq _) _).trans <| (P3 l0 aA i7 (hid ct1) KL2).trans ?_
  show _=sh3 l0 aA i7 k2
  simp only [h2]
theorem T4 (KL2:Kont U El) (k2:Y2) (h2:∀ l0 aA i7,KL2 (fr2 l0 aA i7)=k2 l0 aA i7) (l0 aA i7 bA):(hid (ct4 (hid ct1) (hid (ct3 (hid ct1) KL2)))) (fr4 l0 aA i7 bA)=f4 k2 l0 aA i7 bA:=by
  refine (congrFun (hid_eq _) _).trans <| (P4 l0 aA i7 bA (hid ct1) (hid (ct3 (hid ct1) KL2))).trans ?_
  show _=sh4 l0 aA i7 bA (f3 k2)
  simp only [T3 KL2 k2 h2]
theorem T6 (KL2:Kont U El) (KL5:Kont U El) (k2:Y2) (k5:Y5) (h2:∀ l0 aA i7,KL2 (fr2 l0 aA i7)=k2 l0 aA i7) (h5:∀ l0 aA i7 bA cA,KL5 (fr5 l0 aA i7 bA cA)=k5 l0 aA i7 bA cA) (l0 aA i7 bA cA):(hid (ct6 (hid ct1) (hid (ct3 (hid ct1) KL2)) (hid (ct4 (hid ct1) (hid (ct3 (hid ct1) KL2)))) KL5)) (fr6 l0 aA i7 bA cA)=f6 k2 k5 l0 aA i7 bA cA:=by
  refine (congrFun (hid_eq _) _).trans <| (P6 l0 aA i7 bA cA (hid ct1) (hid (ct3 (hid ct1) KL2)) (hid (ct4 (hid ct1) (hid (ct3 (hid ct1) KL2)))) KL5).trans ?_
  show _=sh6 l0 aA i7 bA cA k5
  simp only [h5]
theorem T5 (KL2:Kont U El) (k2:Y2) (h2:∀ l0 aA i7,KL2 (fr2 l0 aA i7)=k2 l0 aA i7):∀ (n:Nat),∀ l0 aA i7 bA cA,it5 (hid ct1) (hid (ct3 (hid ct1) KL2)) (hid (ct4 (hid ct1) (hid (ct3 (hid ct1) KL2)))) n (fr5 l0 aA i7 bA cA)=f5 k2 n l0 aA i7 bA cA:=by
  intro n
  induction n with
  | zero=>intros; rfl
  | succ n ih =>
    intro l0 aA i7 bA cA
    refine (P5 l0 aA i7 bA cA (hid ct1) (hid (ct3 (hid ct1) KL2)) (hid (ct4 (hid ct1) (hid (ct3 (hid ct1) KL2)))) (it5 (hid ct1) (hid (ct3 (hid ct1) KL2)) (hid (ct4 (hid ct1) (hid (ct3 (hid ct1) KL2)))) n)).trans ?_
    show _=sh5 l0 aA i7 bA cA (f4 k2) (f6 k2 (f5 k2 n))
    simp only [T4 KL2 k2 h2,T6 KL2 (it5 (hid ct1) (hid (ct3 (hid ct1) KL2)) (hid (ct4 (hid ct1) (hid (ct3 (hid ct1) KL2)))) n) k2 (f5 k2 n) h2 ih]
theorem H5 (KL2:Kont U El) (k2:Y2) (h2:∀ l0 aA i7,KL2 (fr2 l0 aA i7)=k2 l0 aA i7) (l0 aA i7 bA cA):hid (it5 (hid ct1) (hid (ct3 (hid ct1) KL2)) (hid (ct4 (hid ct1) (hid (ct3 (hid ct1) KL2)))) 100000) (fr5 l0 aA i7 bA cA)=f5 k2 100000 l0 aA i7 bA cA:=(congrFun (hid_eq _) _).trans (T5 KL2 k2 h2 100000 l0 aA i7 bA cA)
theorem T2:∀ (n:Nat),∀ l0 aA i7,it2 (hid ct1) n (fr2 l0 aA i7)=f2 n l0 aA i7:=by
  intro n
  induction n with
  | zero=>intros; rfl
  | succ n ih =>
    intro l0 aA i7
    refine (P2 l0 aA i7 (hid ct1) (it2 (hid ct1) n)).trans ?_
    show _=sh2 l0 aA i7 f1 (f3 (f2 n)) (f5 (f2 n) 100000)
    simp only [T1,T3 (it2 (hid ct1) n) (f2 n) ih,H5 (it2 (hid ct1) n) (f2 n) ih]
theorem H2 (l0 aA i7):hid (it2 (hid ct1) 100000) (fr2 l0 aA i7)=f2 100000 l0 aA i7:=(congrFun (hid_eq _) _).trans (T2 100000 l0 aA i7)
theorem T0 (l dn frm):exec X bd (.seq none .d (.seq (some nm1) (.seq none .d (.block (.loop nm2 (.seq none .d (.seq (some nm3) (.block (.seq none .d (.seq none .d (.seq (some nm4) (.seq none .d (.block (.loop nm5 (.seq none .d (.seq (some nm6) .d .d))))) .d)))) .d))))) .d)) (fr0 l dn frm) RR (fun _ _=>none) RR=f0 l dn frm:=by
  refine (P0 l dn frm).trans ?_
  show _=sh0 l dn frm (f2 100000)
  simp only [H2]
theorem run (l dn frm):runFn X bd (.seq none .d (.seq (some nm1) (.seq none .d (.block (.loop nm2 (.seq none .d (.seq (some nm3) (.block (.seq none .d (.seq none .d (.seq (some nm4) (.seq none .d (.block (.loop nm5 (.seq none .d (.seq (some nm6) .d .d))))) .d)))) .d))))) .d)) nmR [6] [] [(.lst .work l),(.lst .bool dn),(.int .i64 frm)]=f0 l dn frm:=T0 l dn frm
theorem inner (l : List Work) (dn : List Bool) (k2 : Y2) (i : Nat) (hi : i < l.length) (hw : l[i].wa.length ≤ 90000) (ha : ∀ a ∈ l[i].wa, inb a dn.length = true) : ∀ (n j : Nat) (ok : Bool), l[i].wa.length < n + j → j ≤ l[i].wa.length →
    f5 k2 n l dn (i:Int) ok (j:Int)=f4 k2 l dn (i:Int) (ok&&List.all (l[i].wa.drop j) (fun a=>List.getD dn (Int.toNat a) d_bool)):=by
  intro n
  induction n with
  | zero=>intro j ok h1 h2; omega
  | succ n ih =>
    intro j ok h1 h2
    show sh5 l dn (i:Int) ok (j:Int) (f4 k2) (f6 k2 (f5 k2 n))=_
    unfold sh5
    rw [inbT hi,toNat_nat,getD_lt hi]
    by_cases hj:j < l[i].wa.length
    · have e : ∀ b : Bool, f6 k2 (f5 k2 n) l dn (i : Int) b (j : Int) = f4 k2 l dn (i : Int) (b && List.all (l[i].wa.drop (j + 1)) (fun a => List.getD dn (Int.toNat a) d_bool)) := fun b => by
        show f5 k2 n l dn (i:Int) b (IntKind.wrap .i64 ((j:Int)+1))=_
        rw [wrapS j (by omega)]
        exact ih (j+1) b (by omega) hj
      rw [iltT (by simp; omega),inbT hj,toNat_nat,getD_lt hj,ha _ (List.getElem_mem hj),e,e,drop_lt hj,List.all_cons]
      cases ok<;>rfl
    · have : j = l[i].wa.length := by omega
      subst this
      rw [iltF (by simp),List.drop_length,List.all_nil,Bool.and_true]
      rfl
theorem loop (l : List Work) (dn : List Bool) (hl : l.length ≤ 90000) (hdl : dn.length = l.length) (hw : ∀ w ∈ l, w.wa.length ≤ 90000 ∧ ∀ a ∈ w.wa, inb a l.length = true) : ∀ (n i : Nat), l.length < n + i → i ≤ l.length → f2 n l dn (i : Int) = outI (readyN dn i (l.drop i)) := by
  intro n
  induction n with
  | zero=>intro i h1 h2; omega
  | succ n ih =>
    intro i h1 h2
    show sh2 l dn (i:Int) f1 (f3 (f2 n)) (f5 (f2 n) 100000)=_
    unfold sh2
    by_cases hi:i < l.length
    · have hid : i < dn.length := by omega
      obtain ⟨w1,w2⟩:=hw _ (List.getElem_mem hi)
      have e:=inner l dn (f2 n) i hi w1 (by rw [hdl]; exact w2) 100000 0 true (by omega) (by omega)
      have e2:f3 (f2 n) l dn (i:Int)=outI (readyN dn (i+1) (l.drop (i+1))):=by
        show f2 n l dn (IntKind.wrap .i64 ((i:Int)+1))=_
        rw [wrapS i (by omega)]
        exact ih (i+1) (by omega) hi
      have e3:∀ b:Bool,f4 (f2 n) l dn (i:Int) b=condB b (outI (i:Int)) (f3 (f2 n) l dn (i:Int)):=fun b=>rfl
      rw [iltT (by simp; omega),inbT hid,toNat_nat,show ((0:Int))=((0:Nat):Int) from rfl,e,e3,e2,drop_lt hi,List.drop_zero]
      simp only [readyN]
      show _=outI (bif !(List.getD dn i d_bool)&&rdy dn l[i] then (i:Int) else readyN dn (i+1) (l.drop (i+1)))
      unfold rdy
      cases List.getD dn i d_bool<;>cases List.all l[i].wa (fun a=>List.getD dn (Int.toNat a) d_bool)<;>rfl
    · have : i = l.length := by omega
      subst this
      rw [iltF (by simp),List.drop_length]
      rfl
theorem f0_eq (l:List Work) (dn:List Bool) (frm:Int) (h:(okO l&&(Nat.beq (List.length dn) (List.length l)&&ile 0 frm))=true):f0 l dn frm=outI (readyZ l dn frm):=by
  simp only [Bool.and_eq_true] at h
  obtain ⟨h1,h2,h3⟩:=h
  obtain ⟨g1,g2⟩:=okO_len h1
  obtain ⟨q,rfl⟩:=Int.eq_ofNat_of_zero_le (ileI h3)
  show f2 100000 l dn (q:Int)=_
  unfold readyZ
  rw [toNat_nat]
  by_cases hq:q≤l.length
  · exact loop l dn g1 (Nat.eq_of_beq_eq_true h2) g2 100000 q (by omega) hq
  · show sh2 l dn (q : Int) f1 (f3 (f2 99999)) (f5 (f2 99999) 100000) = _
    unfold sh2
    rw [iltF (by simp; omega),List.drop_eq_nil_of_le (by omega)]
    rfl
theorem ok:CtxOk Try.prog X:=ctxOk tab spN dpN
theorem okM:MOk Try.prog X:=fun g sp h=>by cases h
theorem spec (l:List Work) (dn:List Bool) (frm:Int) (h:((okO l&&(Nat.beq (List.length dn) (List.length l)&&ile 0 frm)))=true):CallSpec Try.prog E 41 [(.lst .work l),(.lst .bool dn),(.int .i64 frm)] (.int .i64 (readyZ l dn frm)) [] :=
  runFn_sound ok okM Try.call41 Try.func41 (by kernel_rfl) (by kernel_rfl) (by kernel_rfl) (by show 3≤47; decide) (by decide) (by rfl) ((run l dn frm).trans (f0_eq l dn frm h))
noncomputable def sp:Sp U El:=fun args k=>match args with
  | [.lst .work l,.lst .bool dn,.int .i64 frm]=>chk ((okO l&&(Nat.beq (List.length dn) (List.length l)&&ile 0 frm))) (k (.int .i64 (readyZ l dn frm)) [])
  | _=>none
theorem spOk:SpOk Try.prog E 41 sp where
  det:=fun vs=>by
    unfold sp
    split
    · exact det_c _ _ _
    · exact ⟨none,fun _=>rfl⟩
  ok:=fun vs k r h=>by
    unfold sp at h
    split at h
    · obtain ⟨h1, h2⟩ := chk_some h
      exact ⟨_,_,spec _ _ _ h1,h2⟩
    · cases h
end rready
end Go.Proofs.Ythdklallcljhlaa
