/- Which work is ready; orders of works. -/
import Derived.Test.YthdklallcljhlaaGreatDoorVB
namespace Go.Proofs.YthdklallcljhlaaGreatDoor
set_option linter.unusedSectionVars false
set_option linter.unusedSimpArgs false
set_option linter.unusedVariables false
set_option maxRecDepth 100000
theorem gn {l:List Work} (h:okO l=true):l.length≤90000∧∀ w∈l,w.wa.length≤90000∧∀ a∈w.wa,inb a l.length=true:=by
  unfold okO at h
  simp only [Bool.and_eq_true] at h
  refine ⟨cm h.1,fun w hw => ?_⟩
  have:=List.all_eq_true.1 h.2 w hw
  simp only [Bool.and_eq_true] at this
  exact ⟨cm this.1,List.all_eq_true.1 this.2⟩
namespace rready
noncomputable def bd:Code:=(Tryz.f78.body).getD .skip
noncomputable def X:Ctx U El:=⟨E,tds,zeros,eqs,aH [],100000,47,aB [],fun _=>none⟩
noncomputable def nmR:Norm U:=⟨[],[6],[],[],[],[],[]⟩
noncomputable def RR:ah U El:=fun st=>aL nmR st (aG [6] [])
noncomputable def nm1:Norm U:=⟨[],[],[],[],[],[],[]⟩
noncomputable def nm2:Norm U:=⟨[],[0,1,7],[],[],[],[],[]⟩
noncomputable def nm3:Norm U:=⟨[],[0,1,7],[],[],[],[],[]⟩
noncomputable def nm4:Norm U:=⟨[],[0,1,7,8],[],[],[],[],[]⟩
noncomputable def nm5:Norm U:=⟨[],[0,1,7,8,9],[],[],[],[],[]⟩
noncomputable def nm6:Norm U:=⟨[],[0,1,7,8,9],[],[],[],[],[]⟩
abbrev Y1:=R
abbrev Y2:=(List Work)→(List Bool)→Int→R
abbrev Y3:=(List Work)→(List Bool)→Int→R
abbrev Y4:=(List Work)→(List Bool)→Int→Bool→R
abbrev Y5:=(List Work)→(List Bool)→Int→Bool→Int→R
abbrev Y6:=(List Work)→(List Bool)→Int→Bool→Int→R
noncomputable def fr0 (l:List Work) (dn:List Bool) (frm:Int):St U El:=⟨[(0,(.lst .work l)),(1,(.lst .bool dn)),(2,(.int .i64 frm))],[]⟩
noncomputable def fr1:St U El:=⟨[],[]⟩
noncomputable def fr2 (l0:List Work) (aA:List Bool) (i7:Int):St U El:=⟨[(0,(.lst .work l0)),(1,(.lst .bool aA)),(7,(.int .i64 i7))],[]⟩
noncomputable def fr3 (l0:List Work) (aA:List Bool) (i7:Int):St U El:=⟨[(0,(.lst .work l0)),(1,(.lst .bool aA)),(7,(.int .i64 i7))],[]⟩
noncomputable def fr4 (l0:List Work) (aA:List Bool) (i7:Int) (bA:Bool):St U El:=⟨[(0,(.lst .work l0)),(1,(.lst .bool aA)),(7,(.int .i64 i7)),(8,(.bool bA))],[]⟩
noncomputable def fr5 (l0:List Work) (aA:List Bool) (i7:Int) (bA:Bool) (cA:Int):St U El:=⟨[(0,(.lst .work l0)),(1,(.lst .bool aA)),(7,(.int .i64 i7)),(8,(.bool bA)),(9,(.int .i64 cA))],[]⟩
noncomputable def fr6 (l0:List Work) (aA:List Bool) (i7:Int) (bA:Bool) (cA:Int):St U El:=⟨[(0,(.lst .work l0)),(1,(.lst .bool aA)),(7,(.int .i64 i7)),(8,(.bool bA)),(9,(.int .i64 cA))],[]⟩
noncomputable def sh0 (l:List Work) (dn:List Bool) (frm:Int) (k2:Y2):R :=
  k2 l dn frm
noncomputable def sh1:R :=
  some ((.int .i64 (-1:Int)),[])
noncomputable def sh2 (l0:List Work) (aA:List Bool) (i7:Int) (k1:Y1) (k3:Y3) (k5:Y5):R :=
  af (ilt i7 (Int.ofNat (List.length l0))) (chk (inb i7 (List.length aA)) (af (List.getD aA (Int.toNat i7) d_bool) (k3 l0 aA i7) (k5 l0 aA i7 true (0:Int)))) (k1)
noncomputable def sh3 (l0:List Work) (aA:List Bool) (i7:Int) (k2:Y2):R :=
  k2 l0 aA (IntKind.wrap .i64 (i7+(1:Int)))
noncomputable def sh4 (l0:List Work) (aA:List Bool) (i7:Int) (bA:Bool) (k3:Y3):R :=
  af bA (some ((.int .i64 i7),[])) (k3 l0 aA i7)
noncomputable def sh5 (l0:List Work) (aA:List Bool) (i7:Int) (bA:Bool) (cA:Int) (k4:Y4) (k6:Y6):R :=
  chk (inb i7 (List.length l0)) (af (ilt cA (Int.ofNat (List.length ((List.getD l0 (Int.toNat i7) ab).wa)))) (af bA (chk (inb i7 (List.length l0)) (chk (inb cA (List.length ((List.getD l0 (Int.toNat i7) ab).wa))) (chk (inb (List.getD ((List.getD l0 (Int.toNat i7) ab).wa) (Int.toNat cA) bJ) (List.length aA)) (k6 l0 aA i7 (List.getD aA (Int.toNat (List.getD ((List.getD l0 (Int.toNat i7) ab).wa) (Int.toNat cA) bJ)) d_bool) cA)))) (k6 l0 aA i7 false cA)) (k4 l0 aA i7 bA))
noncomputable def sh6 (l0:List Work) (aA:List Bool) (i7:Int) (bA:Bool) (cA:Int) (k5:Y5):R :=
  k5 l0 aA i7 bA (IntKind.wrap .i64 (cA+(1:Int)))
noncomputable def it2 (Kb1:ah U El) (n:Nat):ah U El:=bD nm2 (fun st' K'=>ak X (cdp [1,0,1,0,0] bd) (.seq none .d (.seq (some nm3) (.block (.seq none .d (.seq none .d (.seq (some nm4) (.seq none .d (.block (.loop nm5 (.seq none .d (.seq (some nm6) .d .d))))) .d)))) .d)) st' K' (aC 0 (ap nm1 Kb1) (fun _ _=>none)) RR) n
noncomputable def it5 (Kb1 Kb3 Kb4:ah U El) (n:Nat):ah U El:=bD nm5 (fun st' K'=>ak X (cdp [1,0,1,0,0,1,0,0,1,1,0,1,0,0] bd) (.seq none .d (.seq (some nm6) .d .d)) st' K' (aC 2 (ap nm4 Kb4) (aC 1 (ap nm3 Kb3) (aC 0 (ap nm1 Kb1) (fun _ _=>none)))) RR) n
noncomputable def ct1:ah U El:=fun st=>ak X (cdp [1,1] bd) .d st RR (fun _ _=>none) RR
noncomputable def ct3 (Kb1 Kb2:ah U El):ah U El:=fun st=>ak X (cdp [1,0,1,0,0,1,1] bd) .d st (ap nm2 Kb2) (aC 0 (ap nm1 Kb1) (fun _ _=>none)) RR
noncomputable def ct4 (Kb1 Kb3:ah U El):ah U El:=fun st=>ak X (cdp [1,0,1,0,0,1,0,0,1,1,1] bd) .d st (ap nm3 Kb3) (aC 1 (ap nm3 Kb3) (aC 0 (ap nm1 Kb1) (fun _ _=>none))) RR
noncomputable def ct6 (Kb1 Kb3 Kb4 Kb5:ah U El):ah U El:=fun st=>ak X (cdp [1,0,1,0,0,1,0,0,1,1,0,1,0,0,1,1] bd) .d st (ap nm5 Kb5) (aC 2 (ap nm4 Kb4) (aC 1 (ap nm3 Kb3) (aC 0 (ap nm1 Kb1) (fun _ _=>none)))) RR
theorem P0 (l dn frm):ak X (cdp [] bd) (.seq none .d (.seq (some nm1) (.seq none .d (.block (.loop nm2 (.seq none .d (.seq (some nm3) (.block (.seq none .d (.seq none .d (.seq (some nm4) (.seq none .d (.block (.loop nm5 (.seq none .d (.seq (some nm6) .d .d))))) .d)))) .d))))) .d)) (fr0 l dn frm) RR (fun _ _=>none) RR=sh0 l dn frm (fun y0 y1 y2=>(hid (it2 (hid ct1) 100000)) (fr2 y0 y1 y2)):=by kernel_rfl
theorem P1:ct1 (fr1)=sh1:=by kernel_rfl
theorem P2 (l0 aA i7) (Kb1 Kb2:ah U El):ak X (cdp [1,0,1,0,0] bd) (.seq none .d (.seq (some nm3) (.block (.seq none .d (.seq none .d (.seq (some nm4) (.seq none .d (.block (.loop nm5 (.seq none .d (.seq (some nm6) .d .d))))) .d)))) .d)) (fr2 l0 aA i7) (ap nm2 Kb2) (aC 0 (ap nm1 Kb1) (fun _ _=>none)) RR=sh2 l0 aA i7 (Kb1 (fr1)) (fun y0 y1 y2=>(hid (ct3 Kb1 Kb2)) (fr3 y0 y1 y2)) (fun y0 y1 y2 y3 y4=>(hid (it5 Kb1 (hid (ct3 Kb1 Kb2)) (hid (ct4 Kb1 (hid (ct3 Kb1 Kb2)))) 100000)) (fr5 y0 y1 y2 y3 y4)):=by kernel_rfl
theorem P3 (l0 aA i7) (Kb1 Kb2:ah U El):ct3 Kb1 Kb2 (fr3 l0 aA i7)=sh3 l0 aA i7 (fun y0 y1 y2=>Kb2 (fr2 y0 y1 y2)):=by kernel_rfl
theorem P4 (l0 aA i7 bA) (Kb1 Kb3:ah U El):ct4 Kb1 Kb3 (fr4 l0 aA i7 bA)=sh4 l0 aA i7 bA (fun y0 y1 y2=>Kb3 (fr3 y0 y1 y2)):=by kernel_rfl
theorem P5 (l0 aA i7 bA cA) (Kb1 Kb3 Kb4 Kb5:ah U El):ak X (cdp [1,0,1,0,0,1,0,0,1,1,0,1,0,0] bd) (.seq none .d (.seq (some nm6) .d .d)) (fr5 l0 aA i7 bA cA) (ap nm5 Kb5) (aC 2 (ap nm4 Kb4) (aC 1 (ap nm3 Kb3) (aC 0 (ap nm1 Kb1) (fun _ _=>none)))) RR=sh5 l0 aA i7 bA cA (fun y0 y1 y2 y3=>Kb4 (fr4 y0 y1 y2 y3)) (fun y0 y1 y2 y3 y4=>(hid (ct6 Kb1 Kb3 Kb4 Kb5)) (fr6 y0 y1 y2 y3 y4)):=by kernel_rfl
theorem P6 (l0 aA i7 bA cA) (Kb1 Kb3 Kb4 Kb5:ah U El):ct6 Kb1 Kb3 Kb4 Kb5 (fr6 l0 aA i7 bA cA)=sh6 l0 aA i7 bA cA (fun y0 y1 y2 y3 y4=>Kb5 (fr5 y0 y1 y2 y3 y4)):=by kernel_rfl
noncomputable def f1:R:=sh1
noncomputable def f3 (k2:Y2) (l0:List Work) (aA:List Bool) (i7:Int):R:=sh3 l0 aA i7 k2
noncomputable def f4 (k2:Y2) (l0:List Work) (aA:List Bool) (i7:Int) (bA:Bool):R:=sh4 l0 aA i7 bA (f3 k2)
noncomputable def f6 (k2:Y2) (k5:Y5) (l0:List Work) (aA:List Bool) (i7:Int) (bA:Bool) (cA:Int):R:=sh6 l0 aA i7 bA cA k5
noncomputable def f5 (k2:Y2):Nat→Y5
  | 0=>fun _ _ _ _ _=>none
  | n+1=>fun l0 aA i7 bA cA=>sh5 l0 aA i7 bA cA (f4 k2) (f6 k2 (f5 k2 n))
noncomputable def f2:Nat→Y2
  | 0=>fun _ _ _=>none
  | n+1=>fun l0 aA i7=>sh2 l0 aA i7 f1 (f3 (f2 n)) (f5 (f2 n) 100000)
noncomputable def f0 (l:List Work) (dn:List Bool) (frm:Int):R:=sh0 l dn frm (f2 100000)
theorem T1:(hid ct1) (fr1)=f1:=by
  refine (congrFun (am _) _).trans <| (P1).trans ?_
  show _=sh1
  rfl
theorem T3 (KL2:ah U El) (k2:Y2) (h2:∀ l0 aA i7,KL2 (fr2 l0 aA i7)=k2 l0 aA i7) (l0 aA i7):(hid (ct3 (hid ct1) KL2)) (fr3 l0 aA i7)=f3 k2 l0 aA i7:=by
  refine (congrFun (am _) _).trans <| (P3 l0 aA i7 (hid ct1) KL2).trans ?_
  show _=sh3 l0 aA i7 k2
  simp only [h2]
theorem T4 (KL2:ah U El) (k2:Y2) (h2:∀ l0 aA i7,KL2 (fr2 l0 aA i7)=k2 l0 aA i7) (l0 aA i7 bA):(hid (ct4 (hid ct1) (hid (ct3 (hid ct1) KL2)))) (fr4 l0 aA i7 bA)=f4 k2 l0 aA i7 bA:=by
  refine (congrFun (am _) _).trans <| (P4 l0 aA i7 bA (hid ct1) (hid (ct3 (hid ct1) KL2))).trans ?_
  show _=sh4 l0 aA i7 bA (f3 k2)
  simp only [T3 KL2 k2 h2]
theorem T6 (KL2:ah U El) (KL5:ah U El) (k2:Y2) (k5:Y5) (h2:∀ l0 aA i7,KL2 (fr2 l0 aA i7)=k2 l0 aA i7) (h5:∀ l0 aA i7 bA cA,KL5 (fr5 l0 aA i7 bA cA)=k5 l0 aA i7 bA cA) (l0 aA i7 bA cA):(hid (ct6 (hid ct1) (hid (ct3 (hid ct1) KL2)) (hid (ct4 (hid ct1) (hid (ct3 (hid ct1) KL2)))) KL5)) (fr6 l0 aA i7 bA cA)=f6 k2 k5 l0 aA i7 bA cA:=by
  refine (congrFun (am _) _).trans <| (P6 l0 aA i7 bA cA (hid ct1) (hid (ct3 (hid ct1) KL2)) (hid (ct4 (hid ct1) (hid (ct3 (hid ct1) KL2)))) KL5).trans ?_
  show _=sh6 l0 aA i7 bA cA k5
  simp only [h5]
theorem T5 (KL2:ah U El) (k2:Y2) (h2:∀ l0 aA i7,KL2 (fr2 l0 aA i7)=k2 l0 aA i7):∀ (n:Nat),∀ l0 aA i7 bA cA,it5 (hid ct1) (hid (ct3 (hid ct1) KL2)) (hid (ct4 (hid ct1) (hid (ct3 (hid ct1) KL2)))) n (fr5 l0 aA i7 bA cA)=f5 k2 n l0 aA i7 bA cA:=by
  intro n
  induction n with
  | zero=>intros; rfl
  | succ n ih =>
    intro l0 aA i7 bA cA
    refine (P5 l0 aA i7 bA cA (hid ct1) (hid (ct3 (hid ct1) KL2)) (hid (ct4 (hid ct1) (hid (ct3 (hid ct1) KL2)))) (it5 (hid ct1) (hid (ct3 (hid ct1) KL2)) (hid (ct4 (hid ct1) (hid (ct3 (hid ct1) KL2)))) n)).trans ?_
    show _=sh5 l0 aA i7 bA cA (f4 k2) (f6 k2 (f5 k2 n))
    simp only [T4 KL2 k2 h2,T6 KL2 (it5 (hid ct1) (hid (ct3 (hid ct1) KL2)) (hid (ct4 (hid ct1) (hid (ct3 (hid ct1) KL2)))) n) k2 (f5 k2 n) h2 ih]
theorem H5 (KL2:ah U El) (k2:Y2) (h2:∀ l0 aA i7,KL2 (fr2 l0 aA i7)=k2 l0 aA i7) (l0 aA i7 bA cA):hid (it5 (hid ct1) (hid (ct3 (hid ct1) KL2)) (hid (ct4 (hid ct1) (hid (ct3 (hid ct1) KL2)))) 100000) (fr5 l0 aA i7 bA cA)=f5 k2 100000 l0 aA i7 bA cA:=(congrFun (am _) _).trans (T5 KL2 k2 h2 100000 l0 aA i7 bA cA)
theorem T2:∀ (n:Nat),∀ l0 aA i7,it2 (hid ct1) n (fr2 l0 aA i7)=f2 n l0 aA i7:=by
  intro n
  induction n with
  | zero=>intros; rfl
  | succ n ih =>
    intro l0 aA i7
    refine (P2 l0 aA i7 (hid ct1) (it2 (hid ct1) n)).trans ?_
    show _=sh2 l0 aA i7 f1 (f3 (f2 n)) (f5 (f2 n) 100000)
    simp only [T1,T3 (it2 (hid ct1) n) (f2 n) ih,H5 (it2 (hid ct1) n) (f2 n) ih]
theorem H2 (l0 aA i7):hid (it2 (hid ct1) 100000) (fr2 l0 aA i7)=f2 100000 l0 aA i7:=(congrFun (am _) _).trans (T2 100000 l0 aA i7)
theorem T0 (l dn frm):ak X bd (.seq none .d (.seq (some nm1) (.seq none .d (.block (.loop nm2 (.seq none .d (.seq (some nm3) (.block (.seq none .d (.seq none .d (.seq (some nm4) (.seq none .d (.block (.loop nm5 (.seq none .d (.seq (some nm6) .d .d))))) .d)))) .d))))) .d)) (fr0 l dn frm) RR (fun _ _=>none) RR=f0 l dn frm:=by
  refine (P0 l dn frm).trans ?_
  show _=sh0 l dn frm (f2 100000)
  simp only [H2]
theorem run (l dn frm):aS X bd (.seq none .d (.seq (some nm1) (.seq none .d (.block (.loop nm2 (.seq none .d (.seq (some nm3) (.block (.seq none .d (.seq none .d (.seq (some nm4) (.seq none .d (.block (.loop nm5 (.seq none .d (.seq (some nm6) .d .d))))) .d)))) .d))))) .d)) nmR [6] [] [(.lst .work l),(.lst .bool dn),(.int .i64 frm)]=f0 l dn frm:=T0 l dn frm
theorem inner (l : List Work) (dn : List Bool) (k2 : Y2) (i : Nat) (hi : i < l.length) (hw : l[i].wa.length ≤ 90000) (ha : ∀ a ∈ l[i].wa, inb a dn.length = true) : ∀ (n j : Nat) (ok : Bool), l[i].wa.length < n + j → j ≤ l[i].wa.length →
    f5 k2 n l dn (i:Int) ok (j:Int)=f4 k2 l dn (i:Int) (ok&&List.all (l[i].wa.drop j) (fun a=>List.getD dn (Int.toNat a) d_bool)):=by
  intro n
  induction n with
  | zero=>intro j ok h1 h2; omega
  | succ n ih =>
    intro j ok h1 h2
    show sh5 l dn (i:Int) ok (j:Int) (f4 k2) (f6 k2 (f5 k2 n))=_
    unfold sh5
    rw [a8 hi,aw,aD hi]
    by_cases hj:j < l[i].wa.length
    · have e : ∀ b : Bool, f6 k2 (f5 k2 n) l dn (i : Int) b (j : Int) = f4 k2 l dn (i : Int) (b && List.all (l[i].wa.drop (j + 1)) (fun a => List.getD dn (Int.toNat a) d_bool)) := fun b => by
        show f5 k2 n l dn (i:Int) b (IntKind.wrap .i64 ((j:Int)+1))=_
        rw [bl j (by omega)]
        exact ih (j+1) b (by omega) hj
      rw [bf (by simp; omega),a8 hj,aw,aD hj,ha _ (List.getElem_mem hj),e,e,aZ hj,List.all_cons]
      cases ok<;>rfl
    · have : j = l[i].wa.length := by omega
      subst this
      rw [a6 (by simp),List.drop_length,List.all_nil,Bool.and_true]
      rfl
theorem loop (l : List Work) (dn : List Bool) (hl : l.length ≤ 90000) (hdl : dn.length = l.length) (hw : ∀ w ∈ l, w.wa.length ≤ 90000 ∧ ∀ a ∈ w.wa, inb a l.length = true) : ∀ (n i : Nat), l.length < n + i → i ≤ l.length → f2 n l dn (i : Int) = bO (dP dn i (l.drop i)) := by
  intro n
  induction n with
  | zero=>intro i h1 h2; omega
  | succ n ih =>
    intro i h1 h2
    show sh2 l dn (i:Int) f1 (f3 (f2 n)) (f5 (f2 n) 100000)=_
    unfold sh2
    by_cases hi:i < l.length
    · have hid : i < dn.length := by omega
      obtain ⟨w1,w2⟩:=hw _ (List.getElem_mem hi)
      have e:=inner l dn (f2 n) i hi w1 (by rw [hdl]; exact w2) 100000 0 true (by omega) (by omega)
      have e2:f3 (f2 n) l dn (i:Int)=bO (dP dn (i+1) (l.drop (i+1))):=by
        show f2 n l dn (IntKind.wrap .i64 ((i:Int)+1))=_
        rw [bl i (by omega)]
        exact ih (i+1) (by omega) hi
      have e3:∀ b:Bool,f4 (f2 n) l dn (i:Int) b=af b (bO (i:Int)) (f3 (f2 n) l dn (i:Int)):=fun b=>rfl
      rw [bf (by simp; omega),a8 hid,aw,show ((0:Int))=((0:Nat):Int) from rfl,e,e3,e2,aZ hi,List.drop_zero]
      simp only [dP]
      show _=bO (bif !(List.getD dn i d_bool)&&rdy dn l[i] then (i:Int) else dP dn (i+1) (l.drop (i+1)))
      unfold rdy
      cases List.getD dn i d_bool<;>cases List.all l[i].wa (fun a=>List.getD dn (Int.toNat a) d_bool)<;>rfl
    · have : i = l.length := by omega
      subst this
      rw [a6 (by simp),List.drop_length]
      rfl
theorem f0_eq (l:List Work) (dn:List Bool) (frm:Int) (h:(okO l&&(Nat.beq (List.length dn) (List.length l)&&ile 0 frm))=true):f0 l dn frm=bO (ez l dn frm):=by
  simp only [Bool.and_eq_true] at h
  obtain ⟨h1,h2,h3⟩:=h
  obtain ⟨g1,g2⟩:=gn h1
  obtain ⟨q,rfl⟩:=Int.eq_ofNat_of_zero_le (dw h3)
  show f2 100000 l dn (q:Int)=_
  unfold ez
  rw [aw]
  by_cases hq:q≤l.length
  · exact loop l dn g1 (Nat.eq_of_beq_eq_true h2) g2 100000 q (by omega) hq
  · show sh2 l dn (q : Int) f1 (f3 (f2 99999)) (f5 (f2 99999) 100000) = _
    unfold sh2
    rw [a6 (by simp; omega),List.drop_eq_nil_of_le (by omega)]
    rfl
theorem ok:CtxOk Tryz.prog X:=aO tab spN dpN
theorem okM:MOk Tryz.prog X:=fun g sp h=>by cases h
theorem spec (l:List Work) (dn:List Bool) (frm:Int) (h:((okO l&&(Nat.beq (List.length dn) (List.length l)&&ile 0 frm)))=true):ar Tryz.prog E 78 [(.lst .work l),(.lst .bool dn),(.int .i64 frm)] (.int .i64 (ez l dn frm)) [] :=
  al ok okM Tryz.call78 Tryz.func78 (by kernel_rfl) (by kernel_rfl) (by kernel_rfl) (by show 3≤47; decide) (by decide) (by rfl) ((run l dn frm).trans (f0_eq l dn frm h))
noncomputable def sp:Sp U El:=fun args k=>match args with
  | [.lst .work l,.lst .bool dn,.int .i64 frm]=>chk ((okO l&&(Nat.beq (List.length dn) (List.length l)&&ile 0 frm))) (k (.int .i64 (ez l dn frm)) [])
  | _=>none
theorem spOk:SpOk Tryz.prog E 78 sp where
  det:=fun vs=>by
    unfold sp
    split
    · exact ba _ _ _
    · exact ⟨none,fun _=>rfl⟩
  ok:=fun vs k r h=>by
    unfold sp at h
    split at h
    · obtain ⟨h1, h2⟩ := ae h
      exact ⟨_,_,spec _ _ _ h1,h2⟩
    · cases h
end rready
end Go.Proofs.YthdklallcljhlaaGreatDoor
