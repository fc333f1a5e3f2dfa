/- Valid, and the sorted list. -/
import Derived.Test.YtkeplmpcijigaaaVE
import Derived.Test.YtkeplmpcijigaaaSQ
namespace Go.Proofs.Ytkeplmpcijigaaa
variable [Drw]
set_option linter.unusedSectionVars false
set_option linter.unusedSimpArgs false
set_option linter.unusedVariables false
set_option maxRecDepth 100000
noncomputable def validL:List Msg→List Msg→Bool
  | _,[]=>true
  | pre,m :: l=>rightB m&&(!(hasB pre m.nd m.no)&&validL (pre++[m]) l)
noncomputable def validB (l:List Msg):Bool:=ile (Int.ofNat l.length) 10000&&validL [] l
namespace validC
noncomputable def bd:Code:=(Try.f44.body).getD .skip
noncomputable def X:Ctx U El:=⟨E,tds,zeros,eqs,specOf [(38,right.sp),(39,keyOf.sp)],100000,29,dspecOf [],fun _=>none,fun _=>none⟩
noncomputable def nmR:Norm U:=⟨[],[2],[],[],[],[],[]⟩
noncomputable def RR:Kont U El:=fun st=>normK nmR st (retFin [2] [])
noncomputable def nm1:Norm U:=⟨[],[],[],[],[],[],[]⟩
noncomputable def nm2:Norm U:=⟨[],[3,10,11,12],[9],[],[],[],[]⟩
noncomputable def nm3:Norm U:=⟨[],[3,10,11,12],[9],[],[],[],[]⟩
noncomputable def nm4:Norm U:=⟨[],[3,5,10,11,12],[5,9],[],[],[],[]⟩
abbrev Y1:=R
abbrev Y2:=(List Msg)→Int→Int→(List (Key×Bool))→R
abbrev Y3:=(List Msg)→Int→Int→(List (Key×Bool))→R
abbrev Y4:=(List Msg)→Int→Int→Msg→(List (Key×Bool))→R
noncomputable def fr0 (l:List Msg):St U El:=⟨[(0,(.lst .msg l))],[]⟩
noncomputable def fr1:St U El:=⟨[],[]⟩
noncomputable def fr2 (bA:List Msg) (cA:Int) (aA:Int) (m9:List (Key×Bool)):St U El:=⟨[(3,(.mp 9)),(10,(.lst .msg bA)),(11,(.int .i64 cA)),(12,(.int .i64 aA))],[(9,(.map .key .bool m9))]⟩
noncomputable def fr3 (bA:List Msg) (cA:Int) (aA:Int) (m9:List (Key×Bool)):St U El:=⟨[(3,(.mp 9)),(10,(.lst .msg bA)),(11,(.int .i64 cA)),(12,(.int .i64 aA))],[(9,(.map .key .bool m9))]⟩
noncomputable def fr4 (bA:List Msg) (cA:Int) (aA:Int) (b5:Msg) (m9:List (Key×Bool)):St U El:=⟨[(3,(.mp 9)),(5,(.ptr 5 0)),(10,(.lst .msg bA)),(11,(.int .i64 cA)),(12,(.int .i64 aA))],[(5,(.box 0 [(.str b5.nd),(.int .i64 b5.no),(.int .i64 b5.at_),(.int .i64 b5.ar),(.int .i64 b5.lv)])),(9,(.map .key .bool m9))]⟩
noncomputable def sh0 (l:List Msg) (k2:Y2):R :=
  condB (ilt (10000:Int) (Int.ofNat (List.length l))) (some ((.bool false),[])) (k2 l (Int.ofNat (List.length l)) (0:Int) ([]:List (Key×Bool)))
noncomputable def sh1:R :=
  some ((.bool true),[])
noncomputable def sh2 (bA:List Msg) (cA:Int) (aA:Int) (m9:List (Key×Bool)) (k1:Y1) (k4:Y4):R :=
  condB (ilt aA cA) (chk (inb aA (List.length bA)) (condB (!(rightB (List.getD bA (Int.toNat aA) d_msg))) (some ((.bool false),[])) (condB (mgetD kq_key m9 (keyM (List.getD bA (Int.toNat aA) d_msg)) d_bool) (some ((.bool false),[])) (k4 bA cA aA (List.getD bA (Int.toNat aA) d_msg) m9)))) (k1)
noncomputable def sh3 (bA:List Msg) (cA:Int) (aA:Int) (m9:List (Key×Bool)) (k2:Y2):R :=
  k2 bA cA (IntKind.wrap .i64 (aA+(1:Int))) m9
noncomputable def sh4 (bA:List Msg) (cA:Int) (aA:Int) (b5:Msg) (m9:List (Key×Bool)) (k3:Y3):R :=
  k3 bA cA aA (mput kq_key m9 (keyM b5) true)
noncomputable def it2 (Kb1:Kont U El) (n:Nat):Kont U El:=iter nm2 (fun st' K'=>exec X (cdp [1,1,1,0,1,0,0] bd) (.seq none .d (.seq none .d (.seq (some nm3) (.block (.seq none .d (.seq (some nm4) .d .d))) .d))) st' K' (Eblk 0 (cutK nm1 Kb1) (fun _ _=>none)) RR) n
noncomputable def ct1:Kont U El:=fun st=>exec X (cdp [1,1,1,1] bd) .d st RR (fun _ _=>none) RR
noncomputable def ct3 (Kb1 Kb2:Kont U El):Kont U El:=fun st=>exec X (cdp [1,1,1,0,1,0,0,1,1,1] bd) .d st (cutK nm2 Kb2) (Eblk 0 (cutK nm1 Kb1) (fun _ _=>none)) RR
noncomputable def ct4 (Kb1 Kb3:Kont U El):Kont U El:=fun st=>exec X (cdp [1,1,1,0,1,0,0,1,1,0,0,1,1] bd) .d st (cutK nm3 Kb3) (Eblk 1 (cutK nm3 Kb3) (Eblk 0 (cutK nm1 Kb1) (fun _ _=>none))) RR
theorem P0 (l):exec X (cdp [] bd) (.seq none .d (.seq none .d (.seq none .d (.seq (some nm1) (.seq none .d (.block (.loop nm2 (.seq none .d (.seq none .d (.seq (some nm3) (.block (.seq none .d (.seq (some nm4) .d .d))) .d)))))) .d)))) (fr0 l) RR (fun _ _=>none) RR=sh0 l (fun y0 y1 y2 y3=>(hid (it2 (hid ct1) 100000)) (fr2 y0 y1 y2 y3)):=by kernel_rfl
theorem P1:ct1 (fr1)=sh1:=by kernel_rfl
theorem P2 (bA cA aA m9) (Kb1 Kb2:Kont U El):exec X (cdp [1,1,1,0,1,0,0] bd) (.seq none .d (.seq none .d (.seq (some nm3) (.block (.seq none .d (.seq (some nm4) .d .d))) .d))) (fr2 bA cA aA m9) (cutK nm2 Kb2) (Eblk 0 (cutK nm1 Kb1) (fun _ _=>none)) RR=sh2 bA cA aA m9 (Kb1 (fr1)) (fun y0 y1 y2 y3 y4=>(hid (ct4 Kb1 (hid (ct3 Kb1 Kb2)))) (fr4 y0 y1 y2 y3 y4)):=by kernel_rfl
theorem P3 (bA cA aA m9) (Kb1 Kb2:Kont U El):ct3 Kb1 Kb2 (fr3 bA cA aA m9)=sh3 bA cA aA m9 (fun y0 y1 y2 y3=>Kb2 (fr2 y0 y1 y2 y3)):=by kernel_rfl
theorem P4 (bA cA aA b5 m9) (Kb1 Kb3:Kont U El):ct4 Kb1 Kb3 (fr4 bA cA aA b5 m9)=sh4 bA cA aA b5 m9 (fun y0 y1 y2 y3=>Kb3 (fr3 y0 y1 y2 y3)):=by kernel_rfl
noncomputable def f1:R:=sh1
noncomputable def f3 (k2:Y2) (bA:List Msg) (cA:Int) (aA:Int) (m9:List (Key×Bool)):R:=sh3 bA cA aA m9 k2
noncomputable def f4 (k2:Y2) (bA:List Msg) (cA:Int) (aA:Int) (b5:Msg) (m9:List (Key×Bool)):R:=sh4 bA cA aA b5 m9 (f3 k2)
noncomputable def f2:Nat→Y2
  | 0=>fun _ _ _ _=>none
  | n+1=>fun bA cA aA m9=>sh2 bA cA aA m9 f1 (f4 (f2 n))
noncomputable def f0 (l:List Msg):R:=sh0 l (f2 100000)
theorem T1:(hid ct1) (fr1)=f1:=by
  refine (congrFun (hid_eq _) _).trans <| (P1).trans ?_
  show _=sh1
  rfl
theorem T3 (KL2:Kont U El) (k2:Y2) (h2:∀ bA cA aA m9,KL2 (fr2 bA cA aA m9)=k2 bA cA aA m9) (bA cA aA m9):(hid (ct3 (hid ct1) KL2)) (fr3 bA cA aA m9)=f3 k2 bA cA aA m9:=by
  refine (congrFun (hid_eq _) _).trans <| (P3 bA cA aA m9 (hid ct1) KL2).trans ?_
  show _=sh3 bA cA aA m9 k2
  simp only [h2]
theorem T4 (KL2:Kont U El) (k2:Y2) (h2:∀ bA cA aA m9,KL2 (fr2 bA cA aA m9)=k2 bA cA aA m9) (bA cA aA b5 m9):(hid (ct4 (hid ct1) (hid (ct3 (hid ct1) KL2)))) (fr4 bA cA aA b5 m9)=f4 k2 bA cA aA b5 m9:=by
  refine (congrFun (hid_eq _) _).trans <| (P4 bA cA aA b5 m9 (hid ct1) (hid (ct3 (hid ct1) KL2))).trans ?_
  show _=sh4 bA cA aA b5 m9 (f3 k2)
  simp only [T3 KL2 k2 h2]
theorem T2:∀ (n:Nat),∀ bA cA aA m9,it2 (hid ct1) n (fr2 bA cA aA m9)=f2 n bA cA aA m9:=by
  intro n
  induction n with
  | zero=>intros; rfl
  | succ n ih =>
    intro bA cA aA m9
    refine (P2 bA cA aA m9 (hid ct1) (it2 (hid ct1) n)).trans ?_
    show _=sh2 bA cA aA m9 f1 (f4 (f2 n))
    simp only [T1,T4 (it2 (hid ct1) n) (f2 n) ih]
theorem H2 (bA cA aA m9):hid (it2 (hid ct1) 100000) (fr2 bA cA aA m9)=f2 100000 bA cA aA m9:=(congrFun (hid_eq _) _).trans (T2 100000 bA cA aA m9)
theorem T0 (l):exec X bd (.seq none .d (.seq none .d (.seq none .d (.seq (some nm1) (.seq none .d (.block (.loop nm2 (.seq none .d (.seq none .d (.seq (some nm3) (.block (.seq none .d (.seq (some nm4) .d .d))) .d)))))) .d)))) (fr0 l) RR (fun _ _=>none) RR=f0 l:=by
  refine (P0 l).trans ?_
  show _=sh0 l (f2 100000)
  simp only [H2]
theorem run (l):runFn X bd (.seq none .d (.seq none .d (.seq none .d (.seq (some nm1) (.seq none .d (.block (.loop nm2 (.seq none .d (.seq none .d (.seq (some nm3) (.block (.seq none .d (.seq (some nm4) .d .d))) .d)))))) .d)))) nmR [2] [] [(.lst .msg l)]=f0 l:=T0 l
theorem loop (l : List Msg) (hl : l.length ≤ 10000) : ∀ (n i : Nat), l.length < n + i → i ≤ l.length → f2 n l (Int.ofNat l.length) (i : Int) ((l.take i).map fun m => (keyM m, true)) = outB (validL (l.take i) (l.drop i)) := by
  intro n
  induction n with
  | zero=>intro i h1 h2; omega
  | succ n ih =>
    intro i h1 h2
    show sh2 l (Int.ofNat l.length) (i:Int) _ f1 (f4 (f2 n))=_
    unfold sh2
    by_cases hi:i < l.length
    · rw [iltT (show (i : Int) < Int.ofNat l.length by simp; omega), inbT hi, toNat_nat, getD_lt hi, drop_lt hi]
      simp only [chkT,condT,validL]
      have hg:mgetD kq_key ((l.take i).map fun m=>(keyM m,true)) (keyM l[i]) d_bool=hasB (l.take i) l[i].nd l[i].no:=by
        unfold mgetD
        rw [got_has]
        cases hasB (l.take i) l[i].nd l[i].no<;>rfl
      rw [hg]
      cases rightB l[i]
      · rfl
      cases hh:hasB (l.take i) l[i].nd l[i].no
      rotate_left
      · rfl
      show f2 n l (Int.ofNat l.length) (IntKind.wrap .i64 ((i:Int)+1)) (mput kq_key ((l.take i).map fun m=>(keyM m,true)) (keyM l[i]) true)=_
      rw [wrapS i (by omega),mput_new _ _ _ _ (by rw [got_has,hh]; rfl)]
      have:=ih (i+1) (by omega) hi
      rw [take_lt hi,List.map_append] at this
      exact this
    · have : i = l.length := by omega
      subst this
      rw [iltF (by simp),List.drop_length]
      rfl
theorem f0_eq (l:List Msg):f0 l=outB (validB l):=by
  show sh0 l (f2 100000)=_
  unfold sh0 validB
  by_cases hl:l.length≤10000
  · rw [iltF (show ¬ (10000 : Int) < Int.ofNat l.length by simp; omega), ileT (show Int.ofNat l.length ≤ 10000 by simp; omega)]
    exact loop l hl 100000 0 (by omega) (by omega)
  · rw [iltT (show (10000 : Int) < Int.ofNat l.length by simp; omega), ileF (show ¬ Int.ofNat l.length ≤ 10000 by simp; omega)]
    rfl
theorem ok:CtxOk Try.prog X:=ctxOk tab (spC right.spOk (spC keyOf.spOk spN)) dpN
theorem okM:MOk Try.prog X:=fun g sp h=>by cases h
theorem spec (l:List Msg):CallSpec Try.prog E 44 [(.lst .msg l)] (.bool (validB l)) [] :=
  runFn_sound ok okM Try.call44 Try.func44 (by kernel_rfl) (by kernel_rfl) (by kernel_rfl) (by show 1≤29; decide) (by decide) (by rfl) ((run l).trans (f0_eq l))
noncomputable def sp:Sp U El:=fun args k=>match args with
  | [.lst .msg l]=>k (.bool (validB l)) []
  | _=>none
theorem spOk:SpOk Try.prog E 44 sp where
  det:=fun vs=>by
    unfold sp
    split
    · exact ⟨some (_,_),fun _=>rfl⟩
    · exact ⟨none,fun _=>rfl⟩
  ok:=fun vs k r h=>by
    unfold sp at h
    split at h
    · exact ⟨_,_,spec _,h⟩
    · cases h
end validC
namespace rvalid
noncomputable def bd:Code:=(Try.f23.body).getD .skip
noncomputable def X:Ctx U El:=⟨E,tds,zeros,eqs,specOf [(24,rhas.sp),(36,rright.sp)],100000,35,dspecOf [],fun _=>none,fun _=>none⟩
noncomputable def nmR:Norm U:=⟨[],[2],[],[],[],[],[]⟩
noncomputable def RR:Kont U El:=fun st=>normK nmR st (retFin [2] [])
noncomputable def nm1:Norm U:=⟨[],[],[],[],[],[],[]⟩
noncomputable def nm2:Norm U:=⟨[],[0,3],[],[],[],[],[]⟩
noncomputable def nm3:Norm U:=⟨[],[0,3],[],[],[],[],[]⟩
abbrev Y1:=R
abbrev Y2:=(List Msg)→Int→R
abbrev Y3:=(List Msg)→Int→R
noncomputable def fr0 (l:List Msg):St U El:=⟨[(0,(.lst .msg l))],[]⟩
noncomputable def fr1:St U El:=⟨[],[]⟩
noncomputable def fr2 (l0:List Msg) (i3:Int):St U El:=⟨[(0,(.lst .msg l0)),(3,(.int .i64 i3))],[]⟩
noncomputable def fr3 (l0:List Msg) (i3:Int):St U El:=⟨[(0,(.lst .msg l0)),(3,(.int .i64 i3))],[]⟩
noncomputable def sh0 (l:List Msg) (k2:Y2):R :=
  condB (ilt (10000:Int) (Int.ofNat (List.length l))) (some ((.bool false),[])) (k2 l (0:Int))
noncomputable def sh1:R :=
  some ((.bool true),[])
noncomputable def sh2 (l0:List Msg) (i3:Int) (k1:Y1) (k3:Y3):R :=
  condB (ilt i3 (Int.ofNat (List.length l0))) (chk (inb i3 (List.length l0)) (condB (!(rightB (List.getD l0 (Int.toNat i3) d_msg))) (some ((.bool false),[])) (chk (ile 0 (0:Int)&&ile (0:Int) i3&&ile i3 (Int.ofNat (List.length l0))) (chk (inb i3 (List.length l0)) (chk (inb i3 (List.length l0)) (chk (nle (List.length (sub l0 (0:Int) i3)) 90000) (condB (hasB (sub l0 (0:Int) i3) ((List.getD l0 (Int.toNat i3) d_msg).nd) ((List.getD l0 (Int.toNat i3) d_msg).no)) (some ((.bool false),[])) (k3 l0 i3)))))))) (k1)
noncomputable def sh3 (l0:List Msg) (i3:Int) (k2:Y2):R :=
  k2 l0 (IntKind.wrap .i64 (i3+(1:Int)))
noncomputable def it2 (Kb1:Kont U El) (n:Nat):Kont U El:=iter nm2 (fun st' K'=>exec X (cdp [1,1,0,1,0,0] bd) (.seq none .d (.seq (some nm3) .d .d)) st' K' (Eblk 0 (cutK nm1 Kb1) (fun _ _=>none)) RR) n
noncomputable def ct1:Kont U El:=fun st=>exec X (cdp [1,1,1] bd) .d st RR (fun _ _=>none) RR
noncomputable def ct3 (Kb1 Kb2:Kont U El):Kont U El:=fun st=>exec X (cdp [1,1,0,1,0,0,1,1] bd) .d st (cutK nm2 Kb2) (Eblk 0 (cutK nm1 Kb1) (fun _ _=>none)) RR
theorem P0 (l):exec X (cdp [] bd) (.seq none .d (.seq none .d (.seq (some nm1) (.seq none .d (.block (.loop nm2 (.seq none .d (.seq (some nm3) .d .d))))) .d))) (fr0 l) RR (fun _ _=>none) RR=sh0 l (fun y0 y1=>(hid (it2 (hid ct1) 100000)) (fr2 y0 y1)):=by kernel_rfl
theorem P1:ct1 (fr1)=sh1:=by kernel_rfl
theorem P2 (l0 i3) (Kb1 Kb2:Kont U El):exec X (cdp [1,1,0,1,0,0] bd) (.seq none .d (.seq (some nm3) .d .d)) (fr2 l0 i3) (cutK nm2 Kb2) (Eblk 0 (cutK nm1 Kb1) (fun _ _=>none)) RR=sh2 l0 i3 (Kb1 (fr1)) (fun y0 y1=>(hid (ct3 Kb1 Kb2)) (fr3 y0 y1)):=by kernel_rfl
theorem P3 (l0 i3) (Kb1 Kb2:Kont U El):ct3 Kb1 Kb2 (fr3 l0 i3)=sh3 l0 i3 (fun y0 y1=>Kb2 (fr2 y0 y1)):=by kernel_rfl
noncomputable def f1:R:=sh1
noncomputable def f3 (k2:Y2) (l0:List Msg) (i3:Int):R:=sh3 l0 i3 k2
noncomputable def f2:Nat→Y2
  | 0=>fun _ _=>none
  | n+1=>fun l0 i3=>sh2 l0 i3 f1 (f3 (f2 n))
noncomputable def f0 (l:List Msg):R:=sh0 l (f2 100000)
theorem T1:(hid ct1) (fr1)=f1:=by
  refine (congrFun (hid_eq _) _).trans <| (P1).trans ?_
  show _=sh1
  rfl
theorem T3 (KL2:Kont U El) (k2:Y2) (h2:∀ l0 i3,KL2 (fr2 l0 i3)=k2 l0 i3) (l0 i3):(hid (ct3 (hid ct1) KL2)) (fr3 l0 i3)=f3 k2 l0 i3:=by
  refine (congrFun (hid_eq _) _).trans <| (P3 l0 i3 (hid ct1) KL2).trans ?_
  show _=sh3 l0 i3 k2
  simp only [h2]
theorem T2:∀ (n:Nat),∀ l0 i3,it2 (hid ct1) n (fr2 l0 i3)=f2 n l0 i3:=by
  intro n
  induction n with
  | zero=>intros; rfl
  | succ n ih =>
    intro l0 i3
    refine (P2 l0 i3 (hid ct1) (it2 (hid ct1) n)).trans ?_
    show _=sh2 l0 i3 f1 (f3 (f2 n))
    simp only [T1,T3 (it2 (hid ct1) n) (f2 n) ih]
theorem H2 (l0 i3):hid (it2 (hid ct1) 100000) (fr2 l0 i3)=f2 100000 l0 i3:=(congrFun (hid_eq _) _).trans (T2 100000 l0 i3)
theorem T0 (l):exec X bd (.seq none .d (.seq none .d (.seq (some nm1) (.seq none .d (.block (.loop nm2 (.seq none .d (.seq (some nm3) .d .d))))) .d))) (fr0 l) RR (fun _ _=>none) RR=f0 l:=by
  refine (P0 l).trans ?_
  show _=sh0 l (f2 100000)
  simp only [H2]
theorem run (l):runFn X bd (.seq none .d (.seq none .d (.seq (some nm1) (.seq none .d (.block (.loop nm2 (.seq none .d (.seq (some nm3) .d .d))))) .d))) nmR [2] [] [(.lst .msg l)]=f0 l:=T0 l
theorem loop (l:List Msg) (hl:l.length≤10000):∀ (n i:Nat),l.length < n+i→i≤l.length→f2 n l (i:Int)=outB (validL (l.take i) (l.drop i)):=by
  intro n
  induction n with
  | zero=>intro i h1 h2; omega
  | succ n ih =>
    intro i h1 h2
    show sh2 l (i:Int) f1 (f3 (f2 n))=_
    unfold sh2
    by_cases hi:i < l.length
    · have hs : sub l (0 : Int) (i : Int) = l.take i := by unfold sub; simp
      rw [iltT (show (i:Int) < Int.ofNat l.length by simp; omega),inbT hi,toNat_nat,getD_lt hi,drop_lt hi,hs,ileT (Int.le_refl 0),ileT (show (0:Int)≤i by omega),ileT (show (i:Int)≤Int.ofNat l.length by simp; omega),nleT (show (l.take i).length≤90000 by simp; omega)]
      simp only [chkT,condT,validL,Bool.and_self]
      cases rightB l[i]
      · rfl
      cases hh:hasB (l.take i) l[i].nd l[i].no
      rotate_left
      · rfl
      show f2 n l (IntKind.wrap .i64 ((i:Int)+1))=_
      rw [wrapS i (by omega)]
      have:=ih (i+1) (by omega) hi
      rw [take_lt hi] at this
      exact this
    · have : i = l.length := by omega
      subst this
      rw [iltF (by simp),List.drop_length]
      rfl
theorem f0_eq (l:List Msg):f0 l=outB (validB l):=by
  show sh0 l (f2 100000)=_
  unfold sh0 validB
  by_cases hl:l.length≤10000
  · rw [iltF (show ¬ (10000 : Int) < Int.ofNat l.length by simp; omega), ileT (show Int.ofNat l.length ≤ 10000 by simp; omega)]
    exact loop l hl 100000 0 (by omega) (by omega)
  · rw [iltT (show (10000 : Int) < Int.ofNat l.length by simp; omega), ileF (show ¬ Int.ofNat l.length ≤ 10000 by simp; omega)]
    rfl
theorem ok:CtxOk Try.prog X:=ctxOk tab (spC rhas.spOk (spC rright.spOk spN)) dpN
theorem okM:MOk Try.prog X:=fun g sp h=>by cases h
theorem spec (l:List Msg):CallSpec Try.prog E 23 [(.lst .msg l)] (.bool (validB l)) [] :=
  runFn_sound ok okM Try.call23 Try.func23 (by kernel_rfl) (by kernel_rfl) (by kernel_rfl) (by show 1≤35; decide) (by decide) (by rfl) ((run l).trans (f0_eq l))
noncomputable def sp:Sp U El:=fun args k=>match args with
  | [.lst .msg l]=>k (.bool (validB l)) []
  | _=>none
theorem spOk:SpOk Try.prog E 23 sp where
  det:=fun vs=>by
    unfold sp
    split
    · exact ⟨some (_,_),fun _=>rfl⟩
    · exact ⟨none,fun _=>rfl⟩
  ok:=fun vs k r h=>by
    unfold sp at h
    split at h
    · exact ⟨_,_,spec _,h⟩
    · cases h
end rvalid
theorem validL_dis:∀ (l pre:List Msg),validL pre l=true→(∀ m,m∈l→hasB pre m.nd m.no=false)∧l.Pairwise (fun a b=>¬ (a.nd=b.nd∧a.no=b.no)):=by
  intro l
  induction l with
  | nil=>intro pre _; exact ⟨fun m h=>(by cases h),List.Pairwise.nil⟩
  | cons x l ih =>
    intro pre h
    simp only [validL,Bool.and_eq_true,Bool.not_eq_true'] at h
    obtain ⟨h1,h2,h3⟩:=h
    obtain ⟨i1,i2⟩:=ih _ h3
    have split:∀ m,m∈l→hasB pre m.nd m.no=false∧¬ (x.nd=m.nd∧x.no=m.no):=fun m hm=>by
      have:=i1 m hm
      unfold hasB at this
      rw [List.any_append,Bool.or_eq_false_iff] at this
      refine ⟨this.1,fun e => ?_⟩
      have h4:=this.2
      simp [e.1,e.2] at h4
    refine ⟨fun m hm => ?_,List.pairwise_cons.2 ⟨fun m hm=>(split m hm).2,i2⟩⟩
    rcases List.mem_cons.1 hm with rfl | hm
    · exact h2
    · exact (split m hm).1
theorem dis_keys {l:List Msg} (h:l.Pairwise (fun a b=>¬ (a.nd=b.nd∧a.no=b.no))):keysB l=true:=by
  refine keysB_iff.2 fun x hx y hy h1 h2 => ?_
  obtain ⟨_,e1,e2⟩:=before_tie h1 h2
  obtain ⟨i,hi,rfl⟩:=List.mem_iff_getElem.1 hx
  obtain ⟨j,hj,rfl⟩:=List.mem_iff_getElem.1 hy
  rcases Nat.lt_trichotomy i j with hij | rfl | hij
  · exact absurd ⟨e1,e2⟩ (List.pairwise_iff_getElem.1 h i j hi hj hij)
  · rfl
  · exact absurd ⟨e1.symm,e2.symm⟩ (List.pairwise_iff_getElem.1 h j i hj hi hij)
theorem valid_keys {l:List Msg} (h:validB l=true):keysB l=true∧l.length≤10000:=by
  unfold validB at h
  rw [Bool.and_eq_true] at h
  have:=ileI h.1
  exact ⟨dis_keys (validL_dis l [] h.2).2,by simp at this; omega⟩
namespace collectM
noncomputable def bd:Code:=(Try.f62.body).getD .skip
noncomputable def X:Ctx U El:=⟨E,tds,zeros,eqs,specOf [],100000,5,dspecOf [],mspecOf [(83,(mcSp appendSeq.sp))],fun _=>none⟩
noncomputable def nmR:Norm U:=⟨[(2,.msg)],[2],[2],[],[],[],[]⟩
noncomputable def RR:Kont U El:=fun st=>normK nmR st (retFin [2] [2])
noncomputable def fr0 (l:List Msg):St U El:=⟨[(0,(.fn 63 [] [(.pcs [(.lst .msg l)] 0)]))],[]⟩
noncomputable def sh0 (l:List Msg):R :=
  chk (nle (List.length l) 100000) (some ((.ful 0),[(0,.rows .msg (l))]))
theorem P0 (l):exec X (cdp [] bd) .d (fr0 l) RR (fun _ _=>none) RR=sh0 l:=by kernel_rfl
noncomputable def f0 (l:List Msg):R:=sh0 l
theorem T0 (l):exec X bd .d (fr0 l) RR (fun _ _=>none) RR=f0 l:=by
  refine (P0 l).trans ?_
  show _=sh0 l
  rfl
theorem run (l):runFn X bd .d nmR [2] [2] [(.fn 63 [] [(.pcs [(.lst .msg l)] 0)])]=f0 l:=T0 l
theorem f0_eq (l:List Msg) (h:nle (List.length l) 100000=true):f0 l=some (.ful 0,[(0,.rows .msg l)]):=by
  show sh0 l=_
  unfold sh0
  rw [h]
  rfl
theorem ok:CtxOk Try.prog X:=ctxOk tab spN dpN
theorem okM:MOk Try.prog X:=mspecOf_ok _ (mpC (mcSp_ok ok appendSeq.spOk) mpN)
theorem spec (l:List Msg) (h:(nle (List.length l) 100000)=true):CallSpec Try.prog E 62 [(.fn 63 [] [(.pcs [(.lst .msg l)] 0)])] (.ful 0) [(0,.rows .msg (l))] :=
  runFn_sound ok okM Try.call62 Try.func62 (by kernel_rfl) (by kernel_rfl) (by kernel_rfl) (by show 1≤5; decide) (by decide) (by rfl) ((run l).trans (f0_eq l h))
noncomputable def sp:Sp U El:=fun args k=>match args with
  | [.fn 63 [] [.pcs [.lst .msg l] 0]]=>chk (nle (List.length l) 100000) (k (.ful 0) [(0,.rows .msg (l))])
  | _=>none
theorem spOk:SpOk Try.prog E 62 sp where
  det:=fun vs=>by
    unfold sp
    split
    · exact det_c _ _ _
    · exact ⟨none,fun _=>rfl⟩
  ok:=fun vs k r h=>by
    unfold sp at h
    split at h
    · obtain ⟨h1, h2⟩ := chk_some h
      exact ⟨_,_,spec _ h1,h2⟩
    · cases h
end collectM
namespace sortedFn
noncomputable def bd:Code:=(Try.f45.body).getD .skip
noncomputable def X:Ctx U El:=⟨E,tds,zeros,eqs,specOf [(62,collectM.sp)],100000,12,dspecOf [],mspecOf [(40,sortMSp)],fun _=>none⟩
noncomputable def nmR:Norm U:=⟨[(4,.msg)],[4],[4],[],[],[],[]⟩
noncomputable def RR:Kont U El:=fun st=>normK nmR st (retFin [4] [4])
noncomputable def fr0 (l:List Msg):St U El:=⟨[(0,(.fn 63 [] [(.pcs [(.lst .msg l)] 0)])),(1,(.fn 41 [] []))],[]⟩
noncomputable def sh0 (l:List Msg):R :=
  chk (nle (List.length l) 100000) (chk (true&&(keysB (l)&&nle (List.length (l)) 4611686018427387903)) (some ((.ful 0),[(0,.rows .msg (sortM (l)))])))
theorem P0 (l):exec X (cdp [] bd) .d (fr0 l) RR (fun _ _=>none) RR=sh0 l:=by kernel_rfl
noncomputable def f0 (l:List Msg):R:=sh0 l
theorem T0 (l):exec X bd .d (fr0 l) RR (fun _ _=>none) RR=f0 l:=by
  refine (P0 l).trans ?_
  show _=sh0 l
  rfl
theorem run (l):runFn X bd .d nmR [4] [4] [(.fn 63 [] [(.pcs [(.lst .msg l)] 0)]),(.fn 41 [] [])]=f0 l:=T0 l
theorem f0_eq (l:List Msg) (h:(keysB l&&nle (List.length l) 100000)=true):f0 l=some (.ful 0,[(0,.rows .msg (sortM l))]):=by
  rw [Bool.and_eq_true] at h
  have:=nleI h.2
  show sh0 l=_
  unfold sh0
  rw [h.1,h.2,nleT (show l.length≤4611686018427387903 by omega)]
  rfl
theorem ok:CtxOk Try.prog X:=ctxOk tab (spC collectM.spOk spN) dpN
theorem okM:MOk Try.prog X:=mspecOf_ok _ (mpC (sortMOk rfl ok) mpN)
theorem spec (l:List Msg) (h:((keysB l&&nle (List.length l) 100000))=true):CallSpec Try.prog E 45 [(.fn 63 [] [(.pcs [(.lst .msg l)] 0)]),(.fn 41 [] [])] (.ful 0) [(0,.rows .msg (sortM l))] :=
  runFn_sound ok okM Try.call45 Try.func45 (by kernel_rfl) (by kernel_rfl) (by kernel_rfl) (by show 2≤12; decide) (by decide) (by rfl) ((run l).trans (f0_eq l h))
noncomputable def sp:Sp U El:=fun args k=>match args with
  | [.fn 63 [] [.pcs [.lst .msg l] 0],.fn 41 [] []]=>chk ((keysB l&&nle (List.length l) 100000)) (k (.ful 0) [(0,.rows .msg (sortM l))])
  | _=>none
theorem spOk:SpOk Try.prog E 45 sp where
  det:=fun vs=>by
    unfold sp
    split
    · exact det_c _ _ _
    · exact ⟨none,fun _=>rfl⟩
  ok:=fun vs k r h=>by
    unfold sp at h
    split at h
    · obtain ⟨h1, h2⟩ := chk_some h
      exact ⟨_,_,spec _ h1,h2⟩
    · cases h
end sortedFn
namespace sortedM
noncomputable def bd:Code:=(Try.f27.body).getD .skip
noncomputable def X:Ctx U El:=⟨E,tds,zeros,eqs,specOf [(44,validC.sp),(45,sortedFn.sp),(46,valuesM.sp)],100000,10,dspecOf [],fun _=>none,fun _=>none⟩
noncomputable def nmR:Norm U:=⟨[(2,.msg)],[2,3],[2],[],[],[],[]⟩
noncomputable def RR:Kont U El:=fun st=>normK nmR st (retFin [2,3] [2])
noncomputable def fr0 (l:List Msg):St U El:=⟨[(0,(.lst .msg l))],[]⟩
noncomputable def sh0 (l:List Msg):R :=
  condB (!(validB l)) (some ((.tup [(.ful 0),(.int .i64 (1:Int))]),[(0,.rows .msg ([]:List Msg))])) (chk ((keysB (l)&&nle (List.length (l)) 100000)) (some ((.tup [(.ful 0),(.int .i64 (0:Int))]),[(0,.rows .msg (sortM (l)))])))
theorem P0 (l):exec X (cdp [] bd) .d (fr0 l) RR (fun _ _=>none) RR=sh0 l:=by kernel_rfl
noncomputable def f0 (l:List Msg):R:=sh0 l
theorem T0 (l):exec X bd .d (fr0 l) RR (fun _ _=>none) RR=f0 l:=by
  refine (P0 l).trans ?_
  show _=sh0 l
  rfl
theorem run (l):runFn X bd .d nmR [2,3] [2] [(.lst .msg l)]=f0 l:=T0 l
theorem f0_eq (l:List Msg):f0 l=some (.tup [.ful 0,.int .i64 (bif validB l then 0 else 1)],[(0,.rows .msg (bif validB l then sortM l else []))]):=by
  show sh0 l=_
  unfold sh0
  cases hv:validB l
  · rfl
  · obtain ⟨h1, h2⟩ := valid_keys hv
    rw [h1,nleT (show l.length≤100000 by omega)]
    rfl
theorem ok:CtxOk Try.prog X:=ctxOk tab (spC validC.spOk (spC sortedFn.spOk (spC valuesM.spOk spN))) dpN
theorem okM:MOk Try.prog X:=fun g sp h=>by cases h
theorem spec (l:List Msg):CallSpec Try.prog E 27 [(.lst .msg l)] (.tup [(.ful 0),(.int .i64 ((bif validB l then 0 else 1)))]) [(0,.rows .msg ((bif validB l then sortM l else [])))] :=
  runFn_sound ok okM Try.call27 Try.func27 (by kernel_rfl) (by kernel_rfl) (by kernel_rfl) (by show 1≤10; decide) (by decide) (by rfl) ((run l).trans (f0_eq l))
noncomputable def sp:Sp U El:=fun args k=>match args with
  | [.lst .msg l]=>k (.tup [(.ful 0),(.int .i64 ((bif validB l then 0 else 1)))]) [(0,.rows .msg ((bif validB l then sortM l else [])))]
  | _=>none
theorem spOk:SpOk Try.prog E 27 sp where
  det:=fun vs=>by
    unfold sp
    split
    · exact ⟨some (_,_),fun _=>rfl⟩
    · exact ⟨none,fun _=>rfl⟩
  ok:=fun vs k r h=>by
    unfold sp at h
    split at h
    · exact ⟨_,_,spec _,h⟩
    · cases h
end sortedM
end Go.Proofs.Ytkeplmpcijigaaa
