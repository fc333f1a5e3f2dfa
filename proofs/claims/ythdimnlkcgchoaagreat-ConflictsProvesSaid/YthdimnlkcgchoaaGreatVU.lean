/- What fires: names and levels as a map; the rules that hold; possible levels. -/
import Derived.Test.YthdimnlkcgchoaaGreatVS
namespace Go.Proofs.YthdimnlkcgchoaaGreat
set_option linter.unusedSectionVars false
set_option linter.unusedSimpArgs false
set_option linter.unusedVariables false
set_option maxRecDepth 100000
noncomputable def failsM (m:List ((List UInt8)×Int)) (x:Cnd):Bool:=(ile x.cl (mgetD kq_str m x.cn d_int)) == x.cb
noncomputable def distB (ns:List (List UInt8)):Bool:=allI (fun i x => !(List.elem x (ns.take i))) 0 ns
noncomputable def gvE (l:List Rule) (ns:List (List UInt8)) (v:List Int):Int :=
  bif Nat.beq ns.length v.length then (bif distB ns then (bif List.all l (fun r=>List.all r.rw (fun c=>List.elem c.cn ns)) then 0 else 9) else 10) else 3
noncomputable def firedI (m:List ((List UInt8)×Int)):Nat→List Rule→List Int
  | _,[]=>[]
  | i,r :: l=>bif !(List.any r.rw (failsM m)) then (i:Int) :: firedI m (i+1) l else firedI m (i+1) l
noncomputable def firedL (l:List Rule) (ns:List (List UInt8)) (v:List Int):List Int:=firedI (List.zip ns v) 0 l
noncomputable def levOkX (x:Node):Bool:=inR 4194304 x.ni&&(inR 4194304 x.ng&&ile x.ni x.ng)
noncomputable def levOkN (n:Net):Bool:=List.all n.nds levOkX
noncomputable def levAt (at_:List UInt32) (i:Nat) (x:Node):Int :=
  bif (x.nk != 3)&&ilt 0 (Int.ofNat at_.length) then x.ni+Int.tmod (Int.ofNat (UInt32.toNat (List.getD at_ (i%at_.length) d_u32))) (x.ng - x.ni+1) else x.ni
noncomputable def levsI (at_:List UInt32):Nat→List Node→List Int
  | _,[]=>[]
  | i,x :: l=>levAt at_ i x :: levsI at_ (i+1) l
noncomputable def levsL (nds:List Node) (at_:List UInt32):List Int:=levsI at_ 0 nds
noncomputable def outF (v:List Int):R:=some (.tup [.ful 0,.int .i64 0],[(0,.rows .int v)])
noncomputable def outV1 (v:List Int):R:=some (.ful 0,[(0,.rows .int v)])
noncomputable def readyB (l:List Rule) (n:Net):Bool := !(largeB l n)&&(givenZ l n == 0)
noncomputable def outG (m:List ((List UInt8)×Int)):R:=some (.tup [.fmp .str .int m,.int .i64 0],[])
theorem kq_eq (a b:List UInt8):kq_str a b=(a == b):=by rw [Bool.eq_iff_iff,kq_str_iff]; simp
theorem mput_new {m:List ((List UInt8)×Int)} {k:List UInt8} {v:Int} (h:mhas kq_str m k=false):mput kq_str m k v=m++[(k,v)]:=by
  induction m with
  | nil=>rfl
  | cons p m ih =>
    unfold mhas at h
    simp only [mfind] at h
    simp only [mput]
    cases e:kq_str k p.1 with
    | true=>rw [e] at h; cases h
    | false =>
      rw [e] at h
      rw [cond_false,ih h]
      rfl
theorem mhas_zip (k:List UInt8):∀ (a:List (List UInt8)) (b:List Int),a.length=b.length→mhas kq_str (List.zip a b) k=List.elem k a:=by
  intro a
  induction a with
  | nil=>intro b _; rfl
  | cons x a ih =>
    intro b h
    cases b with
    | nil=>cases h
    | cons y b =>
      have:=ih b (by simpa using h)
      unfold mhas at this ⊢
      simp only [List.zip_cons_cons,mfind]
      rw [kq_eq,List.elem_cons]
      cases k == x
      · simpa using this
      · rfl
theorem mgetD_zip (k : List UInt8) : ∀ (a : List (List UInt8)) (b : List Int) (i : Nat), a.length = b.length → List.elem k a = true → mgetD kq_str (List.zip a b) k d_int = List.getD b (Int.toNat (findZ (fun x => x == k) i a - (i : Int))) 0 ∧ (i : Int) ≤ findZ (fun x => x == k) i a := by
  intro a
  induction a with
  | nil=>intro b i _ h; cases h
  | cons x a ih =>
    intro b i h he
    cases b with
    | nil=>cases h
    | cons y b =>
      rw [List.elem_cons] at he
      unfold mgetD
      simp only [List.zip_cons_cons,mfind,findZ]
      rw [kq_eq]
      by_cases e:k=x
      · subst e
        rw [beq_self_eq_true,cond_true,cond_true,Int.sub_self]
        exact ⟨rfl,Int.le_refl _⟩
      · have e1 : (k == x) = false := by simpa using e
        have e2:(x == k)=false:=by simpa using fun h=>e h.symm
        rw [e1] at he
        replace he:List.elem k a=true:=he
        rw [e1,e2,cond_false,cond_false]
        obtain ⟨i1,i2⟩:=ih b (i+1) (by simpa using h) he
        refine ⟨?_,by omega⟩
        unfold mgetD at i1
        rw [i1,show findZ (fun x=>x == k) (i+1) a - (i:Int)=(findZ (fun x=>x == k) (i+1) a - ((i+1:Nat):Int))+1 by omega]
        rw [Int.toNat_add (by omega) (by omega)]
        rfl
theorem gv0 {l:List Rule} {ns:List (List UInt8)} {v:List Int} (h:(gvE l ns v == 0)=true):ns.length=v.length∧distB ns=true∧∀ r∈l,∀ c∈r.rw,List.elem c.cn ns=true:=by
  unfold gvE at h
  cases h1:Nat.beq ns.length v.length with
  | false=>rw [h1] at h; cases h
  | true =>
    cases h2:distB ns with
    | false=>rw [h1,h2] at h; cases h
    | true =>
      cases h3:List.all l (fun r=>List.all r.rw (fun c=>List.elem c.cn ns)) with
      | false=>rw [h1,h2,h3] at h; cases h
      | true=>exact ⟨Nat.eq_of_beq_eq_true h1,rfl,fun r hr c hc=>List.all_eq_true.1 (List.all_eq_true.1 h3 r hr) c hc⟩
namespace ugiven
noncomputable def bd:Code:=(Tryz.f86.body).getD .skip
noncomputable def X:Ctx U El:=⟨E,tds,zeros,eqs,specOf [],100000,71,dspecOf [],fun _=>none⟩
noncomputable def nmR:Norm U:=⟨[],[6,7],[],[(6,.str)],[],[],[]⟩
noncomputable def RR:Kont U El:=fun st=>normK nmR st (retFin [6,7] [])
noncomputable def nm1:Norm U:=⟨[],[0,8],[24],[],[],[],[]⟩
noncomputable def nm2:Norm U:=⟨[],[0,2,8,25,26,27],[24],[],[],[],[]⟩
noncomputable def nm3:Norm U:=⟨[],[8],[24],[],[],[],[]⟩
noncomputable def nm4:Norm U:=⟨[],[8,46,47,48],[24],[],[],[],[]⟩
noncomputable def nm5:Norm U:=⟨[],[8,46,47,48],[24],[],[],[],[]⟩
noncomputable def nm6:Norm U:=⟨[],[8,46,47,48,53,54,55],[24],[],[],[],[]⟩
abbrev Y1:=(List Rule)→(List ((List UInt8)×Int))→R
abbrev Y2:=(List Rule)→(List Int)→(List (List UInt8))→Int→Int→(List ((List UInt8)×Int))→R
abbrev Y3:=(List ((List UInt8)×Int))→R
abbrev Y4:=(List Rule)→Int→Int→(List ((List UInt8)×Int))→R
abbrev Y5:=(List Rule)→Int→Int→(List ((List UInt8)×Int))→R
abbrev Y6:=(List Rule)→Int→Int→(List Cnd)→Int→Int→(List ((List UInt8)×Int))→R
noncomputable def fr0 (l:List Rule) (ns:List (List UInt8)) (v:List Int):St U El:=⟨[(0,(.lst .rule l)),(1,(.lst .str ns)),(2,(.lst .int v))],[]⟩
noncomputable def fr1 (l0:List Rule) (cA:List ((List UInt8)×Int)):St U El:=⟨[(0,(.lst .rule l0)),(8,(.mp 24))],[(24,(.map .str .int cA))]⟩
noncomputable def fr2 (l0:List Rule) (dA:List Int) (pA:List (List UInt8)) (lA:Int) (iA:Int) (cA:List ((List UInt8)×Int)):St U El:=⟨[(0,(.lst .rule l0)),(2,(.lst .int dA)),(8,(.mp 24)),(25,(.lst .str pA)),(26,(.int .i64 lA)),(27,(.int .i64 iA))],[(24,(.map .str .int cA))]⟩
noncomputable def fr3 (cA:List ((List UInt8)×Int)):St U El:=⟨[(8,(.mp 24))],[(24,(.map .str .int cA))]⟩
noncomputable def fr4 (gA:List Rule) (jA:Int) (fA:Int) (cA:List ((List UInt8)×Int)):St U El:=⟨[(8,(.mp 24)),(46,(.lst .rule gA)),(47,(.int .i64 jA)),(48,(.int .i64 fA))],[(24,(.map .str .int cA))]⟩
noncomputable def fr5 (gA:List Rule) (jA:Int) (fA:Int) (cA:List ((List UInt8)×Int)):St U El:=⟨[(8,(.mp 24)),(46,(.lst .rule gA)),(47,(.int .i64 jA)),(48,(.int .i64 fA))],[(24,(.map .str .int cA))]⟩
noncomputable def fr6 (gA:List Rule) (jA:Int) (fA:Int) (rA:List Cnd) (sA:Int) (qA:Int) (cA:List ((List UInt8)×Int)):St U El:=⟨[(8,(.mp 24)),(46,(.lst .rule gA)),(47,(.int .i64 jA)),(48,(.int .i64 fA)),(53,(.lst .cnd rA)),(54,(.int .i64 sA)),(55,(.int .i64 qA))],[(24,(.map .str .int cA))]⟩
noncomputable def sh0 (l:List Rule) (ns:List (List UInt8)) (v:List Int) (k2:Y2):R :=
  condB ((Int.ofNat (List.length ns)) != (Int.ofNat (List.length v))) (some ((.tup [.nilm,(.int .i64 (3:Int))]),[])) (k2 l v ns (Int.ofNat (List.length ns)) (0:Int) ([]:List ((List UInt8)×Int)))
noncomputable def sh1 (l0:List Rule) (cA:List ((List UInt8)×Int)) (k4:Y4):R :=
  k4 l0 (Int.ofNat (List.length l0)) (0:Int) cA
noncomputable def sh2 (l0:List Rule) (dA:List Int) (pA:List (List UInt8)) (lA:Int) (iA:Int) (cA:List ((List UInt8)×Int)) (k1:Y1) (k2:Y2):R :=
  condB (ilt iA lA) (chk (inb iA (List.length pA)) (condB (mhas kq_str cA (List.getD pA (Int.toNat iA) d_str)) (some ((.tup [.nilm,(.int .i64 (10:Int))]),[])) (chk (inb iA (List.length dA)) (k2 l0 dA pA lA (IntKind.wrap .i64 (iA+(1:Int))) (mput kq_str cA (List.getD pA (Int.toNat iA) d_str) (List.getD dA (Int.toNat iA) d_int)))))) (k1 l0 cA)
noncomputable def sh3 (cA:List ((List UInt8)×Int)):R :=
  some ((.tup [(.fmp .str .int cA),(.int .i64 (0:Int))]),[])
noncomputable def sh4 (gA:List Rule) (jA:Int) (fA:Int) (cA:List ((List UInt8)×Int)) (k3:Y3) (k6:Y6):R :=
  condB (ilt fA jA) (chk (inb fA (List.length gA)) (k6 gA jA fA ((List.getD gA (Int.toNat fA) d_rule).rw) (Int.ofNat (List.length ((List.getD gA (Int.toNat fA) d_rule).rw))) (0:Int) cA)) (k3 cA)
noncomputable def sh5 (gA:List Rule) (jA:Int) (fA:Int) (cA:List ((List UInt8)×Int)) (k4:Y4):R :=
  k4 gA jA (IntKind.wrap .i64 (fA+(1:Int))) cA
noncomputable def sh6 (gA:List Rule) (jA:Int) (fA:Int) (rA:List Cnd) (sA:Int) (qA:Int) (cA:List ((List UInt8)×Int)) (k5:Y5) (k6:Y6):R :=
  condB (ilt qA sA) (chk (inb qA (List.length rA)) (condB (!(mhas kq_str cA ((List.getD rA (Int.toNat qA) d_cnd).cn))) (some ((.tup [.nilm,(.int .i64 (9:Int))]),[])) (k6 gA jA fA rA sA (IntKind.wrap .i64 (qA+(1:Int))) cA))) (k5 gA jA fA cA)
noncomputable def it2 (Kb1:Kont U El) (n:Nat):Kont U El:=iter nm2 (fun st' K'=>exec X (cdp [1,1,1,0,1,0,0] bd) .d st' K' (Eblk 0 (cutK nm1 Kb1) (fun _ _=>none)) RR) n
noncomputable def it4 (Kb3:Kont U El) (n:Nat):Kont U El:=iter nm4 (fun st' K'=>exec X (cdp [1,1,1,1,0,1,0,0] bd) (.seq none .d (.seq none .d (.seq (some nm5) (.block (.seq none .d (.seq none .d (.block (.loop nm6 .d))))) .d))) st' K' (Eblk 2 (cutK nm3 Kb3) (fun _ _=>none)) RR) n
noncomputable def it6 (Kb3:Kont U El) (Kb5:Kont U El) (n:Nat):Kont U El:=iter nm6 (fun st' K'=>exec X (cdp [1,1,1,1,0,1,0,0,1,1,0,0,1,1,0,0] bd) .d st' K' (Eblk 4 (cutK nm5 Kb5) (Eblk 3 (cutK nm5 Kb5) (Eblk 2 (cutK nm3 Kb3) (fun _ _=>none)))) RR) n
noncomputable def ct1:Kont U El:=fun st=>exec X (cdp [1,1,1,1] bd) (.seq (some nm3) (.seq none .d (.block (.loop nm4 (.seq none .d (.seq none .d (.seq (some nm5) (.block (.seq none .d (.seq none .d (.block (.loop nm6 .d))))) .d)))))) .d) st RR (fun _ _=>none) RR
noncomputable def ct3:Kont U El:=fun st=>exec X (cdp [1,1,1,1,1] bd) .d st RR (fun _ _=>none) RR
noncomputable def ct5 (Kb3:Kont U El) (Kb4:Kont U El):Kont U El:=fun st=>exec X (cdp [1,1,1,1,0,1,0,0,1,1,1] bd) .d st (cutK nm4 Kb4) (Eblk 2 (cutK nm3 Kb3) (fun _ _=>none)) RR
theorem P0 (l ns v):exec X (cdp [] bd) (.seq none .d (.seq none .d (.seq none .d (.seq (some nm1) (.seq none .d (.block (.loop nm2 .d))) (.seq (some nm3) (.seq none .d (.block (.loop nm4 (.seq none .d (.seq none .d (.seq (some nm5) (.block (.seq none .d (.seq none .d (.block (.loop nm6 .d))))) .d)))))) .d))))) (fr0 l ns v) RR (fun _ _=>none) RR=sh0 l ns v (fun y0 y1 y2 y3 y4 y5=>(hid (it2 (hid ct1) 100000)) (fr2 y0 y1 y2 y3 y4 y5)):=by kernel_rfl
theorem P1 (l0 cA):exec X (cdp [1,1,1,1] bd) (.seq (some nm3) (.seq none .d (.block (.loop nm4 (.seq none .d (.seq none .d (.seq (some nm5) (.block (.seq none .d (.seq none .d (.block (.loop nm6 .d))))) .d)))))) .d) (fr1 l0 cA) RR (fun _ _=>none) RR=sh1 l0 cA (fun y0 y1 y2 y3=>(hid (it4 (hid ct3) 100000)) (fr4 y0 y1 y2 y3)):=by kernel_rfl
theorem P2 (l0 dA pA lA iA cA) (Kb1:Kont U El) (Kb2:Kont U El):exec X (cdp [1,1,1,0,1,0,0] bd) .d (fr2 l0 dA pA lA iA cA) (cutK nm2 Kb2) (Eblk 0 (cutK nm1 Kb1) (fun _ _=>none)) RR=sh2 l0 dA pA lA iA cA (fun y0 y1=>Kb1 (fr1 y0 y1)) (fun y0 y1 y2 y3 y4 y5=>Kb2 (fr2 y0 y1 y2 y3 y4 y5)):=by kernel_rfl
theorem P3 (cA):exec X (cdp [1,1,1,1,1] bd) .d (fr3 cA) RR (fun _ _=>none) RR=sh3 cA:=by kernel_rfl
theorem P4 (gA jA fA cA) (Kb3:Kont U El) (Kb4:Kont U El):exec X (cdp [1,1,1,1,0,1,0,0] bd) (.seq none .d (.seq none .d (.seq (some nm5) (.block (.seq none .d (.seq none .d (.block (.loop nm6 .d))))) .d))) (fr4 gA jA fA cA) (cutK nm4 Kb4) (Eblk 2 (cutK nm3 Kb3) (fun _ _=>none)) RR=sh4 gA jA fA cA (fun y0=>Kb3 (fr3 y0)) (fun y0 y1 y2 y3 y4 y5 y6=>(hid (it6 Kb3 (hid (ct5 Kb3 Kb4)) 100000)) (fr6 y0 y1 y2 y3 y4 y5 y6)):=by kernel_rfl
theorem P5 (gA jA fA cA) (Kb3:Kont U El) (Kb4:Kont U El):exec X (cdp [1,1,1,1,0,1,0,0,1,1,1] bd) .d (fr5 gA jA fA cA) (cutK nm4 Kb4) (Eblk 2 (cutK nm3 Kb3) (fun _ _=>none)) RR=sh5 gA jA fA cA (fun y0 y1 y2 y3=>Kb4 (fr4 y0 y1 y2 y3)):=by kernel_rfl
theorem P6 (gA jA fA rA sA qA cA) (Kb3:Kont U El) (Kb5:Kont U El) (Kb6:Kont U El):exec X (cdp [1,1,1,1,0,1,0,0,1,1,0,0,1,1,0,0] bd) .d (fr6 gA jA fA rA sA qA cA) (cutK nm6 Kb6) (Eblk 4 (cutK nm5 Kb5) (Eblk 3 (cutK nm5 Kb5) (Eblk 2 (cutK nm3 Kb3) (fun _ _=>none)))) RR=sh6 gA jA fA rA sA qA cA (fun y0 y1 y2 y3=>Kb5 (fr5 y0 y1 y2 y3)) (fun y0 y1 y2 y3 y4 y5 y6=>Kb6 (fr6 y0 y1 y2 y3 y4 y5 y6)):=by kernel_rfl
noncomputable def f3 (cA:List ((List UInt8)×Int)):R:=sh3 cA
noncomputable def f5 (k4:Y4) (gA:List Rule) (jA:Int) (fA:Int) (cA:List ((List UInt8)×Int)):R:=sh5 gA jA fA cA k4
noncomputable def f6 (k4:Y4):Nat→Y6
  | 0=>fun _ _ _ _ _ _ _=>none
  | n+1=>fun gA jA fA rA sA qA cA=>sh6 gA jA fA rA sA qA cA (f5 k4) (f6 k4 n)
noncomputable def f4:Nat→Y4
  | 0=>fun _ _ _ _=>none
  | n+1=>fun gA jA fA cA=>sh4 gA jA fA cA f3 (f6 (f4 n) 100000)
noncomputable def f1 (l0:List Rule) (cA:List ((List UInt8)×Int)):R:=sh1 l0 cA (f4 100000)
noncomputable def f2:Nat→Y2
  | 0=>fun _ _ _ _ _ _=>none
  | n+1=>fun l0 dA pA lA iA cA=>sh2 l0 dA pA lA iA cA f1 (f2 n)
noncomputable def f0 (l:List Rule) (ns:List (List UInt8)) (v:List Int):R:=sh0 l ns v (f2 100000)
theorem T3 (cA):(hid ct3) (fr3 cA)=f3 cA:=by
  refine (congrFun (hid_eq _) _).trans <| (P3 cA).trans ?_
  show _=sh3 cA
  rfl
theorem T5 (KL4:Kont U El) (k4:Y4) (h4:∀ gA jA fA cA,KL4 (fr4 gA jA fA cA)=k4 gA jA fA cA) (gA jA fA cA):(hid (ct5 (hid ct3) KL4)) (fr5 gA jA fA cA)=f5 k4 gA jA fA cA:=by
  refine (congrFun (hid_eq _) _).trans <| (P5 gA jA fA cA (hid ct3) KL4).trans ?_
  show _=sh5 gA jA fA cA k4
  simp only [h4]
theorem T6 (KL4:Kont U El) (k4:Y4) (h4:∀ gA jA fA cA,KL4 (fr4 gA jA fA cA)=k4 gA jA fA cA):∀ (n:Nat),∀ gA jA fA rA sA qA cA,it6 (hid ct3) (hid (ct5 (hid ct3) KL4)) n (fr6 gA jA fA rA sA qA cA)=f6 k4 n gA jA fA rA sA qA cA:=by
  intro n
  induction n with
  | zero=>intros; rfl
  | succ n ih =>
    intro gA jA fA rA sA qA cA
    refine (P6 gA jA fA rA sA qA cA (hid ct3) (hid (ct5 (hid ct3) KL4)) (it6 (hid ct3) (hid (ct5 (hid ct3) KL4)) n)).trans ?_
    show _=sh6 gA jA fA rA sA qA cA (f5 k4) (f6 k4 n)
    simp only [T5 KL4 k4 h4,ih]
theorem H6 (KL4:Kont U El) (k4:Y4) (h4:∀ gA jA fA cA,KL4 (fr4 gA jA fA cA)=k4 gA jA fA cA) (gA jA fA rA sA qA cA):hid (it6 (hid ct3) (hid (ct5 (hid ct3) KL4)) 100000) (fr6 gA jA fA rA sA qA cA)=f6 k4 100000 gA jA fA rA sA qA cA:=(congrFun (hid_eq _) _).trans (T6 KL4 k4 h4 100000 gA jA fA rA sA qA cA)
theorem T4:∀ (n:Nat),∀ gA jA fA cA,it4 (hid ct3) n (fr4 gA jA fA cA)=f4 n gA jA fA cA:=by
  intro n
  induction n with
  | zero=>intros; rfl
  | succ n ih =>
    intro gA jA fA cA
    refine (P4 gA jA fA cA (hid ct3) (it4 (hid ct3) n)).trans ?_
    show _=sh4 gA jA fA cA f3 (f6 (f4 n) 100000)
    simp only [T3,H6 (it4 (hid ct3) n) (f4 n) ih]
theorem H4 (gA jA fA cA):hid (it4 (hid ct3) 100000) (fr4 gA jA fA cA)=f4 100000 gA jA fA cA:=(congrFun (hid_eq _) _).trans (T4 100000 gA jA fA cA)
theorem T1 (l0 cA):(hid ct1) (fr1 l0 cA)=f1 l0 cA:=by
  refine (congrFun (hid_eq _) _).trans <| (P1 l0 cA).trans ?_
  show _=sh1 l0 cA (f4 100000)
  simp only [H4]
theorem T2:∀ (n:Nat),∀ l0 dA pA lA iA cA,it2 (hid ct1) n (fr2 l0 dA pA lA iA cA)=f2 n l0 dA pA lA iA cA:=by
  intro n
  induction n with
  | zero=>intros; rfl
  | succ n ih =>
    intro l0 dA pA lA iA cA
    refine (P2 l0 dA pA lA iA cA (hid ct1) (it2 (hid ct1) n)).trans ?_
    show _=sh2 l0 dA pA lA iA cA f1 (f2 n)
    simp only [T1,ih]
theorem H2 (l0 dA pA lA iA cA):hid (it2 (hid ct1) 100000) (fr2 l0 dA pA lA iA cA)=f2 100000 l0 dA pA lA iA cA:=(congrFun (hid_eq _) _).trans (T2 100000 l0 dA pA lA iA cA)
theorem T0 (l ns v):exec X bd (.seq none .d (.seq none .d (.seq none .d (.seq (some nm1) (.seq none .d (.block (.loop nm2 .d))) (.seq (some nm3) (.seq none .d (.block (.loop nm4 (.seq none .d (.seq none .d (.seq (some nm5) (.block (.seq none .d (.seq none .d (.block (.loop nm6 .d))))) .d)))))) .d))))) (fr0 l ns v) RR (fun _ _=>none) RR=f0 l ns v:=by
  refine (P0 l ns v).trans ?_
  show _=sh0 l ns v (f2 100000)
  simp only [H2]
theorem run (l ns v):runFn X bd (.seq none .d (.seq none .d (.seq none .d (.seq (some nm1) (.seq none .d (.block (.loop nm2 .d))) (.seq (some nm3) (.seq none .d (.block (.loop nm4 (.seq none .d (.seq none .d (.seq (some nm5) (.block (.seq none .d (.seq none .d (.block (.loop nm6 .d))))) .d)))))) .d))))) nmR [6,7] [] [(.lst .rule l),(.lst .str ns),(.lst .int v)]=f0 l ns v:=T0 l ns v
theorem loop6 (k4:Y4) (l:List Rule) (L i:Int) (w:List Cnd) (m:List ((List UInt8)×Int)) (hw:w.length≤90000) (hm:∀ c∈w,mhas kq_str m c.cn=true):∀ (n j:Nat),w.length < n+j→j≤w.length→f6 k4 n l L i w (Int.ofNat w.length) (j:Int) m=f5 k4 l L i m:=by
  intro n
  induction n with
  | zero=>intro j h1 h2; omega
  | succ n ih =>
    intro j h1 h2
    show sh6 l L i w (Int.ofNat w.length) (j:Int) m (f5 k4) (f6 k4 n)=_
    unfold sh6
    by_cases hj:j < w.length
    · rw [iltT (by simp; omega), inbT hj, toNat_nat, getD_lt hj, hm _ (List.getElem_mem hj), wrapS j (by omega), ih (j + 1) (by omega) hj]
      rfl
    · have : j = w.length := by omega
      subst this
      rw [iltF (by simp)]
      rfl
theorem loop4 (l:List Rule) (m:List ((List UInt8)×Int)) (hl:l.length≤90000) (hw:∀ r∈l,r.rw.length≤90000) (hm:∀ r∈l,∀ c∈r.rw,mhas kq_str m c.cn=true):∀ (n i:Nat),l.length < n+i→i≤l.length→f4 n l (Int.ofNat l.length) (i:Int) m=outG m:=by
  intro n
  induction n with
  | zero=>intro i h1 h2; omega
  | succ n ih =>
    intro i h1 h2
    show sh4 l (Int.ofNat l.length) (i:Int) m f3 (f6 (f4 n) 100000)=_
    unfold sh4
    by_cases hi:i < l.length
    · have hr := hw _ (List.getElem_mem hi)
      have e:=loop6 (f4 n) l (Int.ofNat l.length) (i:Int) l[i].rw m hr (hm _ (List.getElem_mem hi)) 100000 0 (by omega) (by omega)
      rw [iltT (by simp; omega),inbT hi,toNat_nat,getD_lt hi,show ((0:Int))=((0:Nat):Int) from rfl,e]
      show f4 n l (Int.ofNat l.length) (IntKind.wrap .i64 ((i:Int)+1)) m=_
      rw [wrapS i (by omega),ih (i+1) (by omega) hi]
    · have : i = l.length := by omega
      subst this
      rw [iltF (by simp)]
      rfl
theorem loop (l : List Rule) (ns : List (List UInt8)) (v : List Int) (hl : l.length ≤ 90000) (hw : ∀ r ∈ l, r.rw.length ≤ 90000) (hn : ns.length ≤ 90000) (hlen : ns.length = v.length) (hd : distB ns = true) (hm : ∀ r ∈ l, ∀ c ∈ r.rw, List.elem c.cn ns = true) : ∀ (n i : Nat), ns.length < n + i → i ≤ ns.length →
    f2 n l v ns (Int.ofNat ns.length) (i:Int) (List.zip (ns.take i) (v.take i))=outG (List.zip ns v):=by
  intro n
  induction n with
  | zero=>intro i h1 h2; omega
  | succ n ih =>
    intro i h1 h2
    show sh2 l v ns (Int.ofNat ns.length) (i:Int) (List.zip (ns.take i) (v.take i)) f1 (f2 n)=_
    unfold sh2
    by_cases hi:i < ns.length
    · have hv : i < v.length := by omega
      have h3:mhas kq_str (List.zip (ns.take i) (v.take i)) ns[i]=false:=by
        rw [mhas_zip _ _ _ (by simp; omega)]
        have:=allI_iff.1 hd i _ (List.getElem?_eq_getElem hi)
        rw [Nat.zero_add] at this
        simpa using this
      rw [iltT (by simp; omega),inbT hi,inbT hv,toNat_nat,getD_lt hi,getD_lt hv,h3,mput_new h3,wrapS i (by omega)]
      have h4:List.zip (ns.take i) (v.take i)++[(ns[i],v[i])]=List.zip (ns.take (i+1)) (v.take (i+1)):=by
        rw [take_lt hi,take_lt hv,List.zip_append (by simp; omega)]
        rfl
      rw [h4]
      exact ih (i+1) (by omega) hi
    · have : i = ns.length := by omega
      subst this
      rw [iltF (by simp),List.take_length,List.take_of_length_le (by omega)]
      show f4 100000 l (Int.ofNat l.length) ((0:Nat):Int) (List.zip ns v)=_
      exact loop4 l _ hl hw (fun r hr c hc=>by rw [mhas_zip _ _ _ hlen]; exact hm r hr c hc) 100000 0 (by omega) (by omega)
theorem f0_eq (l:List Rule) (ns:List (List UInt8)) (v:List Int) (h:(okR l&&(nle (List.length ns) 90000&&gvE l ns v == 0))=true):f0 l ns v=outG (List.zip ns v):=by
  simp only [Bool.and_eq_true] at h
  obtain ⟨h1,h2,h3⟩:=h
  obtain ⟨g1,g2,g3⟩:=gv0 h3
  simp only [okR,Bool.and_eq_true] at h1
  have hn:=nleI h2
  show sh0 l ns v (f2 100000)=_
  unfold sh0
  have e:=loop l ns v (nleI h1.1) (fun r hr=>nleI (List.all_eq_true.1 h1.2 r hr)) hn g1 g2 g3 100000 0 (by omega) (by omega)
  rw [g1,show ((Int.ofNat v.length) != (Int.ofNat v.length))=false by simp,condF]
  rw [g1] at e
  exact e
theorem ok:CtxOk Tryz.prog X:=ctxOk tab spN dpN
theorem okM:MOk Tryz.prog X:=fun g sp h=>by cases h
theorem spec (l:List Rule) (ns:List (List UInt8)) (v:List Int) (h:((okR l&&(nle (List.length ns) 90000&&gvE l ns v == 0)))=true):CallSpec Tryz.prog E 86 [(.lst .rule l),(.lst .str ns),(.lst .int v)] (.tup [(.fmp .str .int (List.zip ns v)),(.int .i64 (0:Int))]) [] :=
  runFn_sound ok okM Tryz.call86 Tryz.func86 (by kernel_rfl) (by kernel_rfl) (by kernel_rfl) (by show 3≤71; decide) (by decide) (by rfl) ((run l ns v).trans (f0_eq l ns v h))
noncomputable def sp:Sp U El:=fun args k=>match args with
  | [.lst .rule l,.lst .str ns,.lst .int v]=>chk ((okR l&&(nle (List.length ns) 90000&&gvE l ns v == 0))) (k (.tup [(.fmp .str .int (List.zip ns v)),(.int .i64 (0:Int))]) [])
  | _=>none
theorem spOk:SpOk Tryz.prog E 86 sp where
  det:=fun vs=>by
    unfold sp
    split
    · exact det_c _ _ _
    · exact ⟨none,fun _=>rfl⟩
  ok:=fun vs k r h=>by
    unfold sp at h
    split at h
    · obtain ⟨h1, h2⟩ := chk_some h
      exact ⟨_,_,spec _ _ _ h1,h2⟩
    · cases h
end ugiven
namespace uh1
noncomputable def bd:Code:=(Tryz.f129.body).getD .skip
noncomputable def X:Ctx U El:=⟨E,tds,zeros,eqs,specOf [],100000,14,dspecOf [],fun _=>none⟩
noncomputable def nmR:Norm U:=⟨[],[3],[],[],[],[],[]⟩
noncomputable def RR:Kont U El:=fun st=>normK nmR st (retFin [3] [])
noncomputable def fr0 (x:Cnd) (am:List ((List UInt8)×Int)):St U El:=⟨[(0,(.agg [(.str x.cn),(.bool x.cb),(.int .i64 x.cl)])),(1,(.pcs [(.fmp .str .int am)] 0))],[]⟩
noncomputable def sh0 (x:Cnd) (am:List ((List UInt8)×Int)):R :=
  some ((.bool ((ile x.cl (mgetD kq_str am x.cn d_int)) == x.cb)),[])
theorem P0 (x am):exec X (cdp [] bd) .d (fr0 x am) RR (fun _ _=>none) RR=sh0 x am:=by kernel_rfl
noncomputable def f0 (x:Cnd) (am:List ((List UInt8)×Int)):R:=sh0 x am
theorem T0 (x am):exec X bd .d (fr0 x am) RR (fun _ _=>none) RR=f0 x am:=by
  refine (P0 x am).trans ?_
  show _=sh0 x am
  rfl
theorem run (x am):runFn X bd .d nmR [3] [] [(.agg [(.str x.cn),(.bool x.cb),(.int .i64 x.cl)]),(.pcs [(.fmp .str .int am)] 0)]=f0 x am:=T0 x am
theorem f0_eq (x:Cnd) (m:List ((List UInt8)×Int)):f0 x m=outB (failsM m x):=rfl
theorem ok:CtxOk Tryz.prog X:=ctxOk tab spN dpN
theorem okM:MOk Tryz.prog X:=fun g sp h=>by cases h
theorem spec (x:Cnd) (am:List ((List UInt8)×Int)):CallSpec Tryz.prog E 129 [(.agg [(.str x.cn),(.bool x.cb),(.int .i64 x.cl)]),(.pcs [(.fmp .str .int am)] 0)] (.bool ((failsM am) x)) [] :=
  runFn_sound ok okM Tryz.call129 Tryz.func129 (by kernel_rfl) (by kernel_rfl) (by kernel_rfl) (by show 2≤14; decide) (by decide) (by rfl) ((run x am).trans (f0_eq x am))
noncomputable def sp:Sp U El:=fun args k=>match args with
  | [.agg [.str x_cn,.bool x_cb,.int .i64 x_cl],.pcs [.fmp .str .int am] 0]=>k (.bool ((failsM am) (⟨x_cn,x_cb,x_cl⟩:Cnd))) []
  | _=>none
theorem spOk:SpOk Tryz.prog E 129 sp where
  det:=fun vs=>by
    unfold sp
    split
    · exact ⟨some (_,_),fun _=>rfl⟩
    · exact ⟨none,fun _=>rfl⟩
  ok:=fun vs k r h=>by
    unfold sp at h
    split at h
    · exact ⟨_,_,spec ⟨_,_,_⟩ _,h⟩
    · cases h
end uh1
namespace uh1X
noncomputable def bd:Code:=(Tryz.f130.body).getD .skip
noncomputable def X:Ctx U El:=⟨E,tds,zeros,eqs,specOf [(129,uh1.sp)],100000,19,dspecOf [],fun _=>none⟩
noncomputable def nmR:Norm U:=⟨[],[4],[],[],[],[],[]⟩
noncomputable def RR:Kont U El:=fun st=>normK nmR st (retFin [4] [])
noncomputable def nm1:Norm U:=⟨[],[],[],[],[],[],[]⟩
noncomputable def nm2:Norm U:=⟨[],[0,1,7,8],[],[],[],[],[]⟩
abbrev Y1:=R
abbrev Y2:=(List Cnd)→(List ((List UInt8)×Int))→Int→Int→R
noncomputable def fr0 (l:List Cnd) (am:List ((List UInt8)×Int)):St U El:=⟨[(0,(.lst .cnd l)),(1,(.fn 129 [] [(.pcs [(.fmp .str .int am)] 0)]))],[]⟩
noncomputable def fr1:St U El:=⟨[],[]⟩
noncomputable def fr2 (s0:List Cnd) (f1c_0:List ((List UInt8)×Int)) (x7:Int) (x8:Int):St U El:=⟨[(0,(.lst .cnd s0)),(1,(.fn 129 [] [(.pcs [(.fmp .str .int f1c_0)] 0)])),(7,(.int .i64 x7)),(8,(.int .i64 x8))],[]⟩
noncomputable def sh0 (l:List Cnd) (am:List ((List UInt8)×Int)) (k2:Y2):R :=
  k2 l am (Int.ofNat (List.length l)) (0:Int)
noncomputable def sh1:R :=
  some ((.int .i64 (-1:Int)),[])
noncomputable def sh2 (s0:List Cnd) (f1c_0:List ((List UInt8)×Int)) (x7:Int) (x8:Int) (k1:Y1) (k2:Y2):R :=
  condB (ilt x8 x7) (chk (inb x8 (List.length s0)) (condB ((failsM f1c_0) (List.getD s0 (Int.toNat x8) d_cnd)) (some ((.int .i64 x8),[])) (k2 s0 f1c_0 x7 (IntKind.wrap .i64 (x8+(1:Int)))))) (k1)
noncomputable def it2 (Kb1:Kont U El) (n:Nat):Kont U El:=iter nm2 (fun st' K'=>exec X (cdp [1,0,1,0,0] bd) .d st' K' (Eblk 0 (cutK nm1 Kb1) (fun _ _=>none)) RR) n
noncomputable def ct1:Kont U El:=fun st=>exec X (cdp [1,1] bd) .d st RR (fun _ _=>none) RR
theorem P0 (l am):exec X (cdp [] bd) (.seq none .d (.seq (some nm1) (.seq none .d (.block (.loop nm2 .d))) .d)) (fr0 l am) RR (fun _ _=>none) RR=sh0 l am (fun y0 y1 y2 y3=>(hid (it2 (hid ct1) 100000)) (fr2 y0 y1 y2 y3)):=by kernel_rfl
theorem P1:exec X (cdp [1,1] bd) .d (fr1) RR (fun _ _=>none) RR=sh1:=by kernel_rfl
theorem P2 (s0 f1c_0 x7 x8) (Kb1:Kont U El) (Kb2:Kont U El):exec X (cdp [1,0,1,0,0] bd) .d (fr2 s0 f1c_0 x7 x8) (cutK nm2 Kb2) (Eblk 0 (cutK nm1 Kb1) (fun _ _=>none)) RR=sh2 s0 f1c_0 x7 x8 (Kb1 (fr1)) (fun y0 y1 y2 y3=>Kb2 (fr2 y0 y1 y2 y3)):=by kernel_rfl
noncomputable def f1:R:=sh1
noncomputable def f2:Nat→Y2
  | 0=>fun _ _ _ _=>none
  | n+1=>fun s0 f1c_0 x7 x8=>sh2 s0 f1c_0 x7 x8 f1 (f2 n)
noncomputable def f0 (l:List Cnd) (am:List ((List UInt8)×Int)):R:=sh0 l am (f2 100000)
theorem T1:(hid ct1) (fr1)=f1:=by
  refine (congrFun (hid_eq _) _).trans <| (P1).trans ?_
  show _=sh1
  rfl
theorem T2:∀ (n:Nat),∀ s0 f1c_0 x7 x8,it2 (hid ct1) n (fr2 s0 f1c_0 x7 x8)=f2 n s0 f1c_0 x7 x8:=by
  intro n
  induction n with
  | zero=>intros; rfl
  | succ n ih =>
    intro s0 f1c_0 x7 x8
    refine (P2 s0 f1c_0 x7 x8 (hid ct1) (it2 (hid ct1) n)).trans ?_
    show _=sh2 s0 f1c_0 x7 x8 f1 (f2 n)
    simp only [T1,ih]
theorem H2 (s0 f1c_0 x7 x8):hid (it2 (hid ct1) 100000) (fr2 s0 f1c_0 x7 x8)=f2 100000 s0 f1c_0 x7 x8:=(congrFun (hid_eq _) _).trans (T2 100000 s0 f1c_0 x7 x8)
theorem T0 (l am):exec X bd (.seq none .d (.seq (some nm1) (.seq none .d (.block (.loop nm2 .d))) .d)) (fr0 l am) RR (fun _ _=>none) RR=f0 l am:=by
  refine (P0 l am).trans ?_
  show _=sh0 l am (f2 100000)
  simp only [H2]
theorem run (l am):runFn X bd (.seq none .d (.seq (some nm1) (.seq none .d (.block (.loop nm2 .d))) .d)) nmR [4] [] [(.lst .cnd l),(.fn 129 [] [(.pcs [(.fmp .str .int am)] 0)])]=f0 l am:=T0 l am
theorem f0_eq (l:List Cnd) (am:List ((List UInt8)×Int)) (h:(nle (List.length l) 90000)=true):f0 l am=outI (findZ (failsM am) 0 l):=by
  have hl:=nleI h
  refine (grun_eq l (by omega) (fun n_ (_:Unit) i_=>f2 n_ l am (Int.ofNat l.length) i_) _ (fun _=>outI (-1)) (fun n_ u_ i_ hi_ => ?_) (fun n_ u_ => ?_) 100000 0 () (by omega) (by omega)).trans (grun_find (failsM am) outI l 0)
  · show sh2 l am (Int.ofNat l.length) i_ f1 (f2 n_) = _
    unfold sh2
    rw [iltT (by simp; omega),inbT hi_,toNat_nat,getD_lt hi_]
    rfl
  · show sh2 l am (Int.ofNat l.length) (l.length : Int) f1 (f2 n_) = _
    unfold sh2
    rw [iltF (by simp)]
    rfl
theorem ok:CtxOk Tryz.prog X:=ctxOk tab (spC uh1.spOk spN) dpN
theorem okM:MOk Tryz.prog X:=fun g sp h=>by cases h
theorem spec (l:List Cnd) (am:List ((List UInt8)×Int)) (h:(nle (List.length l) 90000)=true):CallSpec Tryz.prog E 130 [(.lst .cnd l),(.fn 129 [] [(.pcs [(.fmp .str .int am)] 0)])] (.int .i64 (findZ (failsM am) 0 l)) [] :=
  runFn_sound ok okM Tryz.call130 Tryz.func130 (by kernel_rfl) (by kernel_rfl) (by kernel_rfl) (by show 2≤19; decide) (by decide) (by rfl) ((run l am).trans (f0_eq l am h))
noncomputable def sp:Sp U El:=fun args k=>match args with
  | [.lst .cnd l,.fn 129 [] [.pcs [.fmp .str .int am] 0]]=>chk (nle (List.length l) 90000) (k (.int .i64 (findZ (failsM am) 0 l)) [])
  | _=>none
theorem spOk:SpOk Tryz.prog E 130 sp where
  det:=fun vs=>by
    unfold sp
    split
    · exact det_c _ _ _
    · exact ⟨none,fun _=>rfl⟩
  ok:=fun vs k r h=>by
    unfold sp at h
    split at h
    · obtain ⟨h1, h2⟩ := chk_some h
      exact ⟨_,_,spec _ _ h1,h2⟩
    · cases h
end uh1X
namespace uh1C
noncomputable def bd:Code:=(Tryz.f88.body).getD .skip
noncomputable def X:Ctx U El:=⟨E,tds,zeros,eqs,specOf [(130,uh1X.sp)],100000,9,dspecOf [],fun _=>none⟩
noncomputable def nmR:Norm U:=⟨[],[4],[],[],[],[],[]⟩
noncomputable def RR:Kont U El:=fun st=>normK nmR st (retFin [4] [])
noncomputable def fr0 (l:List Cnd) (am:List ((List UInt8)×Int)):St U El:=⟨[(0,(.lst .cnd l)),(1,(.fn 129 [] [(.pcs [(.fmp .str .int am)] 0)]))],[]⟩
noncomputable def sh0 (l:List Cnd) (am:List ((List UInt8)×Int)):R :=
  chk (nle (List.length l) 90000) (some ((.bool (ile (0:Int) (findZ (failsM am) 0 l))),[]))
theorem P0 (l am):exec X (cdp [] bd) .d (fr0 l am) RR (fun _ _=>none) RR=sh0 l am:=by kernel_rfl
noncomputable def f0 (l:List Cnd) (am:List ((List UInt8)×Int)):R:=sh0 l am
theorem T0 (l am):exec X bd .d (fr0 l am) RR (fun _ _=>none) RR=f0 l am:=by
  refine (P0 l am).trans ?_
  show _=sh0 l am
  rfl
theorem run (l am):runFn X bd .d nmR [4] [] [(.lst .cnd l),(.fn 129 [] [(.pcs [(.fmp .str .int am)] 0)])]=f0 l am:=T0 l am
theorem f0_eq (l:List Cnd) (am:List ((List UInt8)×Int)) (h:(nle (List.length l) 90000)=true):f0 l am=outB (List.any l (failsM am)):=by
  show chk _ (outB _)=_
  rw [h,chkT,findZ_any]
theorem ok:CtxOk Tryz.prog X:=ctxOk tab (spC uh1X.spOk spN) dpN
theorem okM:MOk Tryz.prog X:=fun g sp h=>by cases h
theorem spec (l:List Cnd) (am:List ((List UInt8)×Int)) (h:(nle (List.length l) 90000)=true):CallSpec Tryz.prog E 88 [(.lst .cnd l),(.fn 129 [] [(.pcs [(.fmp .str .int am)] 0)])] (.bool (List.any l (failsM am))) [] :=
  runFn_sound ok okM Tryz.call88 Tryz.func88 (by kernel_rfl) (by kernel_rfl) (by kernel_rfl) (by show 2≤9; decide) (by decide) (by rfl) ((run l am).trans (f0_eq l am h))
noncomputable def sp:Sp U El:=fun args k=>match args with
  | [.lst .cnd l,.fn 129 [] [.pcs [.fmp .str .int am] 0]]=>chk (nle (List.length l) 90000) (k (.bool (List.any l (failsM am))) [])
  | _=>none
theorem spOk:SpOk Tryz.prog E 88 sp where
  det:=fun vs=>by
    unfold sp
    split
    · exact det_c _ _ _
    · exact ⟨none,fun _=>rfl⟩
  ok:=fun vs k r h=>by
    unfold sp at h
    split at h
    · obtain ⟨h1, h2⟩ := chk_some h
      exact ⟨_,_,spec _ _ h1,h2⟩
    · cases h
end uh1C
namespace uholds
noncomputable def bd:Code:=(Tryz.f87.body).getD .skip
noncomputable def X:Ctx U El:=⟨E,tds,zeros,eqs,specOf [(88,uh1C.sp)],100000,10,dspecOf [],fun _=>none⟩
noncomputable def nmR:Norm U:=⟨[],[4],[],[],[],[],[]⟩
noncomputable def RR:Kont U El:=fun st=>normK nmR st (retFin [4] [])
noncomputable def fr0 (r:Rule) (am:List ((List UInt8)×Int)):St U El:=⟨[(0,(.agg [(.str r.rn),(.lst .cnd r.rw),(.str r.rl),(.int .i64 r.rs)])),(1,(.fmp .str .int am))],[]⟩
noncomputable def sh0 (r:Rule) (am:List ((List UInt8)×Int)):R :=
  chk (nle (List.length r.rw) 90000) (some ((.bool (!(List.any r.rw (failsM am)))),[]))
theorem P0 (r am):exec X (cdp [] bd) .d (fr0 r am) RR (fun _ _=>none) RR=sh0 r am:=by kernel_rfl
noncomputable def f0 (r:Rule) (am:List ((List UInt8)×Int)):R:=sh0 r am
theorem T0 (r am):exec X bd .d (fr0 r am) RR (fun _ _=>none) RR=f0 r am:=by
  refine (P0 r am).trans ?_
  show _=sh0 r am
  rfl
theorem run (r am):runFn X bd .d nmR [4] [] [(.agg [(.str r.rn),(.lst .cnd r.rw),(.str r.rl),(.int .i64 r.rs)]),(.fmp .str .int am)]=f0 r am:=T0 r am
theorem f0_eq (r:Rule) (m:List ((List UInt8)×Int)) (h:(nle (List.length (Rule.rw r)) 90000)=true):f0 r m=outB (!(List.any (Rule.rw r) (failsM m))):=by
  show sh0 r m=_
  unfold sh0
  rw [h]
  rfl
theorem ok:CtxOk Tryz.prog X:=ctxOk tab (spC uh1C.spOk spN) dpN
theorem okM:MOk Tryz.prog X:=fun g sp h=>by cases h
theorem spec (r:Rule) (am:List ((List UInt8)×Int)) (h:(nle (List.length (Rule.rw r)) 90000)=true):CallSpec Tryz.prog E 87 [(.agg [(.str r.rn),(.lst .cnd r.rw),(.str r.rl),(.int .i64 r.rs)]),(.fmp .str .int am)] (.bool (!(List.any (Rule.rw r) (failsM am)))) [] :=
  runFn_sound ok okM Tryz.call87 Tryz.func87 (by kernel_rfl) (by kernel_rfl) (by kernel_rfl) (by show 2≤10; decide) (by decide) (by rfl) ((run r am).trans (f0_eq r am h))
noncomputable def sp:Sp U El:=fun args k=>match args with
  | [.agg [.str r_rn,.lst .cnd r_rw,.str r_rl,.int .i64 r_rs],.fmp .str .int am]=>chk (nle (List.length (Rule.rw (⟨r_rn,r_rw,r_rl,r_rs⟩:Rule))) 90000) (k (.bool (!(List.any (Rule.rw (⟨r_rn,r_rw,r_rl,r_rs⟩:Rule)) (failsM am)))) [])
  | _=>none
theorem spOk:SpOk Tryz.prog E 87 sp where
  det:=fun vs=>by
    unfold sp
    split
    · exact det_c _ _ _
    · exact ⟨none,fun _=>rfl⟩
  ok:=fun vs k r h=>by
    unfold sp at h
    split at h
    · obtain ⟨h1, h2⟩ := chk_some h
      exact ⟨_,_,spec ⟨_,_,_,_⟩ _ h1,h2⟩
    · cases h
end uholds
theorem firedI_len (m:List ((List UInt8)×Int)):∀ (l:List Rule) (i:Nat),(firedI m i l).length≤l.length:=by
  intro l
  induction l with
  | nil=>intro i; simp [firedI]
  | cons r l ih =>
    intro i
    have:=ih (i+1)
    simp only [firedI,List.length_cons]
    cases !(List.any r.rw (failsM m))
    · simp only [cond_false]; omega
    · simp only [cond_true,List.length_cons]; omega
theorem rules_okR {l:List Rule} (h:rulesB l=true):okR l=true:=by
  obtain ⟨h1,h2⟩:=rulesB_len h
  simp only [okR,Bool.and_eq_true]
  exact ⟨nleT (by omega),List.all_eq_true.2 fun r hr=>nleT (by have:=(ruleB_len (h2 r hr)).1; omega)⟩
namespace ufired
noncomputable def bd:Code:=(Tryz.f40.body).getD .skip
noncomputable def X:Ctx U El:=⟨E,tds,zeros,eqs,specOf [(85,valid.sp),(86,ugiven.sp),(87,uholds.sp)],100000,42,dspecOf [],fun _=>none⟩
noncomputable def nmR:Norm U:=⟨[(6,.int)],[6,7],[6],[],[],[],[]⟩
noncomputable def RR:Kont U El:=fun st=>normK nmR st (retFin [6,7] [6])
noncomputable def nm1:Norm U:=⟨[(10,.int)],[10],[10],[],[],[],[]⟩
noncomputable def nm2:Norm U:=⟨[(10,.int)],[8,10,26,27,28],[10],[],[],[],[]⟩
noncomputable def nm3:Norm U:=⟨[(10,.int)],[8,10,26,27,28],[10],[],[],[],[]⟩
abbrev Y1:=(List Int)→R
abbrev Y2:=(List ((List UInt8)×Int))→(List Int)→(List Rule)→Int→Int→R
abbrev Y3:=(List ((List UInt8)×Int))→(List Int)→(List Rule)→Int→Int→R
noncomputable def fr0 (l:List Rule) (ns:List (List UInt8)) (v:List Int):St U El:=⟨[(0,(.lst .rule l)),(1,(.lst .str ns)),(2,(.lst .int v))],[]⟩
noncomputable def fr1 (aA:List Int):St U El:=⟨[(10,(.ful 10))],[(10,(.rows .int aA))]⟩
noncomputable def fr2 (oA:List ((List UInt8)×Int)) (aA:List Int) (lA:List Rule) (iA:Int) (nA:Int):St U El:=⟨[(8,(.fmp .str .int oA)),(10,(.ful 10)),(26,(.lst .rule lA)),(27,(.int .i64 iA)),(28,(.int .i64 nA))],[(10,(.rows .int aA))]⟩
noncomputable def fr3 (oA:List ((List UInt8)×Int)) (aA:List Int) (lA:List Rule) (iA:Int) (nA:Int):St U El:=⟨[(8,(.fmp .str .int oA)),(10,(.ful 10)),(26,(.lst .rule lA)),(27,(.int .i64 iA)),(28,(.int .i64 nA))],[(10,(.rows .int aA))]⟩
noncomputable def sh0 (l:List Rule) (ns:List (List UInt8)) (v:List Int) (k2:Y2):R :=
  condB (!(rulesB l)) (some ((.tup [(.ful 0),(.int .i64 (1:Int))]),[(0,.rows .int ([]:List Int))])) (chk ((okR l&&(nle (List.length ns) 90000&&gvE l ns v == 0))) (k2 (List.zip ns v) ([]:List Int) l (Int.ofNat (List.length l)) (0:Int)))
noncomputable def sh1 (aA:List Int):R :=
  some ((.tup [(.ful 0),(.int .i64 (0:Int))]),[(0,.rows .int aA)])
noncomputable def sh2 (oA:List ((List UInt8)×Int)) (aA:List Int) (lA:List Rule) (iA:Int) (nA:Int) (k1:Y1) (k3:Y3):R :=
  condB (ilt nA iA) (chk (inb nA (List.length lA)) (chk (nle (List.length (Rule.rw (List.getD lA (Int.toNat nA) d_rule))) 90000) (condB (!(List.any (Rule.rw (List.getD lA (Int.toNat nA) d_rule)) (failsM oA))) (chk (nle ((List.length aA+List.length ([nA]:List Int)) * 8) 140737488355328&&nle (List.length aA+List.length ([nA]:List Int)) 9223372036854775807) (k3 oA (aA++([nA]:List Int)) lA iA nA)) (k3 oA aA lA iA nA)))) (k1 aA)
noncomputable def sh3 (oA:List ((List UInt8)×Int)) (aA:List Int) (lA:List Rule) (iA:Int) (nA:Int) (k2:Y2):R :=
  k2 oA aA lA iA (IntKind.wrap .i64 (nA+(1:Int)))
noncomputable def it2 (Kb1:Kont U El) (n:Nat):Kont U El:=iter nm2 (fun st' K'=>exec X (cdp [1,1,1,1,1,0,1,0,0] bd) (.seq none .d (.seq none .d (.seq (some nm3) .d .d))) st' K' (Eblk 0 (cutK nm1 Kb1) (fun _ _=>none)) RR) n
noncomputable def ct1:Kont U El:=fun st=>exec X (cdp [1,1,1,1,1,1] bd) .d st RR (fun _ _=>none) RR
noncomputable def ct3 (Kb1:Kont U El) (Kb2:Kont U El):Kont U El:=fun st=>exec X (cdp [1,1,1,1,1,0,1,0,0,1,1,1] bd) .d st (cutK nm2 Kb2) (Eblk 0 (cutK nm1 Kb1) (fun _ _=>none)) RR
theorem P0 (l ns v):exec X (cdp [] bd) (.seq none .d (.seq none .d (.seq none .d (.seq none .d (.seq none .d (.seq (some nm1) (.seq none .d (.block (.loop nm2 (.seq none .d (.seq none .d (.seq (some nm3) .d .d)))))) .d)))))) (fr0 l ns v) RR (fun _ _=>none) RR=sh0 l ns v (fun y0 y1 y2 y3 y4=>(hid (it2 (hid ct1) 100000)) (fr2 y0 y1 y2 y3 y4)):=by kernel_rfl
theorem P1 (aA):exec X (cdp [1,1,1,1,1,1] bd) .d (fr1 aA) RR (fun _ _=>none) RR=sh1 aA:=by kernel_rfl
theorem P2 (oA aA lA iA nA) (Kb1:Kont U El) (Kb2:Kont U El):exec X (cdp [1,1,1,1,1,0,1,0,0] bd) (.seq none .d (.seq none .d (.seq (some nm3) .d .d))) (fr2 oA aA lA iA nA) (cutK nm2 Kb2) (Eblk 0 (cutK nm1 Kb1) (fun _ _=>none)) RR=sh2 oA aA lA iA nA (fun y0=>Kb1 (fr1 y0)) (fun y0 y1 y2 y3 y4=>(hid (ct3 Kb1 Kb2)) (fr3 y0 y1 y2 y3 y4)):=by kernel_rfl
theorem P3 (oA aA lA iA nA) (Kb1:Kont U El) (Kb2:Kont U El):exec X (cdp [1,1,1,1,1,0,1,0,0,1,1,1] bd) .d (fr3 oA aA lA iA nA) (cutK nm2 Kb2) (Eblk 0 (cutK nm1 Kb1) (fun _ _=>none)) RR=sh3 oA aA lA iA nA (fun y0 y1 y2 y3 y4=>Kb2 (fr2 y0 y1 y2 y3 y4)):=by kernel_rfl
noncomputable def f1 (aA:List Int):R:=sh1 aA
noncomputable def f3 (k2:Y2) (oA:List ((List UInt8)×Int)) (aA:List Int) (lA:List Rule) (iA:Int) (nA:Int):R:=sh3 oA aA lA iA nA k2
noncomputable def f2:Nat→Y2
  | 0=>fun _ _ _ _ _=>none
  | n+1=>fun oA aA lA iA nA=>sh2 oA aA lA iA nA f1 (f3 (f2 n))
noncomputable def f0 (l:List Rule) (ns:List (List UInt8)) (v:List Int):R:=sh0 l ns v (f2 100000)
theorem T1 (aA):(hid ct1) (fr1 aA)=f1 aA:=by
  refine (congrFun (hid_eq _) _).trans <| (P1 aA).trans ?_
  show _=sh1 aA
  rfl
theorem T3 (KL2:Kont U El) (k2:Y2) (h2:∀ oA aA lA iA nA,KL2 (fr2 oA aA lA iA nA)=k2 oA aA lA iA nA) (oA aA lA iA nA):(hid (ct3 (hid ct1) KL2)) (fr3 oA aA lA iA nA)=f3 k2 oA aA lA iA nA:=by
  refine (congrFun (hid_eq _) _).trans <| (P3 oA aA lA iA nA (hid ct1) KL2).trans ?_
  show _=sh3 oA aA lA iA nA k2
  simp only [h2]
theorem T2:∀ (n:Nat),∀ oA aA lA iA nA,it2 (hid ct1) n (fr2 oA aA lA iA nA)=f2 n oA aA lA iA nA:=by
  intro n
  induction n with
  | zero=>intros; rfl
  | succ n ih =>
    intro oA aA lA iA nA
    refine (P2 oA aA lA iA nA (hid ct1) (it2 (hid ct1) n)).trans ?_
    show _=sh2 oA aA lA iA nA f1 (f3 (f2 n))
    simp only [T1,T3 (it2 (hid ct1) n) (f2 n) ih]
theorem H2 (oA aA lA iA nA):hid (it2 (hid ct1) 100000) (fr2 oA aA lA iA nA)=f2 100000 oA aA lA iA nA:=(congrFun (hid_eq _) _).trans (T2 100000 oA aA lA iA nA)
theorem T0 (l ns v):exec X bd (.seq none .d (.seq none .d (.seq none .d (.seq none .d (.seq none .d (.seq (some nm1) (.seq none .d (.block (.loop nm2 (.seq none .d (.seq none .d (.seq (some nm3) .d .d)))))) .d)))))) (fr0 l ns v) RR (fun _ _=>none) RR=f0 l ns v:=by
  refine (P0 l ns v).trans ?_
  show _=sh0 l ns v (f2 100000)
  simp only [H2]
theorem run (l ns v):runFn X bd (.seq none .d (.seq none .d (.seq none .d (.seq none .d (.seq none .d (.seq (some nm1) (.seq none .d (.block (.loop nm2 (.seq none .d (.seq none .d (.seq (some nm3) .d .d)))))) .d)))))) nmR [6,7] [6] [(.lst .rule l),(.lst .str ns),(.lst .int v)]=f0 l ns v:=T0 l ns v
theorem loop (l : List Rule) (hl : l.length ≤ 60) (hw : ∀ r ∈ l, r.rw.length ≤ 20) (m : List ((List UInt8) × Int)) : ∀ (n i : Nat) (out : List Int), l.length < n + i → i ≤ l.length → out.length ≤ i →
    f2 n m out l (Int.ofNat l.length) (i:Int)=outF (out++firedI m i (l.drop i)):=by
  intro n
  induction n with
  | zero=>intro i out h1 h2; omega
  | succ n ih =>
    intro i out h1 h2 h3
    show sh2 m out l (Int.ofNat l.length) (i:Int) f1 (f3 (f2 n))=_
    unfold sh2
    by_cases hi:i < l.length
    · have hr := hw _ (List.getElem_mem hi)
      have hk:∀ out':List Int,out'.length≤i+1→f3 (f2 n) m out' l (Int.ofNat l.length) (i:Int)=outF (out'++firedI m (i+1) (l.drop (i+1))):=fun out' ho=>by
        show f2 n m out' l (Int.ofNat l.length) (IntKind.wrap .i64 ((i:Int)+1))=_
        rw [wrapS i (by omega)]
        exact ih (i+1) out' (by omega) hi ho
      rw [iltT (by simp; omega),inbT hi,toNat_nat,getD_lt hi,drop_lt hi,nleT (show l[i].rw.length≤90000 by omega),hk out (by omega),hk (out++[(i:Int)]) (by simp; omega)]
      rw [nleT (show _≤140737488355328 by simp; omega),nleT (show _≤9223372036854775807 by simp; omega)]
      simp only [condT,chkT,Bool.and_true,firedI]
      cases !(List.any l[i].rw (failsM m))
      · rfl
      · simp only [condT,cond_true,List.append_assoc,List.singleton_append]
    · have : i = l.length := by omega
      subst this
      rw [iltF (by simp),List.drop_length]
      show outF out=outF (out++[])
      rw [List.append_nil]
theorem f0_eq (l:List Rule) (ns:List (List UInt8)) (v:List Int) (h:(rulesB l&&(nle (List.length ns) 90000&&gvE l ns v == 0))=true):f0 l ns v=outF (firedL l ns v):=by
  simp only [Bool.and_eq_true] at h
  obtain ⟨h1,h2,h3⟩:=h
  obtain ⟨g1,g2⟩:=rulesB_len h1
  show sh0 l ns v (f2 100000)=_
  unfold sh0
  rw [h1,rules_okR h1,h2,h3]
  exact loop l g1 (fun r hr=>(ruleB_len (g2 r hr)).1) _ 100000 0 [] (by omega) (by omega) (by simp)
theorem ok:CtxOk Tryz.prog X:=ctxOk tab (spC valid.spOk (spC ugiven.spOk (spC uholds.spOk spN))) dpN
theorem okM:MOk Tryz.prog X:=fun g sp h=>by cases h
theorem spec (l:List Rule) (ns:List (List UInt8)) (v:List Int) (h:((rulesB l&&(nle (List.length ns) 90000&&gvE l ns v == 0)))=true):CallSpec Tryz.prog E 40 [(.lst .rule l),(.lst .str ns),(.lst .int v)] (.tup [(.ful 0),(.int .i64 (0:Int))]) [(0,.rows .int (firedL l ns v))] :=
  runFn_sound ok okM Tryz.call40 Tryz.func40 (by kernel_rfl) (by kernel_rfl) (by kernel_rfl) (by show 3≤42; decide) (by decide) (by rfl) ((run l ns v).trans (f0_eq l ns v h))
noncomputable def sp:Sp U El:=fun args k=>match args with
  | [.lst .rule l,.lst .str ns,.lst .int v]=>chk ((rulesB l&&(nle (List.length ns) 90000&&gvE l ns v == 0))) (k (.tup [(.ful 0),(.int .i64 (0:Int))]) [(0,.rows .int (firedL l ns v))])
  | _=>none
theorem spOk:SpOk Tryz.prog E 40 sp where
  det:=fun vs=>by
    unfold sp
    split
    · exact det_c _ _ _
    · exact ⟨none,fun _=>rfl⟩
  ok:=fun vs k r h=>by
    unfold sp at h
    split at h
    · obtain ⟨h1, h2⟩ := chk_some h
      exact ⟨_,_,spec _ _ _ h1,h2⟩
    · cases h
end ufired
namespace levels
noncomputable def bd:Code:=(Tryz.f39.body).getD .skip
noncomputable def X:Ctx U El:=⟨E,tds,zeros,eqs,specOf [],100000,50,dspecOf [],fun _=>none⟩
noncomputable def nmR:Norm U:=⟨[(4,.int)],[4],[4],[],[],[],[]⟩
noncomputable def RR:Kont U El:=fun st=>normK nmR st (retFin [4] [4])
noncomputable def nm1:Norm U:=⟨[(5,.int)],[5],[5],[],[],[],[]⟩
noncomputable def nm2:Norm U:=⟨[(5,.int)],[1,5,10,11,12],[5],[],[],[],[]⟩
noncomputable def nm3:Norm U:=⟨[(5,.int)],[1,5,10,11,12],[5],[],[],[],[]⟩
noncomputable def nm4:Norm U:=⟨[(5,.int)],[1,5,8,10,11,12],[5],[],[],[],[]⟩
abbrev Y1:=(List Int)→R
abbrev Y2:=(List UInt32)→(List Int)→(List Node)→Int→Int→R
abbrev Y3:=(List UInt32)→(List Int)→(List Node)→Int→Int→R
abbrev Y4:=(List UInt32)→(List Int)→Int→(List Node)→Int→Int→R
noncomputable def fr0 (n:Net) (ats:List UInt32):St U El:=⟨[(0,(.agg [(.lst .node n.nds),(.lst .link n.lks)])),(1,(.lst .u32 ats))],[]⟩
noncomputable def fr1 (bA:List Int):St U El:=⟨[(5,(.ful 5))],[(5,(.rows .int bA))]⟩
noncomputable def fr2 (kA:List UInt32) (bA:List Int) (hA:List Node) (mA:Int) (eA:Int):St U El:=⟨[(1,(.lst .u32 kA)),(5,(.ful 5)),(10,(.lst .node hA)),(11,(.int .i64 mA)),(12,(.int .i64 eA))],[(5,(.rows .int bA))]⟩
noncomputable def fr3 (kA:List UInt32) (bA:List Int) (hA:List Node) (mA:Int) (eA:Int):St U El:=⟨[(1,(.lst .u32 kA)),(5,(.ful 5)),(10,(.lst .node hA)),(11,(.int .i64 mA)),(12,(.int .i64 eA))],[(5,(.rows .int bA))]⟩
noncomputable def fr4 (kA:List UInt32) (bA:List Int) (v8:Int) (hA:List Node) (mA:Int) (eA:Int):St U El:=⟨[(1,(.lst .u32 kA)),(5,(.ful 5)),(8,(.int .i64 v8)),(10,(.lst .node hA)),(11,(.int .i64 mA)),(12,(.int .i64 eA))],[(5,(.rows .int bA))]⟩
noncomputable def sh0 (n:Net) (ats:List UInt32) (k2:Y2):R :=
  k2 ats ([]:List Int) n.nds (Int.ofNat (List.length n.nds)) (0:Int)
noncomputable def sh1 (bA:List Int):R :=
  some ((.ful 0),[(0,.rows .int bA)])
noncomputable def sh2 (kA:List UInt32) (bA:List Int) (hA:List Node) (mA:Int) (eA:Int) (k1:Y1) (k4:Y4):R :=
  condB (ilt eA mA) (chk (inb eA (List.length hA)) (condB ((List.getD hA (Int.toNat eA) d_node).nk != (3:Int)) (condB (ilt (0:Int) (Int.ofNat (List.length kA))) (chk ((Int.ofNat (List.length kA)) != 0) (chk (inb (Int.tmod eA (Int.ofNat (List.length kA))) (List.length kA)) (chk ((IntKind.wrap .i64 ((IntKind.wrap .i64 ((List.getD hA (Int.toNat eA) d_node).ng - (List.getD hA (Int.toNat eA) d_node).ni))+(1:Int))) != 0) (k4 kA bA (IntKind.wrap .i64 ((List.getD hA (Int.toNat eA) d_node).ni+(Int.tmod (IntKind.wrap .i64 (Int.ofNat (UInt32.toNat (List.getD kA (Int.toNat (Int.tmod eA (Int.ofNat (List.length kA)))) d_u32)))) (IntKind.wrap .i64 ((IntKind.wrap .i64 ((List.getD hA (Int.toNat eA) d_node).ng - (List.getD hA (Int.toNat eA) d_node).ni))+(1:Int)))))) hA mA eA)))) (k4 kA bA ((List.getD hA (Int.toNat eA) d_node).ni) hA mA eA)) (k4 kA bA ((List.getD hA (Int.toNat eA) d_node).ni) hA mA eA))) (k1 bA)
noncomputable def sh3 (kA:List UInt32) (bA:List Int) (hA:List Node) (mA:Int) (eA:Int) (k2:Y2):R :=
  k2 kA bA hA mA (IntKind.wrap .i64 (eA+(1:Int)))
noncomputable def sh4 (kA:List UInt32) (bA:List Int) (v8:Int) (hA:List Node) (mA:Int) (eA:Int) (k3:Y3):R :=
  chk (nle ((List.length bA+List.length ([v8]:List Int)) * 8) 140737488355328&&nle (List.length bA+List.length ([v8]:List Int)) 9223372036854775807) (k3 kA (bA++([v8]:List Int)) hA mA eA)
noncomputable def it2 (Kb1:Kont U El) (n:Nat):Kont U El:=iter nm2 (fun st' K'=>exec X (cdp [1,1,0,1,0,0] bd) (.seq none .d (.seq none .d (.seq (some nm3) (.block (.seq none .d (.seq none .d (.seq (some nm4) .d .d)))) .d))) st' K' (Eblk 0 (cutK nm1 Kb1) (fun _ _=>none)) RR) n
noncomputable def ct1:Kont U El:=fun st=>exec X (cdp [1,1,1] bd) .d st RR (fun _ _=>none) RR
noncomputable def ct3 (Kb1:Kont U El) (Kb2:Kont U El):Kont U El:=fun st=>exec X (cdp [1,1,0,1,0,0,1,1,1] bd) .d st (cutK nm2 Kb2) (Eblk 0 (cutK nm1 Kb1) (fun _ _=>none)) RR
noncomputable def ct4 (Kb1:Kont U El) (Kb3:Kont U El):Kont U El:=fun st=>exec X (cdp [1,1,0,1,0,0,1,1,0,0,1,1,1] bd) .d st (cutK nm3 Kb3) (Eblk 1 (cutK nm3 Kb3) (Eblk 0 (cutK nm1 Kb1) (fun _ _=>none))) RR
theorem P0 (n ats):exec X (cdp [] bd) (.seq none .d (.seq none .d (.seq (some nm1) (.seq none .d (.block (.loop nm2 (.seq none .d (.seq none .d (.seq (some nm3) (.block (.seq none .d (.seq none .d (.seq (some nm4) .d .d)))) .d)))))) .d))) (fr0 n ats) RR (fun _ _=>none) RR=sh0 n ats (fun y0 y1 y2 y3 y4=>(hid (it2 (hid ct1) 100000)) (fr2 y0 y1 y2 y3 y4)):=by kernel_rfl
theorem P1 (bA):exec X (cdp [1,1,1] bd) .d (fr1 bA) RR (fun _ _=>none) RR=sh1 bA:=by kernel_rfl
theorem P2 (kA bA hA mA eA) (Kb1:Kont U El) (Kb2:Kont U El):exec X (cdp [1,1,0,1,0,0] bd) (.seq none .d (.seq none .d (.seq (some nm3) (.block (.seq none .d (.seq none .d (.seq (some nm4) .d .d)))) .d))) (fr2 kA bA hA mA eA) (cutK nm2 Kb2) (Eblk 0 (cutK nm1 Kb1) (fun _ _=>none)) RR=sh2 kA bA hA mA eA (fun y0=>Kb1 (fr1 y0)) (fun y0 y1 y2 y3 y4 y5=>(hid (ct4 Kb1 (hid (ct3 Kb1 Kb2)))) (fr4 y0 y1 y2 y3 y4 y5)):=by kernel_rfl
theorem P3 (kA bA hA mA eA) (Kb1:Kont U El) (Kb2:Kont U El):exec X (cdp [1,1,0,1,0,0,1,1,1] bd) .d (fr3 kA bA hA mA eA) (cutK nm2 Kb2) (Eblk 0 (cutK nm1 Kb1) (fun _ _=>none)) RR=sh3 kA bA hA mA eA (fun y0 y1 y2 y3 y4=>Kb2 (fr2 y0 y1 y2 y3 y4)):=by kernel_rfl
theorem P4 (kA bA v8 hA mA eA) (Kb1:Kont U El) (Kb3:Kont U El):exec X (cdp [1,1,0,1,0,0,1,1,0,0,1,1,1] bd) .d (fr4 kA bA v8 hA mA eA) (cutK nm3 Kb3) (Eblk 1 (cutK nm3 Kb3) (Eblk 0 (cutK nm1 Kb1) (fun _ _=>none))) RR=sh4 kA bA v8 hA mA eA (fun y0 y1 y2 y3 y4=>Kb3 (fr3 y0 y1 y2 y3 y4)):=by kernel_rfl
noncomputable def f1 (bA:List Int):R:=sh1 bA
noncomputable def f3 (k2:Y2) (kA:List UInt32) (bA:List Int) (hA:List Node) (mA:Int) (eA:Int):R:=sh3 kA bA hA mA eA k2
noncomputable def f4 (k2:Y2) (kA:List UInt32) (bA:List Int) (v8:Int) (hA:List Node) (mA:Int) (eA:Int):R:=sh4 kA bA v8 hA mA eA (f3 k2)
noncomputable def f2:Nat→Y2
  | 0=>fun _ _ _ _ _=>none
  | n+1=>fun kA bA hA mA eA=>sh2 kA bA hA mA eA f1 (f4 (f2 n))
noncomputable def f0 (n:Net) (ats:List UInt32):R:=sh0 n ats (f2 100000)
theorem T1 (bA):(hid ct1) (fr1 bA)=f1 bA:=by
  refine (congrFun (hid_eq _) _).trans <| (P1 bA).trans ?_
  show _=sh1 bA
  rfl
theorem T3 (KL2:Kont U El) (k2:Y2) (h2:∀ kA bA hA mA eA,KL2 (fr2 kA bA hA mA eA)=k2 kA bA hA mA eA) (kA bA hA mA eA):(hid (ct3 (hid ct1) KL2)) (fr3 kA bA hA mA eA)=f3 k2 kA bA hA mA eA:=by
  refine (congrFun (hid_eq _) _).trans <| (P3 kA bA hA mA eA (hid ct1) KL2).trans ?_
  show _=sh3 kA bA hA mA eA k2
  simp only [h2]
theorem T4 (KL2:Kont U El) (k2:Y2) (h2:∀ kA bA hA mA eA,KL2 (fr2 kA bA hA mA eA)=k2 kA bA hA mA eA) (kA bA v8 hA mA eA):(hid (ct4 (hid ct1) (hid (ct3 (hid ct1) KL2)))) (fr4 kA bA v8 hA mA eA)=f4 k2 kA bA v8 hA mA eA:=by
  refine (congrFun (hid_eq _) _).trans <| (P4 kA bA v8 hA mA eA (hid ct1) (hid (ct3 (hid ct1) KL2))).trans ?_
  show _=sh4 kA bA v8 hA mA eA (f3 k2)
  simp only [T3 KL2 k2 h2]
theorem T2:∀ (n:Nat),∀ kA bA hA mA eA,it2 (hid ct1) n (fr2 kA bA hA mA eA)=f2 n kA bA hA mA eA:=by
  intro n
  induction n with
  | zero=>intros; rfl
  | succ n ih =>
    intro kA bA hA mA eA
    refine (P2 kA bA hA mA eA (hid ct1) (it2 (hid ct1) n)).trans ?_
    show _=sh2 kA bA hA mA eA f1 (f4 (f2 n))
    simp only [T1,T4 (it2 (hid ct1) n) (f2 n) ih]
theorem H2 (kA bA hA mA eA):hid (it2 (hid ct1) 100000) (fr2 kA bA hA mA eA)=f2 100000 kA bA hA mA eA:=(congrFun (hid_eq _) _).trans (T2 100000 kA bA hA mA eA)
theorem T0 (n ats):exec X bd (.seq none .d (.seq none .d (.seq (some nm1) (.seq none .d (.block (.loop nm2 (.seq none .d (.seq none .d (.seq (some nm3) (.block (.seq none .d (.seq none .d (.seq (some nm4) .d .d)))) .d)))))) .d))) (fr0 n ats) RR (fun _ _=>none) RR=f0 n ats:=by
  refine (P0 n ats).trans ?_
  show _=sh0 n ats (f2 100000)
  simp only [H2]
theorem run (n ats):runFn X bd (.seq none .d (.seq none .d (.seq (some nm1) (.seq none .d (.block (.loop nm2 (.seq none .d (.seq none .d (.seq (some nm3) (.block (.seq none .d (.seq none .d (.seq (some nm4) .d .d)))) .d)))))) .d))) nmR [4] [4] [(.agg [(.lst .node n.nds),(.lst .link n.lks)]),(.lst .u32 ats)]=f0 n ats:=T0 n ats
theorem loop (at_ : List UInt32) (nds : List Node) (hn : nds.length ≤ 90000) (hx : ∀ x ∈ nds, levOkX x = true) : ∀ (n i : Nat) (out : List Int), nds.length < n + i → i ≤ nds.length → out.length = i →
    f2 n at_ out nds (Int.ofNat nds.length) (i:Int)=outV1 (out++levsI at_ i (nds.drop i)):=by
  intro n
  induction n with
  | zero=>intro i out h1 h2; omega
  | succ n ih =>
    intro i out h1 h2 h3
    show sh2 at_ out nds (Int.ofNat nds.length) (i:Int) f1 (f4 (f2 n))=_
    unfold sh2
    by_cases hi:i < nds.length
    · have hk : ∀ v : Int, f4 (f2 n) at_ out v nds (Int.ofNat nds.length) (i : Int) = outV1 (out ++ v :: levsI at_ (i + 1) (nds.drop (i + 1))) := fun v => by
        show sh4 at_ out v nds (Int.ofNat nds.length) (i:Int) (f3 (f2 n))=_
        unfold sh4
        rw [nleT (show _≤140737488355328 by simp; omega),nleT (show _≤9223372036854775807 by simp; omega)]
        show f2 n at_ (out++[v]) nds (Int.ofNat nds.length) (IntKind.wrap .i64 ((i:Int)+1))=_
        rw [wrapS i (by omega),ih (i+1) _ (by omega) hi (by simp; omega)]
        simp only [List.append_assoc,List.singleton_append]
      have ho:=hx _ (List.getElem_mem hi)
      simp only [levOkX,inR,Bool.and_eq_true] at ho
      obtain ⟨⟨o1,o2⟩,⟨o3,o4⟩,o5⟩:=ho
      have o1:=ileI o1; have o2:=ileI o2; have o3:=ileI o3; have o4:=ileI o4; have o5:=ileI o5
      rw [iltT (by simp; omega),inbT hi,toNat_nat,getD_lt hi,drop_lt hi,hk,hk]
      simp only [condT,chkT,levsI,levAt]
      cases h5:nds[i].nk != 3 with
      | false=>rfl
      | true =>
        cases h6:ilt 0 (Int.ofNat at_.length) with
        | false=>rfl
        | true =>
          have hp:0 < at_.length:=by have:=iltI h6; simp at this; omega
          have e1:Int.tmod (i:Int) (Int.ofNat at_.length)=((i%at_.length:Nat):Int):=rfl
          have e2:i%at_.length < at_.length:=Nat.mod_lt _ hp
          have e3:((Int.ofNat at_.length) != 0)=true:=by
            have:Int.ofNat at_.length≠0:=by simp; intro h; rw [h] at hp; simp at hp
            simpa [bne_iff_ne] using this
          have e4:UInt32.toNat (List.getD at_ (i%at_.length) d_u32) < 4294967296:=UInt32.toNat_lt _
          have e5:((nds[i].ng - nds[i].ni+1) != 0)=true:=by
            have:nds[i].ng - nds[i].ni+1≠0:=by omega
            simpa [bne_iff_ne] using this
          have e6:=Int.tmod_nonneg (a:=Int.ofNat (UInt32.toNat (List.getD at_ (i%at_.length) d_u32))) (nds[i].ng - nds[i].ni+1) (by simp)
          have e7:=Int.tmod_lt_of_pos (Int.ofNat (UInt32.toNat (List.getD at_ (i%at_.length) d_u32))) (show 0 < nds[i].ng - nds[i].ni+1 by omega)
          simp only [condT]
          rw [e1,toNat_nat,inbT e2,e3,wrapI (x:=nds[i].ng - nds[i].ni) (by omega) (by omega),wrapI (x:=nds[i].ng - nds[i].ni+1) (by omega) (by omega),e5,wrapI (x:=Int.ofNat (UInt32.toNat (List.getD at_ (i%at_.length) d_u32))) (by simp only [Int.ofNat_eq_natCast]; omega) (by simp only [Int.ofNat_eq_natCast]; omega),wrapI (by omega) (by omega)]
          rfl
    · have : i = nds.length := by omega
      subst this
      rw [iltF (by simp),List.drop_length]
      show outV1 out=outV1 (out++[])
      rw [List.append_nil]
theorem f0_eq (n:Net) (at_:List UInt32) (h:(okN n&&levOkN n)=true):f0 n at_=outV1 (levsL n.nds at_):=by
  simp only [Bool.and_eq_true] at h
  have hn:=nleI (okN_nds h.1)
  exact loop at_ n.nds hn (List.all_eq_true.1 h.2) 100000 0 [] (by omega) (by omega) rfl
theorem ok:CtxOk Tryz.prog X:=ctxOk tab spN dpN
theorem okM:MOk Tryz.prog X:=fun g sp h=>by cases h
theorem spec (n:Net) (ats:List UInt32) (h:((okN n&&levOkN n))=true):CallSpec Tryz.prog E 39 [(.agg [(.lst .node n.nds),(.lst .link n.lks)]),(.lst .u32 ats)] (.ful 0) [(0,.rows .int (levsL (Net.nds n) ats))] :=
  runFn_sound ok okM Tryz.call39 Tryz.func39 (by kernel_rfl) (by kernel_rfl) (by kernel_rfl) (by show 2≤50; decide) (by decide) (by rfl) ((run n ats).trans (f0_eq n ats h))
noncomputable def sp:Sp U El:=fun args k=>match args with
  | [.agg [.lst .node n_nds,.lst .link n_lks],.lst .u32 ats]=>chk ((okN (⟨n_nds,n_lks⟩:Net)&&levOkN (⟨n_nds,n_lks⟩:Net))) (k (.ful 0) [(0,.rows .int (levsL (Net.nds (⟨n_nds,n_lks⟩:Net)) ats))])
  | _=>none
theorem spOk:SpOk Tryz.prog E 39 sp where
  det:=fun vs=>by
    unfold sp
    split
    · exact det_c _ _ _
    · exact ⟨none,fun _=>rfl⟩
  ok:=fun vs k r h=>by
    unfold sp at h
    split at h
    · obtain ⟨h1, h2⟩ := chk_some h
      exact ⟨_,_,spec ⟨_,_⟩ _ h1,h2⟩
    · cases h
end levels
namespace ready
noncomputable def bd:Code:=(Tryz.f29.body).getD .skip
noncomputable def X:Ctx U El:=⟨E,tds,zeros,eqs,specOf [(13,large.sp),(53,rgiven.sp)],100000,15,dspecOf [],fun _=>none⟩
noncomputable def nmR:Norm U:=⟨[],[4],[],[],[],[],[]⟩
noncomputable def RR:Kont U El:=fun st=>normK nmR st (retFin [4] [])
noncomputable def fr0 (l:List Rule) (n:Net):St U El:=⟨[(0,(.lst .rule l)),(1,(.agg [(.lst .node n.nds),(.lst .link n.lks)]))],[]⟩
noncomputable def sh0 (l:List Rule) (n:Net):R :=
  condB (!(largeB l n)) (chk (okN n) (some ((.bool ((givenZ l n) == (0:Int))),[]))) (some ((.bool false),[]))
theorem P0 (l n):exec X (cdp [] bd) .d (fr0 l n) RR (fun _ _=>none) RR=sh0 l n:=by kernel_rfl
noncomputable def f0 (l:List Rule) (n:Net):R:=sh0 l n
theorem T0 (l n):exec X bd .d (fr0 l n) RR (fun _ _=>none) RR=f0 l n:=by
  refine (P0 l n).trans ?_
  show _=sh0 l n
  rfl
theorem run (l n):runFn X bd .d nmR [4] [] [(.lst .rule l),(.agg [(.lst .node n.nds),(.lst .link n.lks)])]=f0 l n:=T0 l n
theorem f0_eq (l:List Rule) (n:Net):f0 l n=outB (readyB l n):=by
  show sh0 l n=_
  unfold sh0 readyB
  cases hl:largeB l n with
  | true=>rfl
  | false=>rw [large_ok hl]; rfl
theorem ok:CtxOk Tryz.prog X:=ctxOk tab (spC large.spOk (spC rgiven.spOk spN)) dpN
theorem okM:MOk Tryz.prog X:=fun g sp h=>by cases h
theorem spec (l:List Rule) (n:Net):CallSpec Tryz.prog E 29 [(.lst .rule l),(.agg [(.lst .node n.nds),(.lst .link n.lks)])] (.bool (readyB l n)) [] :=
  runFn_sound ok okM Tryz.call29 Tryz.func29 (by kernel_rfl) (by kernel_rfl) (by kernel_rfl) (by show 2≤15; decide) (by decide) (by rfl) ((run l n).trans (f0_eq l n))
noncomputable def sp:Sp U El:=fun args k=>match args with
  | [.lst .rule l,.agg [.lst .node n_nds,.lst .link n_lks]]=>k (.bool (readyB l (⟨n_nds,n_lks⟩:Net))) []
  | _=>none
theorem spOk:SpOk Tryz.prog E 29 sp where
  det:=fun vs=>by
    unfold sp
    split
    · exact ⟨some (_,_),fun _=>rfl⟩
    · exact ⟨none,fun _=>rfl⟩
  ok:=fun vs k r h=>by
    unfold sp at h
    split at h
    · exact ⟨_,_,spec _ ⟨_,_⟩,h⟩
    · cases h
end ready
end Go.Proofs.YthdimnlkcgchoaaGreat
