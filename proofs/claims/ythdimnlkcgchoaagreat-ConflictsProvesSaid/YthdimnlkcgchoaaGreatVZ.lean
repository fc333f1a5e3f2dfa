/- Witnesses prove; dead rules hold nowhere; the law ConflictsProves by its own run. -/
import Derived.Test.YthdimnlkcgchoaaGreatVY
namespace Go.Proofs.YthdimnlkcgchoaaGreat
set_option linter.unusedSectionVars false
set_option linter.unusedSimpArgs false
set_option linter.unusedVariables false
set_option maxRecDepth 100000
noncomputable def uholdB (r:Rule) (ns:List (List UInt8)) (v:List Int):Bool := !(List.any r.rw (failsM (List.zip ns v)))
noncomputable def eqInt (x y:Int):Bool:=x == y
noncomputable def inI (fl:List Int) (x:Int):Bool:=List.any fl (eqInt x)
noncomputable def smallI (fl:List Int) (x:Int):Bool:=nle fl.length 90000
namespace ugivenO
noncomputable def bd:Code:=(Tryz.f86.body).getD .skip
noncomputable def X:Ctx U El:=⟨E,tds,zeros,eqs,specOf [],100000,71,dspecOf [],fun _=>none⟩
noncomputable def nmR:Norm U:=⟨[],[6,7],[],[(6,.str)],[],[],[]⟩
noncomputable def RR:Kont U El:=fun st=>normK nmR st (retM [6,7])
noncomputable def nm1:Norm U:=⟨[],[0,8],[24,1000000000],[],[],[],[]⟩
noncomputable def nm2:Norm U:=⟨[],[0,2,8,25,26,27],[24,1000000000],[],[],[],[]⟩
noncomputable def nm3:Norm U:=⟨[],[8],[24,1000000000],[],[],[],[]⟩
noncomputable def nm4:Norm U:=⟨[],[8,46,47,48],[24,1000000000],[],[],[],[]⟩
noncomputable def nm5:Norm U:=⟨[],[8,46,47,48],[24,1000000000],[],[],[],[]⟩
noncomputable def nm6:Norm U:=⟨[],[8,46,47,48,53,54,55],[24,1000000000],[],[],[],[]⟩
abbrev Y1:=(List ((List UInt8)×Int))→(List Rule)→R
abbrev Y2:=(List Int)→(List (List UInt8))→Int→Int→(List ((List UInt8)×Int))→(List Rule)→R
abbrev Y3:=(List ((List UInt8)×Int))→(List Rule)→R
abbrev Y4:=Int→Int→(List ((List UInt8)×Int))→(List Rule)→R
abbrev Y5:=Int→Int→(List ((List UInt8)×Int))→(List Rule)→R
abbrev Y6:=Int→Int→(List Cnd)→Int→Int→(List ((List UInt8)×Int))→(List Rule)→R
noncomputable def fr0 (ns:List (List UInt8)) (v:List Int) (l:List Rule):St U El:=⟨[(0,(.ful 1000000000)),(1,(.lst .str ns)),(2,(.lst .int v))],[(1000000000,(.rows .rule l))]⟩
noncomputable def fr1 (kA:List ((List UInt8)×Int)) (jA:List Rule):St U El:=⟨[(0,(.ful 1000000000)),(8,(.mp 24))],[(24,(.map .str .int kA)),(1000000000,(.rows .rule jA))]⟩
noncomputable def fr2 (lA:List Int) (tA:List (List UInt8)) (wA:Int) (sA:Int) (kA:List ((List UInt8)×Int)) (jA:List Rule):St U El:=⟨[(0,(.ful 1000000000)),(2,(.lst .int lA)),(8,(.mp 24)),(25,(.lst .str tA)),(26,(.int .i64 wA)),(27,(.int .i64 sA))],[(24,(.map .str .int kA)),(1000000000,(.rows .rule jA))]⟩
noncomputable def fr3 (kA:List ((List UInt8)×Int)) (jA:List Rule):St U El:=⟨[(8,(.mp 24))],[(24,(.map .str .int kA)),(1000000000,(.rows .rule jA))]⟩
noncomputable def fr4 (pA:Int) (oA:Int) (kA:List ((List UInt8)×Int)) (jA:List Rule):St U El:=⟨[(8,(.mp 24)),(46,(.ful 1000000000)),(47,(.int .i64 pA)),(48,(.int .i64 oA))],[(24,(.map .str .int kA)),(1000000000,(.rows .rule jA))]⟩
noncomputable def fr5 (pA:Int) (oA:Int) (kA:List ((List UInt8)×Int)) (jA:List Rule):St U El:=⟨[(8,(.mp 24)),(46,(.ful 1000000000)),(47,(.int .i64 pA)),(48,(.int .i64 oA))],[(24,(.map .str .int kA)),(1000000000,(.rows .rule jA))]⟩
noncomputable def fr6 (pA:Int) (oA:Int) (vA:List Cnd) (xA:Int) (uA:Int) (kA:List ((List UInt8)×Int)) (jA:List Rule):St U El:=⟨[(8,(.mp 24)),(46,(.ful 1000000000)),(47,(.int .i64 pA)),(48,(.int .i64 oA)),(53,(.lst .cnd vA)),(54,(.int .i64 xA)),(55,(.int .i64 uA))],[(24,(.map .str .int kA)),(1000000000,(.rows .rule jA))]⟩
noncomputable def sh0 (ns:List (List UInt8)) (v:List Int) (l:List Rule) (k2:Y2):R :=
  condB ((Int.ofNat (List.length ns)) != (Int.ofNat (List.length v))) (some ((.tup [.nilm,(.int .i64 (3:Int))]),[])) (k2 v ns (Int.ofNat (List.length ns)) (0:Int) ([]:List ((List UInt8)×Int)) l)
noncomputable def sh1 (kA:List ((List UInt8)×Int)) (jA:List Rule) (k4:Y4):R :=
  k4 (Int.ofNat (List.length jA)) (0:Int) kA jA
noncomputable def sh2 (lA:List Int) (tA:List (List UInt8)) (wA:Int) (sA:Int) (kA:List ((List UInt8)×Int)) (jA:List Rule) (k1:Y1) (k2:Y2):R :=
  condB (ilt sA wA) (chk (inb sA (List.length tA)) (condB (mhas kq_str kA (List.getD tA (Int.toNat sA) d_str)) (some ((.tup [.nilm,(.int .i64 (10:Int))]),[])) (chk (inb sA (List.length lA)) (k2 lA tA wA (IntKind.wrap .i64 (sA+(1:Int))) (mput kq_str kA (List.getD tA (Int.toNat sA) d_str) (List.getD lA (Int.toNat sA) d_int)) jA)))) (k1 kA jA)
noncomputable def sh3 (kA:List ((List UInt8)×Int)) (jA:List Rule):R :=
  some ((.tup [(.fmp .str .int kA),(.int .i64 (0:Int))]),[])
noncomputable def sh4 (pA:Int) (oA:Int) (kA:List ((List UInt8)×Int)) (jA:List Rule) (k3:Y3) (k6:Y6):R :=
  condB (ilt oA pA) (chk (inb oA (List.length jA)) (chk (nlt (Int.toNat oA) (List.length jA)) (k6 pA oA ((List.getD jA (Int.toNat oA) d_rule).rw) (Int.ofNat (List.length ((List.getD jA (Int.toNat oA) d_rule).rw))) (0:Int) kA jA))) (k3 kA jA)
noncomputable def sh5 (pA:Int) (oA:Int) (kA:List ((List UInt8)×Int)) (jA:List Rule) (k4:Y4):R :=
  k4 pA (IntKind.wrap .i64 (oA+(1:Int))) kA jA
noncomputable def sh6 (pA:Int) (oA:Int) (vA:List Cnd) (xA:Int) (uA:Int) (kA:List ((List UInt8)×Int)) (jA:List Rule) (k5:Y5) (k6:Y6):R :=
  condB (ilt uA xA) (chk (inb uA (List.length vA)) (condB (!(mhas kq_str kA ((List.getD vA (Int.toNat uA) d_cnd).cn))) (some ((.tup [.nilm,(.int .i64 (9:Int))]),[])) (k6 pA oA vA xA (IntKind.wrap .i64 (uA+(1:Int))) kA jA))) (k5 pA oA kA jA)
noncomputable def it2 (Kb1:Kont U El) (n:Nat):Kont U El:=iter nm2 (fun st' K'=>exec X (cdp [1,1,1,0,1,0,0] bd) .d st' K' (Eblk 0 (cutK nm1 Kb1) (fun _ _=>none)) RR) n
noncomputable def it4 (Kb3:Kont U El) (n:Nat):Kont U El:=iter nm4 (fun st' K'=>exec X (cdp [1,1,1,1,0,1,0,0] bd) (.seq none .d (.seq none .d (.seq (some nm5) (.block (.seq none .d (.seq none .d (.block (.loop nm6 .d))))) .d))) st' K' (Eblk 2 (cutK nm3 Kb3) (fun _ _=>none)) RR) n
noncomputable def it6 (Kb3:Kont U El) (Kb5:Kont U El) (n:Nat):Kont U El:=iter nm6 (fun st' K'=>exec X (cdp [1,1,1,1,0,1,0,0,1,1,0,0,1,1,0,0] bd) .d st' K' (Eblk 4 (cutK nm5 Kb5) (Eblk 3 (cutK nm5 Kb5) (Eblk 2 (cutK nm3 Kb3) (fun _ _=>none)))) RR) n
noncomputable def ct1:Kont U El:=fun st=>exec X (cdp [1,1,1,1] bd) (.seq (some nm3) (.seq none .d (.block (.loop nm4 (.seq none .d (.seq none .d (.seq (some nm5) (.block (.seq none .d (.seq none .d (.block (.loop nm6 .d))))) .d)))))) .d) st RR (fun _ _=>none) RR
noncomputable def ct3:Kont U El:=fun st=>exec X (cdp [1,1,1,1,1] bd) .d st RR (fun _ _=>none) RR
noncomputable def ct5 (Kb3:Kont U El) (Kb4:Kont U El):Kont U El:=fun st=>exec X (cdp [1,1,1,1,0,1,0,0,1,1,1] bd) .d st (cutK nm4 Kb4) (Eblk 2 (cutK nm3 Kb3) (fun _ _=>none)) RR
theorem P0 (ns v l):exec X (cdp [] bd) (.seq none .d (.seq none .d (.seq none .d (.seq (some nm1) (.seq none .d (.block (.loop nm2 .d))) (.seq (some nm3) (.seq none .d (.block (.loop nm4 (.seq none .d (.seq none .d (.seq (some nm5) (.block (.seq none .d (.seq none .d (.block (.loop nm6 .d))))) .d)))))) .d))))) (fr0 ns v l) RR (fun _ _=>none) RR=sh0 ns v l (fun y0 y1 y2 y3 y4 y5=>(hid (it2 (hid ct1) 100000)) (fr2 y0 y1 y2 y3 y4 y5)):=by kernel_rfl
theorem P1 (kA jA):exec X (cdp [1,1,1,1] bd) (.seq (some nm3) (.seq none .d (.block (.loop nm4 (.seq none .d (.seq none .d (.seq (some nm5) (.block (.seq none .d (.seq none .d (.block (.loop nm6 .d))))) .d)))))) .d) (fr1 kA jA) RR (fun _ _=>none) RR=sh1 kA jA (fun y0 y1 y2 y3=>(hid (it4 (hid ct3) 100000)) (fr4 y0 y1 y2 y3)):=by kernel_rfl
theorem P2 (lA tA wA sA kA jA) (Kb1:Kont U El) (Kb2:Kont U El):exec X (cdp [1,1,1,0,1,0,0] bd) .d (fr2 lA tA wA sA kA jA) (cutK nm2 Kb2) (Eblk 0 (cutK nm1 Kb1) (fun _ _=>none)) RR=sh2 lA tA wA sA kA jA (fun y0 y1=>Kb1 (fr1 y0 y1)) (fun y0 y1 y2 y3 y4 y5=>Kb2 (fr2 y0 y1 y2 y3 y4 y5)):=by kernel_rfl
theorem P3 (kA jA):exec X (cdp [1,1,1,1,1] bd) .d (fr3 kA jA) RR (fun _ _=>none) RR=sh3 kA jA:=by kernel_rfl
theorem P4 (pA oA kA jA) (Kb3:Kont U El) (Kb4:Kont U El):exec X (cdp [1,1,1,1,0,1,0,0] bd) (.seq none .d (.seq none .d (.seq (some nm5) (.block (.seq none .d (.seq none .d (.block (.loop nm6 .d))))) .d))) (fr4 pA oA kA jA) (cutK nm4 Kb4) (Eblk 2 (cutK nm3 Kb3) (fun _ _=>none)) RR=sh4 pA oA kA jA (fun y0 y1=>Kb3 (fr3 y0 y1)) (fun y0 y1 y2 y3 y4 y5 y6=>(hid (it6 Kb3 (hid (ct5 Kb3 Kb4)) 100000)) (fr6 y0 y1 y2 y3 y4 y5 y6)):=by kernel_rfl
theorem P5 (pA oA kA jA) (Kb3:Kont U El) (Kb4:Kont U El):exec X (cdp [1,1,1,1,0,1,0,0,1,1,1] bd) .d (fr5 pA oA kA jA) (cutK nm4 Kb4) (Eblk 2 (cutK nm3 Kb3) (fun _ _=>none)) RR=sh5 pA oA kA jA (fun y0 y1 y2 y3=>Kb4 (fr4 y0 y1 y2 y3)):=by kernel_rfl
theorem P6 (pA oA vA xA uA kA jA) (Kb3:Kont U El) (Kb5:Kont U El) (Kb6:Kont U El):exec X (cdp [1,1,1,1,0,1,0,0,1,1,0,0,1,1,0,0] bd) .d (fr6 pA oA vA xA uA kA jA) (cutK nm6 Kb6) (Eblk 4 (cutK nm5 Kb5) (Eblk 3 (cutK nm5 Kb5) (Eblk 2 (cutK nm3 Kb3) (fun _ _=>none)))) RR=sh6 pA oA vA xA uA kA jA (fun y0 y1 y2 y3=>Kb5 (fr5 y0 y1 y2 y3)) (fun y0 y1 y2 y3 y4 y5 y6=>Kb6 (fr6 y0 y1 y2 y3 y4 y5 y6)):=by kernel_rfl
noncomputable def f3 (kA:List ((List UInt8)×Int)) (jA:List Rule):R:=sh3 kA jA
noncomputable def f5 (k4:Y4) (pA:Int) (oA:Int) (kA:List ((List UInt8)×Int)) (jA:List Rule):R:=sh5 pA oA kA jA k4
noncomputable def f6 (k4:Y4):Nat→Y6
  | 0=>fun _ _ _ _ _ _ _=>none
  | n+1=>fun pA oA vA xA uA kA jA=>sh6 pA oA vA xA uA kA jA (f5 k4) (f6 k4 n)
noncomputable def f4:Nat→Y4
  | 0=>fun _ _ _ _=>none
  | n+1=>fun pA oA kA jA=>sh4 pA oA kA jA f3 (f6 (f4 n) 100000)
noncomputable def f1 (kA:List ((List UInt8)×Int)) (jA:List Rule):R:=sh1 kA jA (f4 100000)
noncomputable def f2:Nat→Y2
  | 0=>fun _ _ _ _ _ _=>none
  | n+1=>fun lA tA wA sA kA jA=>sh2 lA tA wA sA kA jA f1 (f2 n)
noncomputable def f0 (ns:List (List UInt8)) (v:List Int) (l:List Rule):R:=sh0 ns v l (f2 100000)
theorem T3 (kA jA):(hid ct3) (fr3 kA jA)=f3 kA jA:=by
  refine (congrFun (hid_eq _) _).trans <| (P3 kA jA).trans ?_
  show _=sh3 kA jA
  rfl
theorem T5 (KL4:Kont U El) (k4:Y4) (h4:∀ pA oA kA jA,KL4 (fr4 pA oA kA jA)=k4 pA oA kA jA) (pA oA kA jA):(hid (ct5 (hid ct3) KL4)) (fr5 pA oA kA jA)=f5 k4 pA oA kA jA:=by
  refine (congrFun (hid_eq _) _).trans <| (P5 pA oA kA jA (hid ct3) KL4).trans ?_
  show _=sh5 pA oA kA jA k4
  simp only [h4]
theorem T6 (KL4:Kont U El) (k4:Y4) (h4:∀ pA oA kA jA,KL4 (fr4 pA oA kA jA)=k4 pA oA kA jA):∀ (n:Nat),∀ pA oA vA xA uA kA jA,it6 (hid ct3) (hid (ct5 (hid ct3) KL4)) n (fr6 pA oA vA xA uA kA jA)=f6 k4 n pA oA vA xA uA kA jA:=by
  intro n
  induction n with
  | zero=>intros; rfl
  | succ n ih =>
    intro pA oA vA xA uA kA jA
    refine (P6 pA oA vA xA uA kA jA (hid ct3) (hid (ct5 (hid ct3) KL4)) (it6 (hid ct3) (hid (ct5 (hid ct3) KL4)) n)).trans ?_
    show _=sh6 pA oA vA xA uA kA jA (f5 k4) (f6 k4 n)
    simp only [T5 KL4 k4 h4,ih]
theorem H6 (KL4:Kont U El) (k4:Y4) (h4:∀ pA oA kA jA,KL4 (fr4 pA oA kA jA)=k4 pA oA kA jA) (pA oA vA xA uA kA jA):hid (it6 (hid ct3) (hid (ct5 (hid ct3) KL4)) 100000) (fr6 pA oA vA xA uA kA jA)=f6 k4 100000 pA oA vA xA uA kA jA:=(congrFun (hid_eq _) _).trans (T6 KL4 k4 h4 100000 pA oA vA xA uA kA jA)
theorem T4:∀ (n:Nat),∀ pA oA kA jA,it4 (hid ct3) n (fr4 pA oA kA jA)=f4 n pA oA kA jA:=by
  intro n
  induction n with
  | zero=>intros; rfl
  | succ n ih =>
    intro pA oA kA jA
    refine (P4 pA oA kA jA (hid ct3) (it4 (hid ct3) n)).trans ?_
    show _=sh4 pA oA kA jA f3 (f6 (f4 n) 100000)
    simp only [T3,H6 (it4 (hid ct3) n) (f4 n) ih]
theorem H4 (pA oA kA jA):hid (it4 (hid ct3) 100000) (fr4 pA oA kA jA)=f4 100000 pA oA kA jA:=(congrFun (hid_eq _) _).trans (T4 100000 pA oA kA jA)
theorem T1 (kA jA):(hid ct1) (fr1 kA jA)=f1 kA jA:=by
  refine (congrFun (hid_eq _) _).trans <| (P1 kA jA).trans ?_
  show _=sh1 kA jA (f4 100000)
  simp only [H4]
theorem T2:∀ (n:Nat),∀ lA tA wA sA kA jA,it2 (hid ct1) n (fr2 lA tA wA sA kA jA)=f2 n lA tA wA sA kA jA:=by
  intro n
  induction n with
  | zero=>intros; rfl
  | succ n ih =>
    intro lA tA wA sA kA jA
    refine (P2 lA tA wA sA kA jA (hid ct1) (it2 (hid ct1) n)).trans ?_
    show _=sh2 lA tA wA sA kA jA f1 (f2 n)
    simp only [T1,ih]
theorem H2 (lA tA wA sA kA jA):hid (it2 (hid ct1) 100000) (fr2 lA tA wA sA kA jA)=f2 100000 lA tA wA sA kA jA:=(congrFun (hid_eq _) _).trans (T2 100000 lA tA wA sA kA jA)
theorem T0 (ns v l):exec X bd (.seq none .d (.seq none .d (.seq none .d (.seq (some nm1) (.seq none .d (.block (.loop nm2 .d))) (.seq (some nm3) (.seq none .d (.block (.loop nm4 (.seq none .d (.seq none .d (.seq (some nm5) (.block (.seq none .d (.seq none .d (.block (.loop nm6 .d))))) .d)))))) .d))))) (fr0 ns v l) RR (fun _ _=>none) RR=f0 ns v l:=by
  refine (P0 ns v l).trans ?_
  show _=sh0 ns v l (f2 100000)
  simp only [H2]
theorem run (ns v l):runM X bd (.seq none .d (.seq none .d (.seq none .d (.seq (some nm1) (.seq none .d (.block (.loop nm2 .d))) (.seq (some nm3) (.seq none .d (.block (.loop nm4 (.seq none .d (.seq none .d (.seq (some nm5) (.block (.seq none .d (.seq none .d (.block (.loop nm6 .d))))) .d)))))) .d))))) nmR [6,7] [(1000000000,(.rows .rule l))] [(.ful 1000000000),(.lst .str ns),(.lst .int v)]=f0 ns v l:=T0 ns v l
theorem loop6 (k4:Y4) (L i:Int) (w:List Cnd) (m:List ((List UInt8)×Int)) (hr:List Rule) (hw:w.length≤90000) (hm:∀ c∈w,mhas kq_str m c.cn=true):∀ (n j:Nat),w.length < n+j→j≤w.length→f6 k4 n L i w (Int.ofNat w.length) (j:Int) m hr=f5 k4 L i m hr:=by
  intro n
  induction n with
  | zero=>intro j h1 h2; omega
  | succ n ih =>
    intro j h1 h2
    show sh6 L i w (Int.ofNat w.length) (j:Int) m hr (f5 k4) (f6 k4 n)=_
    unfold sh6
    by_cases hj:j < w.length
    · rw [iltT (by simp; omega), inbT hj, toNat_nat, getD_lt hj, hm _ (List.getElem_mem hj), wrapS j (by omega), ih (j + 1) (by omega) hj]
      rfl
    · have : j = w.length := by omega
      subst this
      rw [iltF (by simp)]
      rfl
theorem loop4 (l:List Rule) (m:List ((List UInt8)×Int)) (hl:l.length≤90000) (hw:∀ r∈l,r.rw.length≤90000) (hm:∀ r∈l,∀ c∈r.rw,mhas kq_str m c.cn=true):∀ (n i:Nat),l.length < n+i→i≤l.length→f4 n (Int.ofNat l.length) (i:Int) m l=outG m:=by
  intro n
  induction n with
  | zero=>intro i h1 h2; omega
  | succ n ih =>
    intro i h1 h2
    show sh4 (Int.ofNat l.length) (i:Int) m l f3 (f6 (f4 n) 100000)=_
    unfold sh4
    by_cases hi:i < l.length
    · have hr := hw _ (List.getElem_mem hi)
      have e:=loop6 (f4 n) (Int.ofNat l.length) (i:Int) l[i].rw m l hr (hm _ (List.getElem_mem hi)) 100000 0 (by omega) (by omega)
      rw [iltT (by simp; omega),inbT hi,toNat_nat,nltT hi,getD_lt hi,show ((0:Int))=((0:Nat):Int) from rfl,e]
      show f4 n (Int.ofNat l.length) (IntKind.wrap .i64 ((i:Int)+1)) m l=_
      rw [wrapS i (by omega),ih (i+1) (by omega) hi]
    · have : i = l.length := by omega
      subst this
      rw [iltF (by simp)]
      rfl
theorem loop (l : List Rule) (ns : List (List UInt8)) (v : List Int) (hl : l.length ≤ 90000) (hw : ∀ r ∈ l, r.rw.length ≤ 90000) (hn : ns.length ≤ 90000) (hlen : ns.length = v.length) (hd : distB ns = true) (hm : ∀ r ∈ l, ∀ c ∈ r.rw, List.elem c.cn ns = true) : ∀ (n i : Nat), ns.length < n + i → i ≤ ns.length →
    f2 n v ns (Int.ofNat ns.length) (i:Int) (List.zip (ns.take i) (v.take i)) l=outG (List.zip ns v):=by
  intro n
  induction n with
  | zero=>intro i h1 h2; omega
  | succ n ih =>
    intro i h1 h2
    show sh2 v ns (Int.ofNat ns.length) (i:Int) (List.zip (ns.take i) (v.take i)) l f1 (f2 n)=_
    unfold sh2
    by_cases hi:i < ns.length
    · have hv : i < v.length := by omega
      have h3:mhas kq_str (List.zip (ns.take i) (v.take i)) ns[i]=false:=by
        rw [mhas_zip _ _ _ (by simp; omega)]
        have:=allI_iff.1 hd i _ (List.getElem?_eq_getElem hi)
        rw [Nat.zero_add] at this
        simpa using this
      rw [iltT (by simp; omega),inbT hi,inbT hv,toNat_nat,getD_lt hi,getD_lt hv,h3,mput_new h3,wrapS i (by omega)]
      have h4:List.zip (ns.take i) (v.take i)++[(ns[i],v[i])]=List.zip (ns.take (i+1)) (v.take (i+1)):=by
        rw [take_lt hi,take_lt hv,List.zip_append (by simp; omega)]
        rfl
      rw [h4]
      exact ih (i+1) (by omega) hi
    · have : i = ns.length := by omega
      subst this
      rw [iltF (by simp),List.take_length,List.take_of_length_le (by omega)]
      show f4 100000 (Int.ofNat l.length) ((0:Nat):Int) (List.zip ns v) l=_
      exact loop4 l _ hl hw (fun r hr c hc=>by rw [mhas_zip _ _ _ hlen]; exact hm r hr c hc) 100000 0 (by omega) (by omega)
theorem f0_eq (ns:List (List UInt8)) (v:List Int) (l:List Rule) (h:(okR l&&(nle (List.length ns) 90000&&gvE l ns v == 0))=true):f0 ns v l=outG (List.zip ns v):=by
  simp only [Bool.and_eq_true] at h
  obtain ⟨h1,h2,h3⟩:=h
  obtain ⟨g1,g2,g3⟩:=gv0 h3
  simp only [okR,Bool.and_eq_true] at h1
  have hn:=nleI h2
  show sh0 ns v l (f2 100000)=_
  unfold sh0
  have e:=loop l ns v (nleI h1.1) (fun r hr=>nleI (List.all_eq_true.1 h1.2 r hr)) hn g1 g2 g3 100000 0 (by omega) (by omega)
  rw [g1,show ((Int.ofNat v.length) != (Int.ofNat v.length))=false by simp,condF]
  rw [g1] at e
  exact e
theorem ok:CtxOk Tryz.prog X:=ctxOk tab spN dpN
theorem okM:MOk Tryz.prog X:=fun g sp h=>by cases h
theorem spec (ns:List (List UInt8)) (v:List Int) (l:List Rule) (h:((okR l&&(nle (List.length ns) 90000&&gvE l ns v == 0)))=true):MCall Tryz.prog E 86 [(.ful 1000000000),(.lst .str ns),(.lst .int v)] [(1000000000,(.rows .rule l))] (.tup [(.fmp .str .int (List.zip ns v)),(.int .i64 (0:Int))]) [] :=
  runM_sound ok okM Tryz.func86 (by kernel_rfl) (by kernel_rfl) (by kernel_rfl) (by show 3≤71; decide) ((run ns v l).trans (f0_eq ns v l h))
noncomputable def sp:MSp U El:=fun args hs k=>match args,hs with
  | [.ful q0,.lst .str ns,.lst .int v],[(q1,.rows .rule l)]=>chk (Nat.beq q0 1000000000&&(Nat.beq q1 1000000000&&true)) (chk ((okR l&&(nle (List.length ns) 90000&&gvE l ns v == 0))) (k (.tup [(.fmp .str .int (List.zip ns v)),(.int .i64 (0:Int))]) []))
  | _,_=>none
theorem spOk:MSpOk Tryz.prog E 86 sp:=⟨Tryz.call86,fun args hs k r h=>by
  unfold sp at h
  split at h
  · obtain ⟨hq, hA⟩ := chk_some h
    clear h
    simp only [Bool.and_eq_true] at hq
    obtain ⟨e0,e1,_⟩:=hq
    cases Nat.eq_of_beq_eq_true e0
    cases Nat.eq_of_beq_eq_true e1
    obtain ⟨h1,hB⟩:=chk_some hA
    exact ⟨_,_,spec _ _ _ h1,hB⟩
  · cases h⟩
theorem spDet:∀ args hs,∃ oo:Option (AV U El×Heap U El),∀ k,sp args hs k=oo.bind fun p=>k p.1 p.2:=fun args hs=>by
  unfold sp
  split
  · exact det_chkM (det_chkM ⟨some (_,_),fun _=>rfl⟩)
  · exact ⟨none,fun _=>rfl⟩
end ugivenO
namespace uHolds
noncomputable def bd:Code:=(Tryz.f54.body).getD .skip
noncomputable def X:Ctx U El:=⟨E,tds,zeros,eqs,specOf [(87,uholds.sp),(108,valid1.sp)],100000,27,dspecOf [],mspecOf [(86,(mcSp ugivenO.sp))]⟩
noncomputable def nmR:Norm U:=⟨[],[6,7],[],[],[],[],[]⟩
noncomputable def RR:Kont U El:=fun st=>normK nmR st (retFin [6,7] [])
noncomputable def fr0 (r:Rule) (ns:List (List UInt8)) (v:List Int):St U El:=⟨[(0,(.agg [(.str r.rn),(.lst .cnd r.rw),(.str r.rl),(.int .i64 r.rs)])),(1,(.lst .str ns)),(2,(.lst .int v))],[]⟩
noncomputable def sh0 (r:Rule) (ns:List (List UInt8)) (v:List Int):R :=
  condB (!(ruleB r)) (some ((.tup [(.bool false),(.int .i64 (1:Int))]),[])) (chk ((okR ([r]:List Rule)&&(nle (List.length ns) 90000&&gvE ([r]:List Rule) ns v == 0))) (chk (nle (List.length (Rule.rw r)) 90000) (some ((.tup [(.bool (!(List.any (Rule.rw r) (failsM (List.zip ns v))))),(.int .i64 (0:Int))]),[]))))
theorem P0 (r ns v):exec X (cdp [] bd) .d (fr0 r ns v) RR (fun _ _=>none) RR=sh0 r ns v:=by kernel_rfl
noncomputable def f0 (r:Rule) (ns:List (List UInt8)) (v:List Int):R:=sh0 r ns v
theorem T0 (r ns v):exec X bd .d (fr0 r ns v) RR (fun _ _=>none) RR=f0 r ns v:=by
  refine (P0 r ns v).trans ?_
  show _=sh0 r ns v
  rfl
theorem run (r ns v):runFn X bd .d nmR [6,7] [] [(.agg [(.str r.rn),(.lst .cnd r.rw),(.str r.rl),(.int .i64 r.rs)]),(.lst .str ns),(.lst .int v)]=f0 r ns v:=T0 r ns v
theorem f0_eq (r:Rule) (ns:List (List UInt8)) (v:List Int) (h:(ruleB r&&(nle (List.length ns) 90000&&gvE [r] ns v == 0))=true):f0 r ns v=outV (uholdB r ns v) 0:=by
  simp only [Bool.and_eq_true] at h
  obtain ⟨h1,h2,h3⟩:=h
  have hl:=(ruleB_len h1).1
  have h4:okR [r]=true:=by simp only [okR,List.all_cons,List.all_nil,Bool.and_true,Bool.and_eq_true]; exact ⟨nleT (by simp),nleT (by omega)⟩
  show sh0 r ns v=_
  unfold sh0
  rw [h1,h4,h2,h3,nleT (show r.rw.length≤90000 by omega)]
  rfl
theorem ok:CtxOk Tryz.prog X:=ctxOk tab (spC uholds.spOk (spC valid1.spOk spN)) dpN
theorem okM:MOk Tryz.prog X:=mspecOf_ok _ (mpC (mcSp_ok ok ugivenO.spOk) mpN)
theorem spec (r:Rule) (ns:List (List UInt8)) (v:List Int) (h:((ruleB r&&(nle (List.length ns) 90000&&gvE [r] ns v == 0)))=true):CallSpec Tryz.prog E 54 [(.agg [(.str r.rn),(.lst .cnd r.rw),(.str r.rl),(.int .i64 r.rs)]),(.lst .str ns),(.lst .int v)] (.tup [(.bool (uholdB r ns v)),(.int .i64 (0:Int))]) [] :=
  runFn_sound ok okM Tryz.call54 Tryz.func54 (by kernel_rfl) (by kernel_rfl) (by kernel_rfl) (by show 3≤27; decide) (by decide) (by rfl) ((run r ns v).trans (f0_eq r ns v h))
noncomputable def sp:Sp U El:=fun args k=>match args with
  | [.agg [.str r_rn,.lst .cnd r_rw,.str r_rl,.int .i64 r_rs],.lst .str ns,.lst .int v]=>chk ((ruleB (⟨r_rn,r_rw,r_rl,r_rs⟩:Rule)&&(nle (List.length ns) 90000&&gvE [(⟨r_rn,r_rw,r_rl,r_rs⟩:Rule)] ns v == 0))) (k (.tup [(.bool (uholdB (⟨r_rn,r_rw,r_rl,r_rs⟩:Rule) ns v)),(.int .i64 (0:Int))]) [])
  | _=>none
theorem spOk:SpOk Tryz.prog E 54 sp where
  det:=fun vs=>by
    unfold sp
    split
    · exact det_c _ _ _
    · exact ⟨none,fun _=>rfl⟩
  ok:=fun vs k r h=>by
    unfold sp at h
    split at h
    · obtain ⟨h1, h2⟩ := chk_some h
      exact ⟨_,_,spec ⟨_,_,_,_⟩ _ _ h1,h2⟩
    · cases h
end uHolds
namespace idxI
noncomputable def bd:Code:=(Tryz.f81.body).getD .skip
noncomputable def X:Ctx U El:=⟨E,tds,zeros,eqs,specOf [],100000,19,dspecOf [],fun _=>none⟩
noncomputable def nmR:Norm U:=⟨[],[4],[],[],[],[],[]⟩
noncomputable def RR:Kont U El:=fun st=>normK nmR st (retFin [4] [])
noncomputable def nm1:Norm U:=⟨[],[],[],[],[],[],[]⟩
noncomputable def nm2:Norm U:=⟨[],[0,1,7,8],[],[],[],[],[]⟩
abbrev Y1:=R
abbrev Y2:=(List Int)→Int→Int→Int→R
noncomputable def fr0 (l:List Int) (x:Int):St U El:=⟨[(0,(.lst .int l)),(1,(.int .i64 x))],[]⟩
noncomputable def fr1:St U El:=⟨[],[]⟩
noncomputable def fr2 (s0:List Int) (v1:Int) (x7:Int) (x8:Int):St U El:=⟨[(0,(.lst .int s0)),(1,(.int .i64 v1)),(7,(.int .i64 x7)),(8,(.int .i64 x8))],[]⟩
noncomputable def sh0 (l:List Int) (x:Int) (k2:Y2):R :=
  k2 l x (Int.ofNat (List.length l)) (0:Int)
noncomputable def sh1:R :=
  some ((.int .i64 (-1:Int)),[])
noncomputable def sh2 (s0:List Int) (v1:Int) (x7:Int) (x8:Int) (k1:Y1) (k2:Y2):R :=
  condB (ilt x8 x7) (chk (inb x8 (List.length s0)) (condB (v1 == (List.getD s0 (Int.toNat x8) d_int)) (some ((.int .i64 x8),[])) (k2 s0 v1 x7 (IntKind.wrap .i64 (x8+(1:Int)))))) (k1)
noncomputable def it2 (Kb1:Kont U El) (n:Nat):Kont U El:=iter nm2 (fun st' K'=>exec X (cdp [1,0,1,0,0] bd) .d st' K' (Eblk 0 (cutK nm1 Kb1) (fun _ _=>none)) RR) n
noncomputable def ct1:Kont U El:=fun st=>exec X (cdp [1,1] bd) .d st RR (fun _ _=>none) RR
theorem P0 (l x):exec X (cdp [] bd) (.seq none .d (.seq (some nm1) (.seq none .d (.block (.loop nm2 .d))) .d)) (fr0 l x) RR (fun _ _=>none) RR=sh0 l x (fun y0 y1 y2 y3=>(hid (it2 (hid ct1) 100000)) (fr2 y0 y1 y2 y3)):=by kernel_rfl
theorem P1:exec X (cdp [1,1] bd) .d (fr1) RR (fun _ _=>none) RR=sh1:=by kernel_rfl
theorem P2 (s0 v1 x7 x8) (Kb1:Kont U El) (Kb2:Kont U El):exec X (cdp [1,0,1,0,0] bd) .d (fr2 s0 v1 x7 x8) (cutK nm2 Kb2) (Eblk 0 (cutK nm1 Kb1) (fun _ _=>none)) RR=sh2 s0 v1 x7 x8 (Kb1 (fr1)) (fun y0 y1 y2 y3=>Kb2 (fr2 y0 y1 y2 y3)):=by kernel_rfl
noncomputable def f1:R:=sh1
noncomputable def f2:Nat→Y2
  | 0=>fun _ _ _ _=>none
  | n+1=>fun s0 v1 x7 x8=>sh2 s0 v1 x7 x8 f1 (f2 n)
noncomputable def f0 (l:List Int) (x:Int):R:=sh0 l x (f2 100000)
theorem T1:(hid ct1) (fr1)=f1:=by
  refine (congrFun (hid_eq _) _).trans <| (P1).trans ?_
  show _=sh1
  rfl
theorem T2:∀ (n:Nat),∀ s0 v1 x7 x8,it2 (hid ct1) n (fr2 s0 v1 x7 x8)=f2 n s0 v1 x7 x8:=by
  intro n
  induction n with
  | zero=>intros; rfl
  | succ n ih =>
    intro s0 v1 x7 x8
    refine (P2 s0 v1 x7 x8 (hid ct1) (it2 (hid ct1) n)).trans ?_
    show _=sh2 s0 v1 x7 x8 f1 (f2 n)
    simp only [T1,ih]
theorem H2 (s0 v1 x7 x8):hid (it2 (hid ct1) 100000) (fr2 s0 v1 x7 x8)=f2 100000 s0 v1 x7 x8:=(congrFun (hid_eq _) _).trans (T2 100000 s0 v1 x7 x8)
theorem T0 (l x):exec X bd (.seq none .d (.seq (some nm1) (.seq none .d (.block (.loop nm2 .d))) .d)) (fr0 l x) RR (fun _ _=>none) RR=f0 l x:=by
  refine (P0 l x).trans ?_
  show _=sh0 l x (f2 100000)
  simp only [H2]
theorem run (l x):runFn X bd (.seq none .d (.seq (some nm1) (.seq none .d (.block (.loop nm2 .d))) .d)) nmR [4] [] [(.lst .int l),(.int .i64 x)]=f0 l x:=T0 l x
theorem f0_eq (l:List Int) (x:Int) (h:(nle (List.length l) 90000)=true):f0 l x=outI (findZ (eqInt x) 0 l):=by
  have hl:=nleI h
  refine (grun_eq l (by omega) (fun n_ (_:Unit) i_=>f2 n_ l x (Int.ofNat l.length) i_) _ (fun _=>outI (-1)) (fun n_ u_ i_ hi_ => ?_) (fun n_ u_ => ?_) 100000 0 () (by omega) (by omega)).trans (grun_find (eqInt x) outI l 0)
  · show sh2 l x (Int.ofNat l.length) i_ f1 (f2 n_) = _
    unfold sh2
    rw [iltT (by simp; omega),inbT hi_,toNat_nat,getD_lt hi_]
    rfl
  · show sh2 l x (Int.ofNat l.length) (l.length : Int) f1 (f2 n_) = _
    unfold sh2
    rw [iltF (by simp)]
    rfl
theorem ok:CtxOk Tryz.prog X:=ctxOk tab spN dpN
theorem okM:MOk Tryz.prog X:=fun g sp h=>by cases h
theorem spec (l:List Int) (x:Int) (h:(nle (List.length l) 90000)=true):CallSpec Tryz.prog E 81 [(.lst .int l),(.int .i64 x)] (.int .i64 (findZ (eqInt x) 0 l)) [] :=
  runFn_sound ok okM Tryz.call81 Tryz.func81 (by kernel_rfl) (by kernel_rfl) (by kernel_rfl) (by show 2≤19; decide) (by decide) (by rfl) ((run l x).trans (f0_eq l x h))
noncomputable def sp:Sp U El:=fun args k=>match args with
  | [.lst .int l,.int .i64 x]=>chk (nle (List.length l) 90000) (k (.int .i64 (findZ (eqInt x) 0 l)) [])
  | _=>none
theorem spOk:SpOk Tryz.prog E 81 sp where
  det:=fun vs=>by
    unfold sp
    split
    · exact det_c _ _ _
    · exact ⟨none,fun _=>rfl⟩
  ok:=fun vs k r h=>by
    unfold sp at h
    split at h
    · obtain ⟨h1, h2⟩ := chk_some h
      exact ⟨_,_,spec _ _ h1,h2⟩
    · cases h
end idxI
namespace hasI
noncomputable def bd:Code:=(Tryz.f37.body).getD .skip
noncomputable def X:Ctx U El:=⟨E,tds,zeros,eqs,specOf [(81,idxI.sp)],100000,9,dspecOf [],fun _=>none⟩
noncomputable def nmR:Norm U:=⟨[],[4],[],[],[],[],[]⟩
noncomputable def RR:Kont U El:=fun st=>normK nmR st (retFin [4] [])
noncomputable def fr0 (l:List Int) (x:Int):St U El:=⟨[(0,(.lst .int l)),(1,(.int .i64 x))],[]⟩
noncomputable def sh0 (l:List Int) (x:Int):R :=
  chk (nle (List.length l) 90000) (some ((.bool (ile (0:Int) (findZ (eqInt x) 0 l))),[]))
theorem P0 (l x):exec X (cdp [] bd) .d (fr0 l x) RR (fun _ _=>none) RR=sh0 l x:=by kernel_rfl
noncomputable def f0 (l:List Int) (x:Int):R:=sh0 l x
theorem T0 (l x):exec X bd .d (fr0 l x) RR (fun _ _=>none) RR=f0 l x:=by
  refine (P0 l x).trans ?_
  show _=sh0 l x
  rfl
theorem run (l x):runFn X bd .d nmR [4] [] [(.lst .int l),(.int .i64 x)]=f0 l x:=T0 l x
theorem f0_eq (l:List Int) (x:Int) (h:(nle (List.length l) 90000)=true):f0 l x=outB (List.any l (eqInt x)):=by
  show sh0 l x=_
  unfold sh0
  rw [h,← findZ_any (eqInt x) l 0]
  rfl
theorem ok:CtxOk Tryz.prog X:=ctxOk tab (spC idxI.spOk spN) dpN
theorem okM:MOk Tryz.prog X:=fun g sp h=>by cases h
theorem spec (l:List Int) (x:Int) (h:(nle (List.length l) 90000)=true):CallSpec Tryz.prog E 37 [(.lst .int l),(.int .i64 x)] (.bool (List.any l (eqInt x))) [] :=
  runFn_sound ok okM Tryz.call37 Tryz.func37 (by kernel_rfl) (by kernel_rfl) (by kernel_rfl) (by show 2≤9; decide) (by decide) (by rfl) ((run l x).trans (f0_eq l x h))
noncomputable def sp:Sp U El:=fun args k=>match args with
  | [.lst .int l,.int .i64 x]=>chk (nle (List.length l) 90000) (k (.bool (List.any l (eqInt x))) [])
  | _=>none
theorem spOk:SpOk Tryz.prog E 37 sp where
  det:=fun vs=>by
    unfold sp
    split
    · exact det_c _ _ _
    · exact ⟨none,fun _=>rfl⟩
  ok:=fun vs k r h=>by
    unfold sp at h
    split at h
    · obtain ⟨h1, h2⟩ := chk_some h
      exact ⟨_,_,spec _ _ h1,h2⟩
    · cases h
end hasI
namespace lp1
noncomputable def bd:Code:=(Tryz.f55.body).getD .skip
noncomputable def X:Ctx U El:=⟨E,tds,zeros,eqs,specOf [(37,hasI.sp)],100000,7,dspecOf [],fun _=>none⟩
noncomputable def nmR:Norm U:=⟨[],[3],[],[],[],[],[]⟩
noncomputable def RR:Kont U El:=fun st=>normK nmR st (retFin [3] [])
noncomputable def fr0 (x:Int) (fl:List Int):St U El:=⟨[(0,(.int .i64 x)),(1,(.pcs [(.lst .int fl)] 0))],[]⟩
noncomputable def sh0 (x:Int) (fl:List Int):R :=
  chk (nle (List.length fl) 90000) (some ((.bool (List.any fl (eqInt x))),[]))
theorem P0 (x fl):exec X (cdp [] bd) .d (fr0 x fl) RR (fun _ _=>none) RR=sh0 x fl:=by kernel_rfl
noncomputable def f0 (x:Int) (fl:List Int):R:=sh0 x fl
theorem T0 (x fl):exec X bd .d (fr0 x fl) RR (fun _ _=>none) RR=f0 x fl:=by
  refine (P0 x fl).trans ?_
  show _=sh0 x fl
  rfl
theorem run (x fl):runFn X bd .d nmR [3] [] [(.int .i64 x),(.pcs [(.lst .int fl)] 0)]=f0 x fl:=T0 x fl
theorem f0_eq (x:Int) (fl:List Int) (h:(smallI fl x)=true):f0 x fl=outB (inI fl x):=by
  have h':nle fl.length 90000=true:=h
  show sh0 x fl=_
  unfold sh0
  rw [h']
  rfl
theorem ok:CtxOk Tryz.prog X:=ctxOk tab (spC hasI.spOk spN) dpN
theorem okM:MOk Tryz.prog X:=fun g sp h=>by cases h
theorem spec (x:Int) (fl:List Int) (h:((smallI fl) x)=true):CallSpec Tryz.prog E 55 [(.int .i64 x),(.pcs [(.lst .int fl)] 0)] (.bool ((inI fl) x)) [] :=
  runFn_sound ok okM Tryz.call55 Tryz.func55 (by kernel_rfl) (by kernel_rfl) (by kernel_rfl) (by show 2≤7; decide) (by decide) (by rfl) ((run x fl).trans (f0_eq x fl h))
noncomputable def sp:Sp U El:=fun args k=>match args with
  | [.int .i64 x,.pcs [.lst .int fl] 0]=>chk ((smallI fl) x) (k (.bool ((inI fl) x)) [])
  | _=>none
theorem spOk:SpOk Tryz.prog E 55 sp where
  det:=fun vs=>by
    unfold sp
    split
    · exact det_c _ _ _
    · exact ⟨none,fun _=>rfl⟩
  ok:=fun vs k r h=>by
    unfold sp at h
    split at h
    · obtain ⟨h1, h2⟩ := chk_some h
      exact ⟨_,_,spec _ _ h1,h2⟩
    · cases h
end lp1
namespace lp1X
noncomputable def bd:Code:=(Tryz.f80.body).getD .skip
noncomputable def X:Ctx U El:=⟨E,tds,zeros,eqs,specOf [(55,lp1.sp)],100000,19,dspecOf [],fun _=>none⟩
noncomputable def nmR:Norm U:=⟨[],[4],[],[],[],[],[]⟩
noncomputable def RR:Kont U El:=fun st=>normK nmR st (retFin [4] [])
noncomputable def nm1:Norm U:=⟨[],[],[],[],[],[],[]⟩
noncomputable def nm2:Norm U:=⟨[],[0,1,7,8],[],[],[],[],[]⟩
abbrev Y1:=R
abbrev Y2:=(List Int)→(List Int)→Int→Int→R
noncomputable def fr0 (l:List Int) (fl:List Int):St U El:=⟨[(0,(.lst .int l)),(1,(.fn 55 [] [(.pcs [(.lst .int fl)] 0)]))],[]⟩
noncomputable def fr1:St U El:=⟨[],[]⟩
noncomputable def fr2 (s0:List Int) (f1c_0:List Int) (x7:Int) (x8:Int):St U El:=⟨[(0,(.lst .int s0)),(1,(.fn 55 [] [(.pcs [(.lst .int f1c_0)] 0)])),(7,(.int .i64 x7)),(8,(.int .i64 x8))],[]⟩
noncomputable def sh0 (l:List Int) (fl:List Int) (k2:Y2):R :=
  k2 l fl (Int.ofNat (List.length l)) (0:Int)
noncomputable def sh1:R :=
  some ((.int .i64 (-1:Int)),[])
noncomputable def sh2 (s0:List Int) (f1c_0:List Int) (x7:Int) (x8:Int) (k1:Y1) (k2:Y2):R :=
  condB (ilt x8 x7) (chk (inb x8 (List.length s0)) (chk ((smallI f1c_0) (List.getD s0 (Int.toNat x8) d_int)) (condB ((inI f1c_0) (List.getD s0 (Int.toNat x8) d_int)) (some ((.int .i64 x8),[])) (k2 s0 f1c_0 x7 (IntKind.wrap .i64 (x8+(1:Int))))))) (k1)
noncomputable def it2 (Kb1:Kont U El) (n:Nat):Kont U El:=iter nm2 (fun st' K'=>exec X (cdp [1,0,1,0,0] bd) .d st' K' (Eblk 0 (cutK nm1 Kb1) (fun _ _=>none)) RR) n
noncomputable def ct1:Kont U El:=fun st=>exec X (cdp [1,1] bd) .d st RR (fun _ _=>none) RR
theorem P0 (l fl):exec X (cdp [] bd) (.seq none .d (.seq (some nm1) (.seq none .d (.block (.loop nm2 .d))) .d)) (fr0 l fl) RR (fun _ _=>none) RR=sh0 l fl (fun y0 y1 y2 y3=>(hid (it2 (hid ct1) 100000)) (fr2 y0 y1 y2 y3)):=by kernel_rfl
theorem P1:exec X (cdp [1,1] bd) .d (fr1) RR (fun _ _=>none) RR=sh1:=by kernel_rfl
theorem P2 (s0 f1c_0 x7 x8) (Kb1:Kont U El) (Kb2:Kont U El):exec X (cdp [1,0,1,0,0] bd) .d (fr2 s0 f1c_0 x7 x8) (cutK nm2 Kb2) (Eblk 0 (cutK nm1 Kb1) (fun _ _=>none)) RR=sh2 s0 f1c_0 x7 x8 (Kb1 (fr1)) (fun y0 y1 y2 y3=>Kb2 (fr2 y0 y1 y2 y3)):=by kernel_rfl
noncomputable def f1:R:=sh1
noncomputable def f2:Nat→Y2
  | 0=>fun _ _ _ _=>none
  | n+1=>fun s0 f1c_0 x7 x8=>sh2 s0 f1c_0 x7 x8 f1 (f2 n)
noncomputable def f0 (l:List Int) (fl:List Int):R:=sh0 l fl (f2 100000)
theorem T1:(hid ct1) (fr1)=f1:=by
  refine (congrFun (hid_eq _) _).trans <| (P1).trans ?_
  show _=sh1
  rfl
theorem T2:∀ (n:Nat),∀ s0 f1c_0 x7 x8,it2 (hid ct1) n (fr2 s0 f1c_0 x7 x8)=f2 n s0 f1c_0 x7 x8:=by
  intro n
  induction n with
  | zero=>intros; rfl
  | succ n ih =>
    intro s0 f1c_0 x7 x8
    refine (P2 s0 f1c_0 x7 x8 (hid ct1) (it2 (hid ct1) n)).trans ?_
    show _=sh2 s0 f1c_0 x7 x8 f1 (f2 n)
    simp only [T1,ih]
theorem H2 (s0 f1c_0 x7 x8):hid (it2 (hid ct1) 100000) (fr2 s0 f1c_0 x7 x8)=f2 100000 s0 f1c_0 x7 x8:=(congrFun (hid_eq _) _).trans (T2 100000 s0 f1c_0 x7 x8)
theorem T0 (l fl):exec X bd (.seq none .d (.seq (some nm1) (.seq none .d (.block (.loop nm2 .d))) .d)) (fr0 l fl) RR (fun _ _=>none) RR=f0 l fl:=by
  refine (P0 l fl).trans ?_
  show _=sh0 l fl (f2 100000)
  simp only [H2]
theorem run (l fl):runFn X bd (.seq none .d (.seq (some nm1) (.seq none .d (.block (.loop nm2 .d))) .d)) nmR [4] [] [(.lst .int l),(.fn 55 [] [(.pcs [(.lst .int fl)] 0)])]=f0 l fl:=T0 l fl
theorem f0_eq (l:List Int) (fl:List Int) (h:((nle (List.length l) 90000&&List.all l (smallI fl)))=true):f0 l fl=outI (findZ (inI fl) 0 l):=by
  simp only [Bool.and_eq_true] at h
  have ha:=List.all_eq_true.1 h.2
  have hl:=nleI h.1
  refine (grun_eq l (by omega) (fun n_ (_:Unit) i_=>f2 n_ l fl (Int.ofNat l.length) i_) _ (fun _=>outI (-1)) (fun n_ u_ i_ hi_ => ?_) (fun n_ u_ => ?_) 100000 0 () (by omega) (by omega)).trans (grun_find (inI fl) outI l 0)
  · show sh2 l fl (Int.ofNat l.length) i_ f1 (f2 n_) = _
    unfold sh2
    rw [iltT (by simp; omega),inbT hi_,toNat_nat,getD_lt hi_,ha l[i_] (List.getElem_mem hi_)]
    rfl
  · show sh2 l fl (Int.ofNat l.length) (l.length : Int) f1 (f2 n_) = _
    unfold sh2
    rw [iltF (by simp)]
    rfl
theorem ok:CtxOk Tryz.prog X:=ctxOk tab (spC lp1.spOk spN) dpN
theorem okM:MOk Tryz.prog X:=fun g sp h=>by cases h
theorem spec (l:List Int) (fl:List Int) (h:((nle (List.length l) 90000&&List.all l (smallI fl)))=true):CallSpec Tryz.prog E 80 [(.lst .int l),(.fn 55 [] [(.pcs [(.lst .int fl)] 0)])] (.int .i64 (findZ (inI fl) 0 l)) [] :=
  runFn_sound ok okM Tryz.call80 Tryz.func80 (by kernel_rfl) (by kernel_rfl) (by kernel_rfl) (by show 2≤19; decide) (by decide) (by rfl) ((run l fl).trans (f0_eq l fl h))
noncomputable def sp:Sp U El:=fun args k=>match args with
  | [.lst .int l,.fn 55 [] [.pcs [.lst .int fl] 0]]=>chk ((nle (List.length l) 90000&&List.all l (smallI fl))) (k (.int .i64 (findZ (inI fl) 0 l)) [])
  | _=>none
theorem spOk:SpOk Tryz.prog E 80 sp where
  det:=fun vs=>by
    unfold sp
    split
    · exact det_c _ _ _
    · exact ⟨none,fun _=>rfl⟩
  ok:=fun vs k r h=>by
    unfold sp at h
    split at h
    · obtain ⟨h1, h2⟩ := chk_some h
      exact ⟨_,_,spec _ _ h1,h2⟩
    · cases h
end lp1X
namespace lp1C
noncomputable def bd:Code:=(Tryz.f35.body).getD .skip
noncomputable def X:Ctx U El:=⟨E,tds,zeros,eqs,specOf [(80,lp1X.sp)],100000,9,dspecOf [],fun _=>none⟩
noncomputable def nmR:Norm U:=⟨[],[4],[],[],[],[],[]⟩
noncomputable def RR:Kont U El:=fun st=>normK nmR st (retFin [4] [])
noncomputable def fr0 (l:List Int) (fl:List Int):St U El:=⟨[(0,(.lst .int l)),(1,(.fn 55 [] [(.pcs [(.lst .int fl)] 0)]))],[]⟩
noncomputable def sh0 (l:List Int) (fl:List Int):R :=
  chk ((nle (List.length l) 90000&&List.all l (smallI fl))) (some ((.bool (ile (0:Int) (findZ (inI fl) 0 l))),[]))
theorem P0 (l fl):exec X (cdp [] bd) .d (fr0 l fl) RR (fun _ _=>none) RR=sh0 l fl:=by kernel_rfl
noncomputable def f0 (l:List Int) (fl:List Int):R:=sh0 l fl
theorem T0 (l fl):exec X bd .d (fr0 l fl) RR (fun _ _=>none) RR=f0 l fl:=by
  refine (P0 l fl).trans ?_
  show _=sh0 l fl
  rfl
theorem run (l fl):runFn X bd .d nmR [4] [] [(.lst .int l),(.fn 55 [] [(.pcs [(.lst .int fl)] 0)])]=f0 l fl:=T0 l fl
theorem f0_eq (l:List Int) (fl:List Int) (h:((nle (List.length l) 90000&&List.all l (smallI fl)))=true):f0 l fl=outB (List.any l (inI fl)):=by
  show chk _ (outB _)=_
  rw [h,chkT,findZ_any]
theorem ok:CtxOk Tryz.prog X:=ctxOk tab (spC lp1X.spOk spN) dpN
theorem okM:MOk Tryz.prog X:=fun g sp h=>by cases h
theorem spec (l:List Int) (fl:List Int) (h:((nle (List.length l) 90000&&List.all l (smallI fl)))=true):CallSpec Tryz.prog E 35 [(.lst .int l),(.fn 55 [] [(.pcs [(.lst .int fl)] 0)])] (.bool (List.any l (inI fl))) [] :=
  runFn_sound ok okM Tryz.call35 Tryz.func35 (by kernel_rfl) (by kernel_rfl) (by kernel_rfl) (by show 2≤9; decide) (by decide) (by rfl) ((run l fl).trans (f0_eq l fl h))
noncomputable def sp:Sp U El:=fun args k=>match args with
  | [.lst .int l,.fn 55 [] [.pcs [.lst .int fl] 0]]=>chk ((nle (List.length l) 90000&&List.all l (smallI fl))) (k (.bool (List.any l (inI fl))) [])
  | _=>none
theorem spOk:SpOk Tryz.prog E 35 sp where
  det:=fun vs=>by
    unfold sp
    split
    · exact det_c _ _ _
    · exact ⟨none,fun _=>rfl⟩
  ok:=fun vs k r h=>by
    unfold sp at h
    split at h
    · obtain ⟨h1, h2⟩ := chk_some h
      exact ⟨_,_,spec _ _ h1,h2⟩
    · cases h
end lp1C
theorem nar_out (m : List UInt8) (y : Int) : ∀ (w : List Cnd) (s : Span), (nar m s w).slo ≤ y → y ≤ (nar m s w).shi → s.slo ≤ y ∧ y ≤ s.shi ∧ ∀ c ∈ w, c.cn = m → Sat c y := by
  intro w
  induction w with
  | nil=>intro s h1 h2; exact ⟨h1,h2,fun c hc=>by cases hc⟩
  | cons c w ih =>
    intro s h1 h2
    obtain ⟨g1,g2,g3⟩:=ih (narC m s c) h1 h2
    cases e:c.cn == m with
    | false =>
      have:narC m s c=s:=by unfold narC; rw [e]; rfl
      rw [this] at g1 g2
      refine ⟨g1,g2,fun c' hc' hm => ?_⟩
      rcases List.mem_cons.1 hc' with rfl | hc'
      · rw [hm] at e; simp at e
      · exact g3 c' hc' hm
    | true =>
      cases hb:c.cb with
      | true =>
        have:narC m s c=⟨s.slo,bif ilt (c.cl - 1) s.shi then c.cl - 1 else s.shi⟩:=by unfold narC; rw [e,hb]; rfl
        rw [this] at g1 g2
        have g2':y≤bif ilt (c.cl - 1) s.shi then c.cl - 1 else s.shi:=g2
        have g4:y≤s.shi∧y < c.cl:=by
          cases hi:ilt (c.cl - 1) s.shi with
          | true=>rw [hi,cond_true] at g2'; have:=iltI hi; omega
          | false=>rw [hi,cond_false] at g2'; have:=iltN hi; omega
        refine ⟨g1,g4.1,fun c' hc' hm => ?_⟩
        rcases List.mem_cons.1 hc' with rfl | hc'
        · unfold Sat; rw [hb,if_pos rfl]; exact g4.2
        · exact g3 c' hc' hm
      | false =>
        have:narC m s c=⟨bif ilt s.slo c.cl then c.cl else s.slo,s.shi⟩:=by unfold narC; rw [e,hb]; rfl
        rw [this] at g1 g2
        have g1':(bif ilt s.slo c.cl then c.cl else s.slo)≤y:=g1
        have g4:s.slo≤y∧c.cl≤y:=by
          cases hi:ilt s.slo c.cl with
          | true=>rw [hi,cond_true] at g1'; have:=iltI hi; omega
          | false=>rw [hi,cond_false] at g1'; have:=iltN hi; omega
        refine ⟨g4.1,g2,fun c' hc' hm => ?_⟩
        rcases List.mem_cons.1 hc' with rfl | hc'
        · unfold Sat; rw [hb,if_neg (by simp)]; exact g4.2
        · exact g3 c' hc' hm
theorem least_back : ∀ (nds : List Node) (w : List Cnd) (o : List Int), leastO nds w = some o → Poss nds o ∧ ∀ c ∈ w, ∀ (j : Nat) (hj : j < nds.length) (hj' : j < o.length), nds[j].nn = c.cn → Sat c o[j] := by
  intro nds
  induction nds with
  | nil=>intro w o h; simp only [leastO,Option.some.injEq] at h; subst h; exact ⟨⟨rfl,fun i hi=>by simp at hi⟩,fun c _ j hj=>by simp at hj⟩
  | cons x nds ih =>
    intro w o h
    unfold leastO at h
    cases hb:ilt (nar x.nn (possS x) w).shi (nar x.nn (possS x) w).slo with
    | true=>rw [hb] at h; cases h
    | false =>
      rw [hb,cond_false,Option.map_eq_some_iff] at h
      obtain ⟨u,hu,rfl⟩:=h
      have hle:=iltN hb
      obtain ⟨i1,i2⟩:=ih w u hu
      obtain ⟨n1,n2,n3⟩:=nar_out x.nn (nar x.nn (possS x) w).slo w (possS x) (Int.le_refl _) (by omega)
      refine ⟨⟨by simp [i1.1],fun i hi hi' => ?_⟩,fun c hc j hj hj' e => ?_⟩
      · cases i with
        | zero=>exact ⟨n1,n2⟩
        | succ i=>exact i1.2 i (by simpa using hi) (by simpa using hi')
      · cases j with
        | zero=>exact n3 c hc e.symm
        | succ j=>exact i2 c hc j (by simpa using hj) (by simpa using hj') e
theorem sat_holds {n:Net} {v:List Int} (hv:v.length=n.nds.length) {w:List Cnd} (hk:∀ c∈w,hasN n c.cn=true) (h:∀ c∈w,∀ (j:Nat) (hj:j < n.nds.length) (hj':j < v.length),n.nds[j].nn=c.cn→Sat c v[j]):holdN (namesL n) v w=true:=by
  unfold holdN
  rw [Bool.not_eq_true',List.any_eq_false]
  intro c hc
  rw [Bool.not_eq_true]
  rcases findZ_at (fun x=>x == c.cn) (namesL n) 0 with h1 | ⟨j,hj,hj1,hj2⟩
  · have := find_has n c.cn
    rw [hk c hc] at this
    have h3:=iltN this
    omega
  · have hjn : j < n.nds.length := by simpa [namesL] using hj
    have hjv:j < v.length:=by omega
    have hcn:n.nds[j].nn=c.cn:=by simpa [namesL] using hj2
    have hs:=h c hc j hjn hjv hcn
    unfold failsN
    rw [hj1,Nat.zero_add,toNat_nat,getD_lt hjv]
    unfold Sat at hs
    cases hb:c.cb with
    | true=>rw [hb,if_pos rfl] at hs; rw [iltT hs]; rfl
    | false=>rw [hb,if_neg (by simp)] at hs; rw [iltF (by omega)]; rfl
theorem findFrom_back (n:Net) (i:Int) (a:Rule):∀ (l:List Rule) (k:Nat) (x:Pair),x∈findFrom n i a k l→∃ j,∃ hj:j < l.length,x=⟨i,((k+j:Nat):Int)⟩∧contraB n a l[j]=true:=by
  intro l
  induction l with
  | nil=>intro k x hx; cases hx
  | cons b l ih =>
    intro k x hx
    simp only [findFrom] at hx
    have hrest:x∈findFrom n i a (k+1) l→∃ j,∃ hj:j < (b :: l).length,x=⟨i,((k+j:Nat):Int)⟩∧contraB n a (b :: l)[j]=true:=fun h=>by
      obtain ⟨j,hj,e1,e2⟩:=ih (k+1) x h
      exact ⟨j+1,by simp; omega,by rw [e1,show k+1+j=k+(j+1) by omega],e2⟩
    cases hc:contraB n a b with
    | false=>rw [hc] at hx; exact hrest hx
    | true =>
      rw [hc,cond_true] at hx
      rcases List.mem_cons.1 hx with rfl | hx
      · exact ⟨0,by simp,rfl,hc⟩
      · exact hrest hx
theorem findI_back (n:Net):∀ (l:List Rule) (i:Nat) (x:Pair),x∈findI n i l→∃ j k,∃ hj:j < l.length,∃ hk:k < l.length,x=⟨((i+j:Nat):Int),((i+k:Nat):Int)⟩∧contraB n l[j] l[k]=true:=by
  intro l
  induction l with
  | nil=>intro i x hx; cases hx
  | cons a l ih =>
    intro i x hx
    simp only [findI] at hx
    rcases List.mem_append.1 hx with hx | hx
    · obtain ⟨k, hk, e1, e2⟩ := findFrom_back n (i : Int) a l (i + 1) x hx
      exact ⟨0,k+1,by simp,by simp; omega,by rw [e1,show i+1+k=i+(k+1) by omega]; rfl,e2⟩
    · obtain ⟨j, k, hj, hk, e1, e2⟩ := ih (i + 1) x hx
      exact ⟨j+1,k+1,by simp; omega,by simp; omega,by rw [e1,show i+1+j=i+(j+1) by omega,show i+1+k=i+(k+1) by omega],e2⟩
theorem deadI_back (n:Net):∀ (l:List Rule) (i:Nat) (x:Int),x∈deadI n i l→∃ j,∃ hj:j < l.length,x=((i+j:Nat):Int)∧leastB n.nds l[j].rw=false:=by
  intro l
  induction l with
  | nil=>intro i x hx; cases hx
  | cons r l ih =>
    intro i x hx
    simp only [deadI] at hx
    have hrest:x∈deadI n (i+1) l→∃ j,∃ hj:j < (r :: l).length,x=((i+j:Nat):Int)∧leastB n.nds (r :: l)[j].rw=false:=fun h=>by
      obtain ⟨j,hj,e1,e2⟩:=ih (i+1) x h
      exact ⟨j+1,by simp; omega,by rw [e1,show i+1+j=i+(j+1) by omega],e2⟩
    cases hc:leastB n.nds r.rw with
    | true=>rw [hc] at hx; exact hrest hx
    | false =>
      rw [hc,cond_false] at hx
      rcases List.mem_cons.1 hx with rfl | hx
      · exact ⟨0,by simp,rfl,hc⟩
      · exact hrest hx
theorem deadI_len' (n:Net):∀ (l:List Rule) (i:Nat),(deadI n i l).length≤l.length:=by
  intro l
  induction l with
  | nil=>intro i; simp [deadI]
  | cons r l ih =>
    intro i
    have:=ih (i+1)
    simp only [deadI,List.length_cons]
    cases leastB n.nds r.rw
    · simp only [cond_false,List.length_cons]; omega
    · simp only [cond_true]; omega
theorem runS_back {n : Net} {am : List ((List UInt8) × Int)} : ∀ (suf : List Rule) (out : List Int) (st : List (Int × Bool)) (z : List Int), (∀ a ∈ suf, 0 ≤ linkZ n a.rl ∧ linkZ n a.rl < (out.length : Int)) → runS n am suf out st = some z →
    (∀ r∈suf,List.any r.rw (failsM am)=false→mgetD kq_int st (linkZ n r.rl) d_bool=true→List.getD out (Int.toNat (linkZ n r.rl)) d_int=r.rs) ∧
    suf.Pairwise (fun a b=>List.any a.rw (failsM am)=false→List.any b.rw (failsM am)=false→linkZ n a.rl=linkZ n b.rl→a.rs=b.rs):=by
  intro suf
  induction suf with
  | nil=>intro out st z _ _; exact ⟨fun r hr=>(by cases hr),List.Pairwise.nil⟩
  | cons r suf ih =>
    intro out st z hz h
    simp only [runS] at h
    have hzs:∀ a∈suf,0≤linkZ n a.rl∧linkZ n a.rl < (out.length:Int):=fun a ha=>hz a (by simp [ha])
    obtain ⟨z1,z2⟩:=hz r (by simp)
    cases hf:List.any r.rw (failsM am) with
    | true =>
      rw [hf] at h
      obtain ⟨i1,i2⟩:=ih out st z hzs h
      refine ⟨fun r' hr' h1 h2 => ?_,List.pairwise_cons.2 ⟨fun b hb h1=>(by rw [hf] at h1; cases h1),i2⟩⟩
      rcases List.mem_cons.1 hr' with rfl | hr'
      · rw [hf] at h1; cases h1
      · exact i1 r' hr' h1 h2
    | false =>
      rw [hf] at h
      simp only [Bool.not_false,cond_true] at h
      cases hnc:(mgetD kq_int st (linkZ n r.rl) d_bool&&(List.getD out (Int.toNat (linkZ n r.rl)) d_int != r.rs)) with
      | true=>rw [hnc] at h; cases h
      | false =>
        rw [hnc,cond_false] at h
        obtain ⟨i1,i2⟩:=ih _ _ z (fun a ha=>by rw [List.length_set]; exact hzs a ha) h
        have hself:mgetD kq_int st (linkZ n r.rl) d_bool=true→List.getD out (Int.toNat (linkZ n r.rl)) d_int=r.rs:=fun e=>by
          rw [e,Bool.true_and] at hnc
          simpa using hnc
        have hput:∀ q:Int,mgetD kq_int (mput kq_int st (linkZ n r.rl) true) q d_bool=bif kq_int q (linkZ n r.rl) then true else mgetD kq_int st q d_bool:=fun q=>by
          unfold mgetD
          rw [mfind_put kq_int kq_int_iff]
          cases kq_int q (linkZ n r.rl)<;>rfl
        have hset:List.getD (List.set out (Int.toNat (linkZ n r.rl)) r.rs) (Int.toNat (linkZ n r.rl)) d_int=r.rs:=by
          rw [getD_lt (by rw [List.length_set]; omega)]
          simp
        have hsame:∀ b∈suf,List.any b.rw (failsM am)=false→linkZ n r.rl=linkZ n b.rl→r.rs=b.rs:=fun b hb h1 h2=>by
          have:=i1 b hb h1 (by rw [hput,(kq_int_iff _ _).2 h2.symm]; rfl)
          rw [← h2,hset] at this
          exact this
        refine ⟨fun r' hr' h1 h2 => ?_,List.pairwise_cons.2 ⟨fun b hb _ h1 h2=>hsame b hb h1 h2,i2⟩⟩
        rcases List.mem_cons.1 hr' with rfl | hr'
        · exact hself h2
        · by_cases e : linkZ n r.rl = linkZ n r'.rl
          · rw [← e] at h2 ⊢
            rw [hself h2]
            exact hsame r' hr' h1 e
          · have hk : kq_int (linkZ n r'.rl) (linkZ n r.rl) = false := by
              cases hh:kq_int (linkZ n r'.rl) (linkZ n r.rl) with
              | false=>rfl
              | true=>exact absurd ((kq_int_iff _ _).1 hh).symm e
            have:=i1 r' hr' h1 (by rw [hput,hk]; exact h2)
            obtain ⟨y1,y2⟩:=hzs r' hr'
            rw [← this]
            have hne:Int.toNat (linkZ n r.rl)≠Int.toNat (linkZ n r'.rl):=by omega
            simp [List.getD,List.getElem?_set_ne hne]
theorem pair_differ {n:Net} {am:List ((List UInt8)×Int)} {l:List Rule} {bf:List Int} (hz:∀ a∈l,0≤linkZ n a.rl∧linkZ n a.rl < (bf.length:Int)) {j k:Nat} (hj:j < l.length) (hk:k < l.length) (h1:List.any l[j].rw (failsM am)=false) (h2:List.any l[k].rw (failsM am)=false) (h3:l[j].rl=l[k].rl) (h4:l[j].rs≠l[k].rs):runS n am l bf []=none:=by
  cases h:runS n am l bf [] with
  | none=>rfl
  | some z =>
    obtain ⟨_,p⟩:=runS_back l bf [] z hz h
    rcases Nat.lt_trichotomy j k with e | e | e
    · exact absurd (List.pairwise_iff_getElem.1 p j k hj hk e h1 h2 (by rw [h3])) h4
    · subst e; exact absurd rfl h4
    · exact absurd (List.pairwise_iff_getElem.1 p k j hk hj e h2 h1 (by rw [h3])).symm h4
theorem setOk_z {l:List Rule} {n:Net} {v:List Int} (g1:rulesB l=true) (g2:netB n=true) (g3:knownB l n=true) (hv:v.length=n.nds.length):setOk l n v (List.replicate n.lks.length d_int)=true:=by
  unfold setOk
  rw [g1,g2,g3,hv,List.length_replicate,Nat.beq_refl,Nat.beq_refl]
  have:List.any (List.replicate n.lks.length d_int) notSet=false:=List.any_eq_false.2 fun x hx=>by
    have:=List.eq_of_mem_replicate hx
    subst this
    decide
  rw [this]
  rfl
theorem any_hold {l:List Rule} {n:Net} (hk:knownB l n=true) {v:List Int} (hv:v.length=n.nds.length) {r:Rule} (hr:r∈l):List.any r.rw (failsM (List.zip (namesL n) v)) = !(holdN (namesL n) v r.rw):=by
  have hl:(namesL n).length=v.length:=by rw [hv,namesL,List.length_map]
  unfold holdN
  rw [Bool.not_not]
  exact anyC fun c hc=>failsM_N hl (hasN_elem (known_elem hk r hr c hc))
namespace lawProves
noncomputable def bd:Code:=(Tryz.f11.body).getD .skip
noncomputable def X:Ctx U El:=⟨E,tds,zeros,eqs,specOf [(12,awake.sp),(14,witness.sp),(17,find.sp),(18,dead.sp),(29,ready.sp),(35,lp1C.sp),(39,levels.sp),(40,ufired.sp),(41,rnames.sp),(52,usettings.sp),(54,uHolds.sp)],100000,183,dspecOf [],fun _=>none⟩
noncomputable def nmR:Norm U:=⟨[],[6],[],[],[],[],[]⟩
noncomputable def RR:Kont U El:=fun st=>normK nmR st (retFin [6] [])
noncomputable def nm1:Norm U:=⟨[],[0,2,4],[4],[],[],[],[(4,0,.node),(4,1,.link)]⟩
noncomputable def nm2:Norm U:=⟨[(7,.str),(8,.pair),(10,.int)],[0,2,4,7,8,10],[7,8,10,4],[],[],[],[(4,0,.node),(4,1,.link)]⟩
noncomputable def nm3:Norm U:=⟨[(7,.str),(10,.int)],[0,2,4,7,10],[7,10,4],[],[],[],[(4,0,.node),(4,1,.link)]⟩
noncomputable def nm4:Norm U:=⟨[(7,.str),(10,.int),(62,.pair)],[0,2,4,7,10,62,63,64],[7,10,62,4],[],[],[],[(4,0,.node),(4,1,.link)]⟩
noncomputable def nm5:Norm U:=⟨[(7,.str),(10,.int),(62,.pair)],[0,2,4,7,10,62,63,64],[7,10,62,4],[],[],[],[(4,0,.node),(4,1,.link)]⟩
noncomputable def nm6:Norm U:=⟨[(7,.str),(10,.int),(14,.int),(62,.pair)],[0,2,4,7,10,13,14,62,63,64],[7,10,14,62,4,13],[],[],[],[(4,0,.node),(4,1,.link)]⟩
noncomputable def nm7:Norm U:=⟨[(7,.str),(10,.int),(14,.int),(62,.pair)],[0,2,4,7,10,13,14,62,63,64],[7,10,14,62,4,13],[],[],[],[(4,0,.node),(4,1,.link)]⟩
noncomputable def nm8:Norm U:=⟨[(7,.str),(10,.int),(14,.int),(62,.pair)],[0,2,4,7,10,13,14,62,63,64,88,89,90],[7,10,14,62,4,13],[],[],[],[(4,0,.node),(4,1,.link)]⟩
noncomputable def nm9:Norm U:=⟨[(7,.str),(10,.int),(14,.int),(62,.pair)],[0,2,4,7,10,13,14,62,63,64,88,89,90],[7,10,14,62,4,13],[],[],[],[(4,0,.node),(4,1,.link)]⟩
abbrev Y1:=(List Rule)→(List UInt32)→(List Node)→(List Lnk)→R
abbrev Y2:=(List Rule)→(List UInt32)→(List (List UInt8))→(List Pair)→(List Int)→(List Node)→(List Lnk)→R
abbrev Y3:=(List Rule)→(List UInt32)→(List (List UInt8))→(List Int)→(List Node)→(List Lnk)→R
abbrev Y4:=(List Rule)→(List UInt32)→(List (List UInt8))→(List Int)→(List Pair)→Int→Int→(List Node)→(List Lnk)→R
abbrev Y5:=(List Rule)→(List UInt32)→(List (List UInt8))→(List Int)→(List Pair)→Int→Int→(List Node)→(List Lnk)→R
abbrev Y6:=(List Rule)→(List UInt32)→(List (List UInt8))→(List Int)→(List Int)→(List Pair)→Int→Int→(List Node)→(List Lnk)→Pair→R
abbrev Y7:=(List Rule)→(List UInt32)→(List (List UInt8))→(List Int)→(List Int)→(List Pair)→Int→Int→(List Node)→(List Lnk)→Pair→R
abbrev Y8:=(List Rule)→(List UInt32)→(List (List UInt8))→(List Int)→(List Int)→(List Pair)→Int→Int→Int→Int→(List Node)→(List Lnk)→Pair→R
abbrev Y9:=(List Rule)→(List UInt32)→(List (List UInt8))→(List Int)→(List Int)→(List Pair)→Int→Int→Int→Int→(List Node)→(List Lnk)→Pair→R
noncomputable def fr0 (l:List Rule) (n:Net) (ats:List UInt32):St U El:=⟨[(0,(.lst .rule l)),(1,(.agg [(.lst .node n.nds),(.lst .link n.lks)])),(2,(.lst .u32 ats))],[]⟩
noncomputable def fr1 (l0:List Rule) (dA:List UInt32) (cA:List Node) (bA:List Lnk):St U El:=⟨[(0,(.lst .rule l0)),(2,(.lst .u32 dA)),(4,(.ptr 4 0))],[(4,(.box 0 [(.lst .node cA),(.lst .link bA)]))]⟩
noncomputable def fr2 (l0:List Rule) (dA:List UInt32) (aA:List (List UInt8)) (p8:List Pair) (eA:List Int) (cA:List Node) (bA:List Lnk):St U El:=⟨[(0,(.lst .rule l0)),(2,(.lst .u32 dA)),(4,(.ptr 4 0)),(7,(.ful 7)),(8,(.ful 8)),(10,(.ful 10))],[(7,(.rows .str aA)),(8,(.rows .pair p8)),(10,(.rows .int eA)),(4,(.box 0 [(.lst .node cA),(.lst .link bA)]))]⟩
noncomputable def fr3 (l0:List Rule) (dA:List UInt32) (aA:List (List UInt8)) (eA:List Int) (cA:List Node) (bA:List Lnk):St U El:=⟨[(0,(.lst .rule l0)),(2,(.lst .u32 dA)),(4,(.ptr 4 0)),(7,(.ful 7)),(10,(.ful 10))],[(7,(.rows .str aA)),(10,(.rows .int eA)),(4,(.box 0 [(.lst .node cA),(.lst .link bA)]))]⟩
noncomputable def fr4 (l0:List Rule) (dA:List UInt32) (aA:List (List UInt8)) (eA:List Int) (gA:List Pair) (iA:Int) (fA:Int) (cA:List Node) (bA:List Lnk):St U El:=⟨[(0,(.lst .rule l0)),(2,(.lst .u32 dA)),(4,(.ptr 4 0)),(7,(.ful 7)),(10,(.ful 10)),(62,(.ful 62)),(63,(.int .i64 iA)),(64,(.int .i64 fA))],[(7,(.rows .str aA)),(10,(.rows .int eA)),(62,(.rows .pair gA)),(4,(.box 0 [(.lst .node cA),(.lst .link bA)]))]⟩
noncomputable def fr5 (l0:List Rule) (dA:List UInt32) (aA:List (List UInt8)) (eA:List Int) (gA:List Pair) (iA:Int) (fA:Int) (cA:List Node) (bA:List Lnk):St U El:=⟨[(0,(.lst .rule l0)),(2,(.lst .u32 dA)),(4,(.ptr 4 0)),(7,(.ful 7)),(10,(.ful 10)),(62,(.ful 62)),(63,(.int .i64 iA)),(64,(.int .i64 fA))],[(7,(.rows .str aA)),(10,(.rows .int eA)),(62,(.rows .pair gA)),(4,(.box 0 [(.lst .node cA),(.lst .link bA)]))]⟩
noncomputable def fr6 (l0:List Rule) (dA:List UInt32) (aA:List (List UInt8)) (eA:List Int) (nA:List Int) (gA:List Pair) (iA:Int) (fA:Int) (cA:List Node) (bA:List Lnk) (mA:Pair):St U El:=⟨[(0,(.lst .rule l0)),(2,(.lst .u32 dA)),(4,(.ptr 4 0)),(7,(.ful 7)),(10,(.ful 10)),(13,(.ptr 13 0)),(14,(.ful 14)),(62,(.ful 62)),(63,(.int .i64 iA)),(64,(.int .i64 fA))],[(7,(.rows .str aA)),(10,(.rows .int eA)),(14,(.rows .int nA)),(62,(.rows .pair gA)),(4,(.box 0 [(.lst .node cA),(.lst .link bA)])),(13,(.box 0 [(.int .i64 mA.p0),(.int .i64 mA.p1)]))]⟩
noncomputable def fr7 (l0:List Rule) (dA:List UInt32) (aA:List (List UInt8)) (eA:List Int) (nA:List Int) (gA:List Pair) (iA:Int) (fA:Int) (cA:List Node) (bA:List Lnk) (mA:Pair):St U El:=⟨[(0,(.lst .rule l0)),(2,(.lst .u32 dA)),(4,(.ptr 4 0)),(7,(.ful 7)),(10,(.ful 10)),(13,(.ptr 13 0)),(14,(.ful 14)),(62,(.ful 62)),(63,(.int .i64 iA)),(64,(.int .i64 fA))],[(7,(.rows .str aA)),(10,(.rows .int eA)),(14,(.rows .int nA)),(62,(.rows .pair gA)),(4,(.box 0 [(.lst .node cA),(.lst .link bA)])),(13,(.box 0 [(.int .i64 mA.p0),(.int .i64 mA.p1)]))]⟩
noncomputable def fr8 (l0:List Rule) (dA:List UInt32) (aA:List (List UInt8)) (eA:List Int) (nA:List Int) (gA:List Pair) (iA:Int) (fA:Int) (rA:Int) (qA:Int) (cA:List Node) (bA:List Lnk) (mA:Pair):St U El:=⟨[(0,(.lst .rule l0)),(2,(.lst .u32 dA)),(4,(.ptr 4 0)),(7,(.ful 7)),(10,(.ful 10)),(13,(.ptr 13 0)),(14,(.ful 14)),(62,(.ful 62)),(63,(.int .i64 iA)),(64,(.int .i64 fA)),(88,(.ful 14)),(89,(.int .i64 rA)),(90,(.int .i64 qA))],[(7,(.rows .str aA)),(10,(.rows .int eA)),(14,(.rows .int nA)),(62,(.rows .pair gA)),(4,(.box 0 [(.lst .node cA),(.lst .link bA)])),(13,(.box 0 [(.int .i64 mA.p0),(.int .i64 mA.p1)]))]⟩
noncomputable def fr9 (l0:List Rule) (dA:List UInt32) (aA:List (List UInt8)) (eA:List Int) (nA:List Int) (gA:List Pair) (iA:Int) (fA:Int) (rA:Int) (qA:Int) (cA:List Node) (bA:List Lnk) (mA:Pair):St U El:=⟨[(0,(.lst .rule l0)),(2,(.lst .u32 dA)),(4,(.ptr 4 0)),(7,(.ful 7)),(10,(.ful 10)),(13,(.ptr 13 0)),(14,(.ful 14)),(62,(.ful 62)),(63,(.int .i64 iA)),(64,(.int .i64 fA)),(88,(.ful 14)),(89,(.int .i64 rA)),(90,(.int .i64 qA))],[(7,(.rows .str aA)),(10,(.rows .int eA)),(14,(.rows .int nA)),(62,(.rows .pair gA)),(4,(.box 0 [(.lst .node cA),(.lst .link bA)])),(13,(.box 0 [(.int .i64 mA.p0),(.int .i64 mA.p1)]))]⟩
noncomputable def sh0 (l:List Rule) (n:Net) (ats:List UInt32) (k1:Y1):R :=
  condB (!(true)) (some ((.bool false),[])) (condB (!(readyB l n)) (some ((.bool true),[])) (condB (ilt (20:Int) (Int.ofNat (List.length ats))) (some ((.bool true),[])) (k1 l ats n.nds n.lks)))
noncomputable def sh1 (l0:List Rule) (dA:List UInt32) (cA:List Node) (bA:List Lnk) (k2:Y2):R :=
  chk (okN (⟨cA,bA⟩:Net)) (chk (okN (⟨cA,bA⟩:Net)) (chk (okN (⟨cA,bA⟩:Net)) (condB ((givenZ l0 (⟨cA,bA⟩:Net)) != (0:Int)) (some ((.bool false),[])) (condB ((givenZ l0 (⟨cA,bA⟩:Net)) != (0:Int)) (some ((.bool false),[])) (condB (ilt (100:Int) (Int.ofNat (List.length (findL l0 (⟨cA,bA⟩:Net))))) (some ((.bool false),[])) (k2 l0 dA (namesL (⟨cA,bA⟩:Net)) (findL l0 (⟨cA,bA⟩:Net)) (deadL l0 (⟨cA,bA⟩:Net)) cA bA))))))
noncomputable def sh2 (l0:List Rule) (dA:List UInt32) (aA:List (List UInt8)) (p8:List Pair) (eA:List Int) (cA:List Node) (bA:List Lnk) (k4:Y4):R :=
  k4 l0 dA aA eA p8 (Int.ofNat (List.length p8)) (0:Int) cA bA
noncomputable def sh3 (l0:List Rule) (dA:List UInt32) (aA:List (List UInt8)) (eA:List Int) (cA:List Node) (bA:List Lnk):R :=
  chk ((okN (⟨cA,bA⟩:Net)&&levOkN (⟨cA,bA⟩:Net))) (chk ((rulesB l0&&(nle (List.length aA) 90000&&gvE l0 aA (levsL (Net.nds (⟨cA,bA⟩:Net)) dA) == 0))) (chk ((nle (List.length eA) 90000&&List.all eA (smallI (firedL l0 aA (levsL (Net.nds (⟨cA,bA⟩:Net)) dA))))) (some ((.bool (!(List.any eA (inI (firedL l0 aA (levsL (Net.nds (⟨cA,bA⟩:Net)) dA)))))),[]))))
noncomputable def sh4 (l0:List Rule) (dA:List UInt32) (aA:List (List UInt8)) (eA:List Int) (gA:List Pair) (iA:Int) (fA:Int) (cA:List Node) (bA:List Lnk) (k3:Y3) (k6:Y6):R :=
  condB (ilt fA iA) (chk (inb fA (List.length gA)) (chk (nlt (Int.toNat fA) (List.length gA)) (chk (okN (⟨cA,bA⟩:Net)) (condB ((witE l0 (⟨cA,bA⟩:Net) ((List.getD gA (Int.toNat fA) d_pair).p0) ((List.getD gA (Int.toNat fA) d_pair).p1)) != (0:Int)) (some ((.bool false),[])) (condB ((Int.ofNat (List.length (witL l0 (⟨cA,bA⟩:Net) ((List.getD gA (Int.toNat fA) d_pair).p0) ((List.getD gA (Int.toNat fA) d_pair).p1)))) != (Int.ofNat (List.length cA))) (some ((.bool false),[])) (k6 l0 dA aA eA (witL l0 (⟨cA,bA⟩:Net) ((List.getD gA (Int.toNat fA) d_pair).p0) ((List.getD gA (Int.toNat fA) d_pair).p1)) gA iA fA cA bA (List.getD gA (Int.toNat fA) d_pair))))))) (k3 l0 dA aA eA cA bA)
noncomputable def sh5 (l0:List Rule) (dA:List UInt32) (aA:List (List UInt8)) (eA:List Int) (gA:List Pair) (iA:Int) (fA:Int) (cA:List Node) (bA:List Lnk) (k4:Y4):R :=
  k4 l0 dA aA eA gA iA (IntKind.wrap .i64 (fA+(1:Int))) cA bA
noncomputable def sh6 (l0:List Rule) (dA:List UInt32) (aA:List (List UInt8)) (eA:List Int) (nA:List Int) (gA:List Pair) (iA:Int) (fA:Int) (cA:List Node) (bA:List Lnk) (mA:Pair) (k8:Y8):R :=
  k8 l0 dA aA eA nA gA iA fA (Int.ofNat (List.length nA)) (0:Int) cA bA mA
noncomputable def sh7 (l0:List Rule) (dA:List UInt32) (aA:List (List UInt8)) (eA:List Int) (nA:List Int) (gA:List Pair) (iA:Int) (fA:Int) (cA:List Node) (bA:List Lnk) (mA:Pair) (k5:Y5):R :=
  chk (inb mA.p0 (List.length l0)) (chk ((ruleB (List.getD l0 (Int.toNat mA.p0) d_rule)&&(nle (List.length aA) 90000&&gvE [(List.getD l0 (Int.toNat mA.p0) d_rule)] aA nA == 0))) (chk (inb mA.p1 (List.length l0)) (chk ((ruleB (List.getD l0 (Int.toNat mA.p1) d_rule)&&(nle (List.length aA) 90000&&gvE [(List.getD l0 (Int.toNat mA.p1) d_rule)] aA nA == 0))) (chk (ile 0 (Int.ofNat (List.length bA))&&ile (Int.ofNat (List.length bA)) (Int.ofNat (List.length bA))&&ile ((Int.ofNat (List.length bA)) * 8) 140737488355328) (chk ((okN (⟨cA,bA⟩:Net)&&setOk l0 (⟨cA,bA⟩:Net) nA (List.replicate (Int.toNat (Int.ofNat (List.length bA))) d_int))) (condB (!(uholdB (List.getD l0 (Int.toNat mA.p0) d_rule) aA nA)) (some ((.bool false),[])) (condB (!(uholdB (List.getD l0 (Int.toNat mA.p1) d_rule) aA nA)) (some ((.bool false),[])) (condB ((setsE l0 (⟨cA,bA⟩:Net) nA (List.replicate (Int.toNat (Int.ofNat (List.length bA))) d_int)) != (26:Int)) (some ((.bool false),[])) (k5 l0 dA aA eA gA iA fA cA bA)))))))))
noncomputable def sh8 (l0:List Rule) (dA:List UInt32) (aA:List (List UInt8)) (eA:List Int) (nA:List Int) (gA:List Pair) (iA:Int) (fA:Int) (rA:Int) (qA:Int) (cA:List Node) (bA:List Lnk) (mA:Pair) (k7:Y7) (k9:Y9):R :=
  condB (ilt qA rA) (chk (inb qA (List.length nA)) (chk (nlt (Int.toNat qA) (List.length nA)) (chk (inb qA (List.length cA)) (condB (ilt (List.getD nA (Int.toNat qA) d_int) ((List.getD cA (Int.toNat qA) d_node).ni)) (some ((.bool false),[])) (chk (inb qA (List.length cA)) (condB (ilt ((List.getD cA (Int.toNat qA) d_node).ng) (List.getD nA (Int.toNat qA) d_int)) (some ((.bool false),[])) (k9 l0 dA aA eA nA gA iA fA rA qA cA bA mA))))))) (k7 l0 dA aA eA nA gA iA fA cA bA mA)
noncomputable def sh9 (l0:List Rule) (dA:List UInt32) (aA:List (List UInt8)) (eA:List Int) (nA:List Int) (gA:List Pair) (iA:Int) (fA:Int) (rA:Int) (qA:Int) (cA:List Node) (bA:List Lnk) (mA:Pair) (k8:Y8):R :=
  k8 l0 dA aA eA nA gA iA fA rA (IntKind.wrap .i64 (qA+(1:Int))) cA bA mA
noncomputable def it4 (Kb3:Kont U El) (n:Nat):Kont U El:=iter nm4 (fun st' K'=>exec X (cdp [1,1,1,1,1,1,1,0,1,0,0] bd) (.seq none .d (.seq none .d (.seq (some nm5) (.block (.seq none .d (.seq none .d (.seq (some nm6) .d (.seq (some nm7) (.seq none .d (.block (.loop nm8 (.seq none .d (.seq none .d (.seq (some nm9) .d .d)))))) .d))))) .d))) st' K' (Eblk 0 (cutK nm3 Kb3) (fun _ _=>none)) RR) n
noncomputable def it8 (Kb3:Kont U El) (Kb5:Kont U El) (Kb7:Kont U El) (n:Nat):Kont U El:=iter nm8 (fun st' K'=>exec X (cdp [1,1,1,1,1,1,1,0,1,0,0,1,1,0,0,1,1,1,0,1,0,0] bd) (.seq none .d (.seq none .d (.seq (some nm9) .d .d))) st' K' (Eblk 2 (cutK nm7 Kb7) (Eblk 1 (cutK nm5 Kb5) (Eblk 0 (cutK nm3 Kb3) (fun _ _=>none)))) RR) n
noncomputable def ct1:Kont U El:=fun st=>exec X (cdp [1,1,1] bd) (.seq none .d (.seq none .d (.seq none .d (.seq (some nm2) .d (.seq (some nm3) (.seq none .d (.block (.loop nm4 (.seq none .d (.seq none .d (.seq (some nm5) (.block (.seq none .d (.seq none .d (.seq (some nm6) .d (.seq (some nm7) (.seq none .d (.block (.loop nm8 (.seq none .d (.seq none .d (.seq (some nm9) .d .d)))))) .d))))) .d)))))) .d))))) st RR (fun _ _=>none) RR
noncomputable def ct2:Kont U El:=fun st=>exec X (cdp [1,1,1,1,1,1,1] bd) (.seq (some nm3) (.seq none .d (.block (.loop nm4 (.seq none .d (.seq none .d (.seq (some nm5) (.block (.seq none .d (.seq none .d (.seq (some nm6) .d (.seq (some nm7) (.seq none .d (.block (.loop nm8 (.seq none .d (.seq none .d (.seq (some nm9) .d .d)))))) .d))))) .d)))))) .d) st RR (fun _ _=>none) RR
noncomputable def ct3:Kont U El:=fun st=>exec X (cdp [1,1,1,1,1,1,1,1] bd) .d st RR (fun _ _=>none) RR
noncomputable def ct5 (Kb3:Kont U El) (Kb4:Kont U El):Kont U El:=fun st=>exec X (cdp [1,1,1,1,1,1,1,0,1,0,0,1,1,1] bd) .d st (cutK nm4 Kb4) (Eblk 0 (cutK nm3 Kb3) (fun _ _=>none)) RR
noncomputable def ct6 (Kb3:Kont U El) (Kb5:Kont U El):Kont U El:=fun st=>exec X (cdp [1,1,1,1,1,1,1,0,1,0,0,1,1,0,0,1,1,1] bd) (.seq (some nm7) (.seq none .d (.block (.loop nm8 (.seq none .d (.seq none .d (.seq (some nm9) .d .d)))))) .d) st (cutK nm5 Kb5) (Eblk 1 (cutK nm5 Kb5) (Eblk 0 (cutK nm3 Kb3) (fun _ _=>none))) RR
noncomputable def ct7 (Kb3:Kont U El) (Kb5:Kont U El):Kont U El:=fun st=>exec X (cdp [1,1,1,1,1,1,1,0,1,0,0,1,1,0,0,1,1,1,1] bd) .d st (cutK nm5 Kb5) (Eblk 1 (cutK nm5 Kb5) (Eblk 0 (cutK nm3 Kb3) (fun _ _=>none))) RR
noncomputable def ct9 (Kb3:Kont U El) (Kb5:Kont U El) (Kb7:Kont U El) (Kb8:Kont U El):Kont U El:=fun st=>exec X (cdp [1,1,1,1,1,1,1,0,1,0,0,1,1,0,0,1,1,1,0,1,0,0,1,1,1] bd) .d st (cutK nm8 Kb8) (Eblk 2 (cutK nm7 Kb7) (Eblk 1 (cutK nm5 Kb5) (Eblk 0 (cutK nm3 Kb3) (fun _ _=>none)))) RR
theorem P0 (l n ats):exec X (cdp [] bd) (.seq none .d (.seq none .d (.seq (some nm1) .d (.seq none .d (.seq none .d (.seq none .d (.seq (some nm2) .d (.seq (some nm3) (.seq none .d (.block (.loop nm4 (.seq none .d (.seq none .d (.seq (some nm5) (.block (.seq none .d (.seq none .d (.seq (some nm6) .d (.seq (some nm7) (.seq none .d (.block (.loop nm8 (.seq none .d (.seq none .d (.seq (some nm9) .d .d)))))) .d))))) .d)))))) .d)))))))) (fr0 l n ats) RR (fun _ _=>none) RR=sh0 l n ats (fun y0 y1 y2 y3=>(hid ct1) (fr1 y0 y1 y2 y3)):=by kernel_rfl
theorem P1 (l0 dA cA bA):exec X (cdp [1,1,1] bd) (.seq none .d (.seq none .d (.seq none .d (.seq (some nm2) .d (.seq (some nm3) (.seq none .d (.block (.loop nm4 (.seq none .d (.seq none .d (.seq (some nm5) (.block (.seq none .d (.seq none .d (.seq (some nm6) .d (.seq (some nm7) (.seq none .d (.block (.loop nm8 (.seq none .d (.seq none .d (.seq (some nm9) .d .d)))))) .d))))) .d)))))) .d))))) (fr1 l0 dA cA bA) RR (fun _ _=>none) RR=sh1 l0 dA cA bA (fun y0 y1 y2 y3 y4 y5 y6=>(hid ct2) (fr2 y0 y1 y2 y3 y4 y5 y6)):=by kernel_rfl
theorem P2 (l0 dA aA p8 eA cA bA):exec X (cdp [1,1,1,1,1,1,1] bd) (.seq (some nm3) (.seq none .d (.block (.loop nm4 (.seq none .d (.seq none .d (.seq (some nm5) (.block (.seq none .d (.seq none .d (.seq (some nm6) .d (.seq (some nm7) (.seq none .d (.block (.loop nm8 (.seq none .d (.seq none .d (.seq (some nm9) .d .d)))))) .d))))) .d)))))) .d) (fr2 l0 dA aA p8 eA cA bA) RR (fun _ _=>none) RR=sh2 l0 dA aA p8 eA cA bA (fun y0 y1 y2 y3 y4 y5 y6 y7 y8=>(hid (it4 (hid ct3) 100000)) (fr4 y0 y1 y2 y3 y4 y5 y6 y7 y8)):=by kernel_rfl
theorem P3 (l0 dA aA eA cA bA):exec X (cdp [1,1,1,1,1,1,1,1] bd) .d (fr3 l0 dA aA eA cA bA) RR (fun _ _=>none) RR=sh3 l0 dA aA eA cA bA:=by kernel_rfl
theorem P4 (l0 dA aA eA gA iA fA cA bA) (Kb3:Kont U El) (Kb4:Kont U El):exec X (cdp [1,1,1,1,1,1,1,0,1,0,0] bd) (.seq none .d (.seq none .d (.seq (some nm5) (.block (.seq none .d (.seq none .d (.seq (some nm6) .d (.seq (some nm7) (.seq none .d (.block (.loop nm8 (.seq none .d (.seq none .d (.seq (some nm9) .d .d)))))) .d))))) .d))) (fr4 l0 dA aA eA gA iA fA cA bA) (cutK nm4 Kb4) (Eblk 0 (cutK nm3 Kb3) (fun _ _=>none)) RR=sh4 l0 dA aA eA gA iA fA cA bA (fun y0 y1 y2 y3 y4 y5=>Kb3 (fr3 y0 y1 y2 y3 y4 y5)) (fun y0 y1 y2 y3 y4 y5 y6 y7 y8 y9 y10=>(hid (ct6 Kb3 (hid (ct5 Kb3 Kb4)))) (fr6 y0 y1 y2 y3 y4 y5 y6 y7 y8 y9 y10)):=by kernel_rfl
theorem P5 (l0 dA aA eA gA iA fA cA bA) (Kb3:Kont U El) (Kb4:Kont U El):exec X (cdp [1,1,1,1,1,1,1,0,1,0,0,1,1,1] bd) .d (fr5 l0 dA aA eA gA iA fA cA bA) (cutK nm4 Kb4) (Eblk 0 (cutK nm3 Kb3) (fun _ _=>none)) RR=sh5 l0 dA aA eA gA iA fA cA bA (fun y0 y1 y2 y3 y4 y5 y6 y7 y8=>Kb4 (fr4 y0 y1 y2 y3 y4 y5 y6 y7 y8)):=by kernel_rfl
theorem P6 (l0 dA aA eA nA gA iA fA cA bA mA) (Kb3:Kont U El) (Kb5:Kont U El):exec X (cdp [1,1,1,1,1,1,1,0,1,0,0,1,1,0,0,1,1,1] bd) (.seq (some nm7) (.seq none .d (.block (.loop nm8 (.seq none .d (.seq none .d (.seq (some nm9) .d .d)))))) .d) (fr6 l0 dA aA eA nA gA iA fA cA bA mA) (cutK nm5 Kb5) (Eblk 1 (cutK nm5 Kb5) (Eblk 0 (cutK nm3 Kb3) (fun _ _=>none))) RR=sh6 l0 dA aA eA nA gA iA fA cA bA mA (fun y0 y1 y2 y3 y4 y5 y6 y7 y8 y9 y10 y11 y12=>(hid (it8 Kb3 Kb5 (hid (ct7 Kb3 Kb5)) 100000)) (fr8 y0 y1 y2 y3 y4 y5 y6 y7 y8 y9 y10 y11 y12)):=by kernel_rfl
theorem P7 (l0 dA aA eA nA gA iA fA cA bA mA) (Kb3:Kont U El) (Kb5:Kont U El):exec X (cdp [1,1,1,1,1,1,1,0,1,0,0,1,1,0,0,1,1,1,1] bd) .d (fr7 l0 dA aA eA nA gA iA fA cA bA mA) (cutK nm5 Kb5) (Eblk 1 (cutK nm5 Kb5) (Eblk 0 (cutK nm3 Kb3) (fun _ _=>none))) RR=sh7 l0 dA aA eA nA gA iA fA cA bA mA (fun y0 y1 y2 y3 y4 y5 y6 y7 y8=>Kb5 (fr5 y0 y1 y2 y3 y4 y5 y6 y7 y8)):=by kernel_rfl
theorem P8 (l0 dA aA eA nA gA iA fA rA qA cA bA mA) (Kb3:Kont U El) (Kb5:Kont U El) (Kb7:Kont U El) (Kb8:Kont U El):exec X (cdp [1,1,1,1,1,1,1,0,1,0,0,1,1,0,0,1,1,1,0,1,0,0] bd) (.seq none .d (.seq none .d (.seq (some nm9) .d .d))) (fr8 l0 dA aA eA nA gA iA fA rA qA cA bA mA) (cutK nm8 Kb8) (Eblk 2 (cutK nm7 Kb7) (Eblk 1 (cutK nm5 Kb5) (Eblk 0 (cutK nm3 Kb3) (fun _ _=>none)))) RR=sh8 l0 dA aA eA nA gA iA fA rA qA cA bA mA (fun y0 y1 y2 y3 y4 y5 y6 y7 y8 y9 y10=>Kb7 (fr7 y0 y1 y2 y3 y4 y5 y6 y7 y8 y9 y10)) (fun y0 y1 y2 y3 y4 y5 y6 y7 y8 y9 y10 y11 y12=>(hid (ct9 Kb3 Kb5 Kb7 Kb8)) (fr9 y0 y1 y2 y3 y4 y5 y6 y7 y8 y9 y10 y11 y12)):=by kernel_rfl
theorem P9 (l0 dA aA eA nA gA iA fA rA qA cA bA mA) (Kb3:Kont U El) (Kb5:Kont U El) (Kb7:Kont U El) (Kb8:Kont U El):exec X (cdp [1,1,1,1,1,1,1,0,1,0,0,1,1,0,0,1,1,1,0,1,0,0,1,1,1] bd) .d (fr9 l0 dA aA eA nA gA iA fA rA qA cA bA mA) (cutK nm8 Kb8) (Eblk 2 (cutK nm7 Kb7) (Eblk 1 (cutK nm5 Kb5) (Eblk 0 (cutK nm3 Kb3) (fun _ _=>none)))) RR=sh9 l0 dA aA eA nA gA iA fA rA qA cA bA mA (fun y0 y1 y2 y3 y4 y5 y6 y7 y8 y9 y10 y11 y12=>Kb8 (fr8 y0 y1 y2 y3 y4 y5 y6 y7 y8 y9 y10 y11 y12)):=by kernel_rfl
noncomputable def f3 (l0:List Rule) (dA:List UInt32) (aA:List (List UInt8)) (eA:List Int) (cA:List Node) (bA:List Lnk):R:=sh3 l0 dA aA eA cA bA
noncomputable def f5 (k4:Y4) (l0:List Rule) (dA:List UInt32) (aA:List (List UInt8)) (eA:List Int) (gA:List Pair) (iA:Int) (fA:Int) (cA:List Node) (bA:List Lnk):R:=sh5 l0 dA aA eA gA iA fA cA bA k4
noncomputable def f7 (k4:Y4) (l0:List Rule) (dA:List UInt32) (aA:List (List UInt8)) (eA:List Int) (nA:List Int) (gA:List Pair) (iA:Int) (fA:Int) (cA:List Node) (bA:List Lnk) (mA:Pair):R:=sh7 l0 dA aA eA nA gA iA fA cA bA mA (f5 k4)
noncomputable def f9 (k4:Y4) (k8:Y8) (l0:List Rule) (dA:List UInt32) (aA:List (List UInt8)) (eA:List Int) (nA:List Int) (gA:List Pair) (iA:Int) (fA:Int) (rA:Int) (qA:Int) (cA:List Node) (bA:List Lnk) (mA:Pair):R:=sh9 l0 dA aA eA nA gA iA fA rA qA cA bA mA k8
noncomputable def f8 (k4:Y4):Nat→Y8
  | 0=>fun _ _ _ _ _ _ _ _ _ _ _ _ _=>none
  | n+1=>fun l0 dA aA eA nA gA iA fA rA qA cA bA mA=>sh8 l0 dA aA eA nA gA iA fA rA qA cA bA mA (f7 k4) (f9 k4 (f8 k4 n))
noncomputable def f6 (k4:Y4) (l0:List Rule) (dA:List UInt32) (aA:List (List UInt8)) (eA:List Int) (nA:List Int) (gA:List Pair) (iA:Int) (fA:Int) (cA:List Node) (bA:List Lnk) (mA:Pair):R:=sh6 l0 dA aA eA nA gA iA fA cA bA mA (f8 k4 100000)
noncomputable def f4:Nat→Y4
  | 0=>fun _ _ _ _ _ _ _ _ _=>none
  | n+1=>fun l0 dA aA eA gA iA fA cA bA=>sh4 l0 dA aA eA gA iA fA cA bA f3 (f6 (f4 n))
noncomputable def f2 (l0:List Rule) (dA:List UInt32) (aA:List (List UInt8)) (p8:List Pair) (eA:List Int) (cA:List Node) (bA:List Lnk):R:=sh2 l0 dA aA p8 eA cA bA (f4 100000)
noncomputable def f1 (l0:List Rule) (dA:List UInt32) (cA:List Node) (bA:List Lnk):R:=sh1 l0 dA cA bA f2
noncomputable def f0 (l:List Rule) (n:Net) (ats:List UInt32):R:=sh0 l n ats f1
theorem T3 (l0 dA aA eA cA bA):(hid ct3) (fr3 l0 dA aA eA cA bA)=f3 l0 dA aA eA cA bA:=by
  refine (congrFun (hid_eq _) _).trans <| (P3 l0 dA aA eA cA bA).trans ?_
  show _=sh3 l0 dA aA eA cA bA
  rfl
theorem T5 (KL4:Kont U El) (k4:Y4) (h4:∀ l0 dA aA eA gA iA fA cA bA,KL4 (fr4 l0 dA aA eA gA iA fA cA bA)=k4 l0 dA aA eA gA iA fA cA bA) (l0 dA aA eA gA iA fA cA bA):(hid (ct5 (hid ct3) KL4)) (fr5 l0 dA aA eA gA iA fA cA bA)=f5 k4 l0 dA aA eA gA iA fA cA bA:=by
  refine (congrFun (hid_eq _) _).trans <| (P5 l0 dA aA eA gA iA fA cA bA (hid ct3) KL4).trans ?_
  show _=sh5 l0 dA aA eA gA iA fA cA bA k4
  simp only [h4]
theorem T7 (KL4:Kont U El) (k4:Y4) (h4:∀ l0 dA aA eA gA iA fA cA bA,KL4 (fr4 l0 dA aA eA gA iA fA cA bA)=k4 l0 dA aA eA gA iA fA cA bA) (l0 dA aA eA nA gA iA fA cA bA mA):(hid (ct7 (hid ct3) (hid (ct5 (hid ct3) KL4)))) (fr7 l0 dA aA eA nA gA iA fA cA bA mA)=f7 k4 l0 dA aA eA nA gA iA fA cA bA mA:=by
  refine (congrFun (hid_eq _) _).trans <| (P7 l0 dA aA eA nA gA iA fA cA bA mA (hid ct3) (hid (ct5 (hid ct3) KL4))).trans ?_
  show _=sh7 l0 dA aA eA nA gA iA fA cA bA mA (f5 k4)
  simp only [T5 KL4 k4 h4]
theorem T9 (KL4:Kont U El) (KL8:Kont U El) (k4:Y4) (k8:Y8) (h4:∀ l0 dA aA eA gA iA fA cA bA,KL4 (fr4 l0 dA aA eA gA iA fA cA bA)=k4 l0 dA aA eA gA iA fA cA bA) (h8:∀ l0 dA aA eA nA gA iA fA rA qA cA bA mA,KL8 (fr8 l0 dA aA eA nA gA iA fA rA qA cA bA mA)=k8 l0 dA aA eA nA gA iA fA rA qA cA bA mA) (l0 dA aA eA nA gA iA fA rA qA cA bA mA):(hid (ct9 (hid ct3) (hid (ct5 (hid ct3) KL4)) (hid (ct7 (hid ct3) (hid (ct5 (hid ct3) KL4)))) KL8)) (fr9 l0 dA aA eA nA gA iA fA rA qA cA bA mA)=f9 k4 k8 l0 dA aA eA nA gA iA fA rA qA cA bA mA:=by
  refine (congrFun (hid_eq _) _).trans <| (P9 l0 dA aA eA nA gA iA fA rA qA cA bA mA (hid ct3) (hid (ct5 (hid ct3) KL4)) (hid (ct7 (hid ct3) (hid (ct5 (hid ct3) KL4)))) KL8).trans ?_
  show _=sh9 l0 dA aA eA nA gA iA fA rA qA cA bA mA k8
  simp only [h8]
theorem T8 (KL4:Kont U El) (k4:Y4) (h4:∀ l0 dA aA eA gA iA fA cA bA,KL4 (fr4 l0 dA aA eA gA iA fA cA bA)=k4 l0 dA aA eA gA iA fA cA bA):∀ (n:Nat),∀ l0 dA aA eA nA gA iA fA rA qA cA bA mA,it8 (hid ct3) (hid (ct5 (hid ct3) KL4)) (hid (ct7 (hid ct3) (hid (ct5 (hid ct3) KL4)))) n (fr8 l0 dA aA eA nA gA iA fA rA qA cA bA mA)=f8 k4 n l0 dA aA eA nA gA iA fA rA qA cA bA mA:=by
  intro n
  induction n with
  | zero=>intros; rfl
  | succ n ih =>
    intro l0 dA aA eA nA gA iA fA rA qA cA bA mA
    refine (P8 l0 dA aA eA nA gA iA fA rA qA cA bA mA (hid ct3) (hid (ct5 (hid ct3) KL4)) (hid (ct7 (hid ct3) (hid (ct5 (hid ct3) KL4)))) (it8 (hid ct3) (hid (ct5 (hid ct3) KL4)) (hid (ct7 (hid ct3) (hid (ct5 (hid ct3) KL4)))) n)).trans ?_
    show _=sh8 l0 dA aA eA nA gA iA fA rA qA cA bA mA (f7 k4) (f9 k4 (f8 k4 n))
    simp only [T7 KL4 k4 h4,T9 KL4 (it8 (hid ct3) (hid (ct5 (hid ct3) KL4)) (hid (ct7 (hid ct3) (hid (ct5 (hid ct3) KL4)))) n) k4 (f8 k4 n) h4 ih]
theorem H8 (KL4:Kont U El) (k4:Y4) (h4:∀ l0 dA aA eA gA iA fA cA bA,KL4 (fr4 l0 dA aA eA gA iA fA cA bA)=k4 l0 dA aA eA gA iA fA cA bA) (l0 dA aA eA nA gA iA fA rA qA cA bA mA):hid (it8 (hid ct3) (hid (ct5 (hid ct3) KL4)) (hid (ct7 (hid ct3) (hid (ct5 (hid ct3) KL4)))) 100000) (fr8 l0 dA aA eA nA gA iA fA rA qA cA bA mA)=f8 k4 100000 l0 dA aA eA nA gA iA fA rA qA cA bA mA:=(congrFun (hid_eq _) _).trans (T8 KL4 k4 h4 100000 l0 dA aA eA nA gA iA fA rA qA cA bA mA)
theorem T6 (KL4:Kont U El) (k4:Y4) (h4:∀ l0 dA aA eA gA iA fA cA bA,KL4 (fr4 l0 dA aA eA gA iA fA cA bA)=k4 l0 dA aA eA gA iA fA cA bA) (l0 dA aA eA nA gA iA fA cA bA mA):(hid (ct6 (hid ct3) (hid (ct5 (hid ct3) KL4)))) (fr6 l0 dA aA eA nA gA iA fA cA bA mA)=f6 k4 l0 dA aA eA nA gA iA fA cA bA mA:=by
  refine (congrFun (hid_eq _) _).trans <| (P6 l0 dA aA eA nA gA iA fA cA bA mA (hid ct3) (hid (ct5 (hid ct3) KL4))).trans ?_
  show _=sh6 l0 dA aA eA nA gA iA fA cA bA mA (f8 k4 100000)
  simp only [H8 KL4 k4 h4]
theorem T4:∀ (n:Nat),∀ l0 dA aA eA gA iA fA cA bA,it4 (hid ct3) n (fr4 l0 dA aA eA gA iA fA cA bA)=f4 n l0 dA aA eA gA iA fA cA bA:=by
  intro n
  induction n with
  | zero=>intros; rfl
  | succ n ih =>
    intro l0 dA aA eA gA iA fA cA bA
    refine (P4 l0 dA aA eA gA iA fA cA bA (hid ct3) (it4 (hid ct3) n)).trans ?_
    show _=sh4 l0 dA aA eA gA iA fA cA bA f3 (f6 (f4 n))
    simp only [T3,T6 (it4 (hid ct3) n) (f4 n) ih]
theorem H4 (l0 dA aA eA gA iA fA cA bA):hid (it4 (hid ct3) 100000) (fr4 l0 dA aA eA gA iA fA cA bA)=f4 100000 l0 dA aA eA gA iA fA cA bA:=(congrFun (hid_eq _) _).trans (T4 100000 l0 dA aA eA gA iA fA cA bA)
theorem T2 (l0 dA aA p8 eA cA bA):(hid ct2) (fr2 l0 dA aA p8 eA cA bA)=f2 l0 dA aA p8 eA cA bA:=by
  refine (congrFun (hid_eq _) _).trans <| (P2 l0 dA aA p8 eA cA bA).trans ?_
  show _=sh2 l0 dA aA p8 eA cA bA (f4 100000)
  simp only [H4]
theorem T1 (l0 dA cA bA):(hid ct1) (fr1 l0 dA cA bA)=f1 l0 dA cA bA:=by
  refine (congrFun (hid_eq _) _).trans <| (P1 l0 dA cA bA).trans ?_
  show _=sh1 l0 dA cA bA f2
  simp only [T2]
theorem T0 (l n ats):exec X bd (.seq none .d (.seq none .d (.seq (some nm1) .d (.seq none .d (.seq none .d (.seq none .d (.seq (some nm2) .d (.seq (some nm3) (.seq none .d (.block (.loop nm4 (.seq none .d (.seq none .d (.seq (some nm5) (.block (.seq none .d (.seq none .d (.seq (some nm6) .d (.seq (some nm7) (.seq none .d (.block (.loop nm8 (.seq none .d (.seq none .d (.seq (some nm9) .d .d)))))) .d))))) .d)))))) .d)))))))) (fr0 l n ats) RR (fun _ _=>none) RR=f0 l n ats:=by
  refine (P0 l n ats).trans ?_
  show _=sh0 l n ats f1
  simp only [T1]
theorem run (l n ats):runFn X bd (.seq none .d (.seq none .d (.seq (some nm1) .d (.seq none .d (.seq none .d (.seq none .d (.seq (some nm2) .d (.seq (some nm3) (.seq none .d (.block (.loop nm4 (.seq none .d (.seq none .d (.seq (some nm5) (.block (.seq none .d (.seq none .d (.seq (some nm6) .d (.seq (some nm7) (.seq none .d (.block (.loop nm8 (.seq none .d (.seq none .d (.seq (some nm9) .d .d)))))) .d))))) .d)))))) .d)))))))) nmR [6] [] [(.lst .rule l),(.agg [(.lst .node n.nds),(.lst .link n.lks)]),(.lst .u32 ats)]=f0 l n ats:=T0 l n ats
theorem loop8 (k4 : Y4) (l : List Rule) (ats : List UInt32) (ns : List (List UInt8)) (d : List Int) (w : List Int) (P : List Pair) (L t : Int) (nds : List Node) (lks : List Lnk) (x : Pair) (hn : nds.length ≤ 90000) (hw : Poss nds w) (ho : ∀ x ∈ nds, levOkX x = true) : ∀ (n j : Nat), w.length < n + j → j ≤ w.length → f8 k4 n l ats ns d w P L t (Int.ofNat w.length) (j : Int) nds lks x = f7 k4 l ats ns d w P L t nds lks x := by
  have hwl:=hw.1
  intro n
  induction n with
  | zero=>intro j h1 h2; omega
  | succ n ih =>
    intro j h1 h2
    show sh8 l ats ns d w P L t (Int.ofNat w.length) (j:Int) nds lks x (f7 k4) (f9 k4 (f8 k4 n))=_
    unfold sh8
    by_cases hj:j < w.length
    · have hjn : j < nds.length := by omega
      obtain ⟨p1,p2⟩:=hw.2 j hjn hj
      have h5:=ho _ (List.getElem_mem hjn)
      simp only [levOkX,Bool.and_eq_true] at h5
      have h5:=ileI h5.2.2
      have q1:nds[j].ni≤w[j]∧w[j]≤nds[j].ng:=by
        rw [poss_slo] at p1
        refine ⟨p1,?_⟩
        unfold possS at p2
        cases hk:nds[j].nk == 3 with
        | true=>rw [hk,cond_true] at p2; exact Int.le_trans p2 h5
        | false=>rw [hk,cond_false] at p2; exact p2
      rw [iltT (by simp; omega),inbT hj,toNat_nat,nltT hj,inbT hjn,getD_lt hj,getD_lt hjn,iltF (by omega),iltF (by omega)]
      show f8 k4 n l ats ns d w P L t (Int.ofNat w.length) (IntKind.wrap .i64 ((j:Int)+1)) nds lks x=_
      rw [wrapS j (by omega)]
      exact ih (j+1) (by omega) hj
    · have : j = w.length := by omega
      subst this
      rw [iltF (by simp)]
      rfl
theorem loop4 (l : List Rule) (n0 : Net) (hn : okN n0 = true) (g1 : rulesB l = true) (g2 : netB n0 = true) (g3 : knownB l n0 = true) (ats : List UInt32) (d : List Int) (P : List Pair) (hP : P.length ≤ 90000) (hx : ∀ x ∈ P, ∃ j k, ∃ hj : j < l.length, ∃ hk : k < l.length, x = ⟨(j : Int), (k : Int)⟩ ∧ contraB n0 l[j] l[k] = true) : ∀ (n t : Nat), P.length < n + t → t ≤ P.length →
    f4 n l ats (namesL n0) d P (Int.ofNat P.length) (t:Int) n0.nds n0.lks=f3 l ats (namesL n0) d n0.nds n0.lks:=by
  have hnn:=nleI (okN_nds hn); have hnl:=nleI (okN_lks hn)
  have hn':okN (⟨n0.nds,n0.lks⟩:Net)=true:=hn
  have hnames:nle (namesL n0).length 90000=true:=by have:=okN_nds hn; simpa [namesL] using this
  intro n
  induction n with
  | zero=>intro t h1 h2; omega
  | succ n ih =>
    intro t h1 h2
    show sh4 l ats (namesL n0) d P (Int.ofNat P.length) (t:Int) n0.nds n0.lks f3 (f6 (f4 n))=_
    unfold sh4
    by_cases ht:t < P.length
    · obtain ⟨j, k, hj, hk, hp, hc⟩ := hx _ (List.getElem_mem ht)
      simp only [contraB,Bool.and_eq_true] at hc
      obtain ⟨c1,c2,c3⟩:=hc
      obtain ⟨o,ho⟩:=Option.isSome_iff_exists.1 c3
      obtain ⟨b1,b2⟩:=least_back _ _ o ho
      have hr1:rngB l (j:Int)=true:=by simp only [rngB,Bool.and_eq_true]; exact ⟨ileT (by omega),iltT (by simp; omega)⟩
      have hr2:rngB l (k:Int)=true:=by simp only [rngB,Bool.and_eq_true]; exact ⟨ileT (by omega),iltT (by simp; omega)⟩
      have hg:givenZ l n0=0:=by unfold givenZ; rw [g1,g2,g3]; rfl
      have hwO:witO l n0 (j:Int) (k:Int)=some o:=by unfold witO; rw [toNat_nat,toNat_nat,getD_lt hj,getD_lt hk]; exact ho
      have hwE:witE l (⟨n0.nds,n0.lks⟩:Net) (j:Int) (k:Int)=0:=by
        show witE l n0 _ _=0
        unfold witE; rw [hg,hr1,hr2,hwO]; rfl
      have hwL:witL l (⟨n0.nds,n0.lks⟩:Net) (j:Int) (k:Int)=o:=by
        show witL l n0 _ _=o
        unfold witL; rw [hg,hr1,hr2,hwO]; rfl
      have hol:=b1.1
      rw [iltT (by simp; omega),inbT ht,toNat_nat t,nltT ht,getD_lt ht,hp,hn']
      show chk true (chk true (chk true (condB (witE l (⟨n0.nds,n0.lks⟩:Net) (j:Int) (k:Int) != 0) _ (condB ((Int.ofNat (witL l (⟨n0.nds,n0.lks⟩:Net) (j:Int) (k:Int)).length) != (Int.ofNat n0.nds.length)) _ (f6 (f4 n) l ats (namesL n0) d (witL l (⟨n0.nds,n0.lks⟩:Net) (j:Int) (k:Int)) P (Int.ofNat P.length) (t:Int) n0.nds n0.lks ⟨(j:Int),(k:Int)⟩)))))=_
      rw [hwE,hwL,hol,show ((Int.ofNat n0.nds.length) != (Int.ofNat n0.nds.length))=false by simp]
      show f8 (f4 n) 100000 l ats (namesL n0) d o P (Int.ofNat P.length) (t:Int) (Int.ofNat o.length) ((0:Nat):Int) n0.nds n0.lks ⟨(j:Int),(k:Int)⟩=_
      rw [loop8 (f4 n) l ats (namesL n0) d o P _ _ n0.nds n0.lks _ hnn b1 (List.all_eq_true.1 (net_levOk g2)) 100000 0 (by omega) (by omega)]
      show sh7 l ats (namesL n0) d o P (Int.ofNat P.length) (t:Int) n0.nds n0.lks ⟨(j:Int),(k:Int)⟩ (f5 (f4 n))=_
      unfold sh7
      have hmj:=List.getElem_mem hj; have hmk:=List.getElem_mem hk
      have kn1:∀ r∈l,knownB [r] n0=true:=fun r hr=>by
        have:=List.all_eq_true.1 g3 r hr
        unfold knownB
        rw [List.all_cons,List.all_nil,this]; rfl
      have gj:(gvE [l[j]] (namesL n0) o == 0)=true:=gv_ok g2 (kn1 _ hmj) hol
      have gk:(gvE [l[k]] (namesL n0) o == 0)=true:=gv_ok g2 (kn1 _ hmk) hol
      have holdj:holdN (namesL n0) o l[j].rw=true:=sat_holds hol (fun c hc=>known_elem g3 _ hmj c hc) (fun c hc=>b2 c (List.mem_append_left _ hc))
      have holdk:holdN (namesL n0) o l[k].rw=true:=sat_holds hol (fun c hc=>known_elem g3 _ hmk c hc) (fun c hc=>b2 c (List.mem_append_right _ hc))
      have aj:List.any l[j].rw (failsM (List.zip (namesL n0) o))=false:=by rw [any_hold g3 hol hmj,holdj]; rfl
      have ak:List.any l[k].rw (failsM (List.zip (namesL n0) o))=false:=by rw [any_hold g3 hol hmk,holdk]; rfl
      have uj:uholdB l[j] (namesL n0) o=true:=by unfold uholdB; rw [aj]; rfl
      have uk:uholdB l[k] (namesL n0) o=true:=by unfold uholdB; rw [ak]; rfl
      have hset:setOk l (⟨n0.nds,n0.lks⟩:Net) o (List.replicate n0.lks.length d_int)=true:=setOk_z g1 g2 g3 hol
      have hE:setsE l (⟨n0.nds,n0.lks⟩:Net) o (List.replicate n0.lks.length d_int)=26:=by
        show setsE l n0 o _=26
        have:setsO l n0 o (List.replicate n0.lks.length d_int)=none:=pair_differ (fun a ha=>by
          rw [List.length_replicate]
          have:=link_in (known_link g3 a ha)
          exact ⟨this.1,this.2.1⟩) hj hk aj ak (by simpa using c1) (by simpa using c2)
        unfold setsE; rw [this]; rfl
      obtain ⟨q1,q2⟩:=rulesB_len g1
      have bj:inb (j:Int) l.length=true:=inbT hj
      have bk:inb (k:Int) l.length=true:=inbT hk
      show chk (inb (j:Int) l.length) (chk (ruleB (List.getD l (Int.toNat (j:Int)) d_rule)&&(nle (namesL n0).length 90000&&gvE [List.getD l (Int.toNat (j:Int)) d_rule] (namesL n0) o == 0)) (chk (inb (k:Int) l.length) (chk (ruleB (List.getD l (Int.toNat (k:Int)) d_rule)&&(nle (namesL n0).length 90000&&gvE [List.getD l (Int.toNat (k:Int)) d_rule] (namesL n0) o == 0)) (chk (ile 0 (Int.ofNat n0.lks.length)&&ile (Int.ofNat n0.lks.length) (Int.ofNat n0.lks.length)&&ile ((Int.ofNat n0.lks.length) * 8) 140737488355328) (chk (okN (⟨n0.nds,n0.lks⟩:Net)&&setOk l (⟨n0.nds,n0.lks⟩:Net) o (List.replicate n0.lks.length d_int)) (condB (!(uholdB (List.getD l (Int.toNat (j:Int)) d_rule) (namesL n0) o)) _ (condB (!(uholdB (List.getD l (Int.toNat (k:Int)) d_rule) (namesL n0) o)) _ (condB (setsE l (⟨n0.nds,n0.lks⟩:Net) o (List.replicate n0.lks.length d_int) != 26) _ (f5 (f4 n) l ats (namesL n0) d P (Int.ofNat P.length) (t:Int) n0.nds n0.lks)))))))))=_
      rw [bj,bk,toNat_nat,toNat_nat,getD_lt hj,getD_lt hk,q2 _ hmj,q2 _ hmk,hnames,gj,gk,uj,uk,hn',hset,hE,ileT (show (0:Int)≤Int.ofNat n0.lks.length by simp),ileT (show Int.ofNat n0.lks.length≤Int.ofNat n0.lks.length by omega),ileT (show (Int.ofNat n0.lks.length) * 8≤140737488355328 by simp; omega)]
      show f4 n l ats (namesL n0) d P (Int.ofNat P.length) (IntKind.wrap .i64 ((t:Int)+1)) n0.nds n0.lks=_
      rw [wrapS t (by omega)]
      exact ih (t+1) (by omega) ht
    · have : t = P.length := by omega
      subst this
      rw [iltF (by simp)]
      rfl
theorem f0_eq (l : List Rule) (n : Net) (ats : List UInt32) : f0 l n ats = outB true := by
  show sh0 l n ats f1=_
  unfold sh0
  cases hr:readyB l n with
  | false=>rfl
  | true =>
    obtain ⟨hl,hn,hg⟩:=ready_of hr
    obtain ⟨g1,g2,g3⟩:=given0 hg
    cases ilt 20 (Int.ofNat ats.length) with
    | true=>rfl
    | false =>
      show sh1 l ats n.nds n.lks f2=_
      unfold sh1
      have hn':okN (⟨n.nds,n.lks⟩:Net)=true:=hn
      have hg':givenZ l (⟨n.nds,n.lks⟩:Net)=0:=hg
      have hfl:findL l (⟨n.nds,n.lks⟩:Net)=findP l n:=by
        show findL l n=_
        unfold findL; rw [hg]; rfl
      have hdl:deadL l (⟨n.nds,n.lks⟩:Net)=deadI n 0 l:=by
        show deadL l n=_
        unfold deadL; rw [hg]; rfl
      have hl8:l.length≤8:=by
        have e1:=(rulesB_len g1).1
        simp only [largeB,Bool.or_eq_false_iff] at hl
        obtain ⟨_,_,h3,_⟩:=hl
        rw [ileT (show Int.ofNat l.length≤60 by simp; omega),Bool.and_true] at h3
        have:=iltN h3
        simp at this
        omega
      have hpl:(findP l n).length≤64:=by
        have e2:=findI_len' n l 0
        have e3:l.length * l.length≤8 * 8:=Nat.mul_le_mul hl8 hl8
        unfold findP
        omega
      rw [hn',hg',hfl,hdl,iltF (show ¬ (100:Int) < Int.ofNat (findP l n).length by simp; omega)]
      show f4 100000 l ats (namesL n) (deadI n 0 l) (findP l n) (Int.ofNat (findP l n).length) ((0:Nat):Int) n.nds n.lks=_
      rw [loop4 l n hn g1 g2 g3 ats (deadI n 0 l) (findP l n) (by omega) (fun x hx=>by
        obtain ⟨j,k,hj,hk,e1,e2⟩:=findI_back n l 0 x hx
        exact ⟨j,k,hj,hk,by rw [e1,Nat.zero_add,Nat.zero_add],e2⟩) 100000 0 (by omega) (by omega)]
      show sh3 l ats (namesL n) (deadI n 0 l) n.nds n.lks=_
      unfold sh3
      have hv:=levs_poss (net_levOk g2) ats
      have hlv:levOkN (⟨n.nds,n.lks⟩:Net)=true:=net_levOk g2
      have hnames:nle (namesL n).length 90000=true:=by have:=okN_nds hn; simpa [namesL] using this
      have hgv:(gvE l (namesL n) (levsL n.nds ats) == 0)=true:=gv_ok g2 g3 hv.1
      have hd:nle (deadI n 0 l).length 90000=true:=nleT (by have:=deadI_len' n l 0; omega)
      have hfl2:(firedL l (namesL n) (levsL n.nds ats)).length≤90000:=by
        have:=firedI_len (List.zip (namesL n) (levsL n.nds ats)) l 0
        unfold firedL
        omega
      have hsm:List.all (deadI n 0 l) (smallI (firedL l (namesL n) (levsL n.nds ats)))=true:=List.all_eq_true.2 fun x _=>nleT hfl2
      have hno:List.any (deadI n 0 l) (inI (firedL l (namesL n) (levsL n.nds ats)))=false:=List.any_eq_false.2 fun x hx hin=>by
        obtain ⟨j,hj,e1,e2⟩:=deadI_back n l 0 x hx
        obtain ⟨y,hy,exy⟩:=List.any_eq_true.1 hin
        have exy':x=y:=by simpa [eqInt] using exy
        subst exy'
        obtain ⟨a,ha,ea,fa⟩:=(fired_facts (List.zip (namesL n) (levsL n.nds ats)) l 0).2 x hy
        have haj:a=j:=by omega
        subst haj
        have hm:=List.getElem_mem ha
        rw [any_hold g3 hv.1 hm,Bool.not_eq_false'] at fa
        have:=least_ex n.nds (levsL n.nds ats) l[a].rw hv (fun c hc i hi hi' e=>holds_sat g2 fa c hc i hi hi' e)
        rw [this] at e2
        cases e2
      show chk (okN (⟨n.nds,n.lks⟩:Net)&&levOkN (⟨n.nds,n.lks⟩:Net)) (chk (rulesB l&&(nle (namesL n).length 90000&&gvE l (namesL n) (levsL n.nds ats) == 0)) _)=_
      rw [hn',hlv,g1,hnames,hgv]
      simp only [hd,hsm,hno,Bool.and_true,chkT,Bool.not_false]
      rfl
theorem ok:CtxOk Tryz.prog X:=ctxOk tab (spC awake.spOk (spC witness.spOk (spC find.spOk (spC dead.spOk (spC ready.spOk (spC lp1C.spOk (spC levels.spOk (spC ufired.spOk (spC rnames.spOk (spC usettings.spOk (spC uHolds.spOk spN))))))))))) dpN
theorem okM:MOk Tryz.prog X:=fun g sp h=>by cases h
theorem spec (l:List Rule) (n:Net) (ats:List UInt32):CallSpec Tryz.prog E 11 [(.lst .rule l),(.agg [(.lst .node n.nds),(.lst .link n.lks)]),(.lst .u32 ats)] (.bool (true)) [] :=
  runFn_sound ok okM Tryz.call11 Tryz.func11 (by kernel_rfl) (by kernel_rfl) (by kernel_rfl) (by show 3≤183; decide) (by decide) (by rfl) ((run l n ats).trans (f0_eq l n ats))
noncomputable def sp:Sp U El:=fun args k=>match args with
  | [.lst .rule l,.agg [.lst .node n_nds,.lst .link n_lks],.lst .u32 ats]=>k (.bool (true)) []
  | _=>none
theorem spOk:SpOk Tryz.prog E 11 sp where
  det:=fun vs=>by
    unfold sp
    split
    · exact ⟨some (_,_),fun _=>rfl⟩
    · exact ⟨none,fun _=>rfl⟩
  ok:=fun vs k r h=>by
    unfold sp at h
    split at h
    · exact ⟨_,_,spec _ ⟨_,_⟩ _,h⟩
    · cases h
end lawProves
end Go.Proofs.YthdimnlkcgchoaaGreat
