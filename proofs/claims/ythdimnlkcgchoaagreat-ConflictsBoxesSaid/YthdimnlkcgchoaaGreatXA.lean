/- Boxes of rules, and rules that hold together; the law ConflictsBoxes by its own run. -/
import Derived.Test.YthdimnlkcgchoaaGreatVP
import Derived.Test.YthdimnlkcgchoaaGreatSJ
import Derived.Test.YthdimnlkcgchoaaGreatGW
namespace Go.Proofs.YthdimnlkcgchoaaGreat
set_option linter.unusedSectionVars false
set_option linter.unusedSimpArgs false
set_option linter.unusedVariables false
set_option maxRecDepth 100000
theorem sle_iff (a b : List UInt8) : a ≤ b ↔ slt b a = false := by
  have key:∀ (a b:List UInt8),(slt a b=true)↔a < b:=by
    intro a
    induction a with
    | nil =>
      intro b
      cases b with
      | nil=>exact ⟨fun h=>by simp [slt,Op.bytesLess] at h,fun h=>absurd h (by simp)⟩
      | cons y b=>exact ⟨fun _=>List.nil_lt_cons y b,fun _=>rfl⟩
    | cons x a ih =>
      intro b
      cases b with
      | nil=>exact ⟨fun h=>by simp [slt,Op.bytesLess] at h,fun h=>absurd h (by simp)⟩
      | cons y b =>
        simp only [slt,Op.bytesLess,Bool.or_eq_true,Bool.and_eq_true,decide_eq_true_eq,beq_iff_eq,List.cons_lt_cons_iff]
        rw [← ih b]
        rfl
  rw [← List.not_lt,← key b a]
  simp
theorem sle_trans {a b c:List UInt8} (h1:a≤b) (h2:b≤c):a≤c:=by
  rw [sle_iff] at *
  cases h:slt c a with
  | false=>rfl
  | true =>
    cases h3:slt a b with
    | true=>rw [slt_trans h h3] at h2; cases h2
    | false=>rw [slt_total h3 h1] at h; rw [h] at h2; cases h2
theorem sle_total (a b:List UInt8):a≤b∨b≤a:=by
  rw [sle_iff,sle_iff]
  cases h:slt b a with
  | false=>exact .inl rfl
  | true =>
    cases h2:slt a b with
    | false=>exact .inr rfl
    | true=>have:=slt_trans h h2; rw [slt_irrefl] at this; cases this
theorem sle_antisymm {a b:List UInt8} (h1:a≤b) (h2:b≤a):a=b:=by
  rw [sle_iff] at *
  exact slt_total h2 h1
theorem sortS_asc (l:List (List UInt8)):(sortS l).Pairwise (· ≤ ·):=by
  have:=List.pairwise_mergeSort (le:=fun x y:List UInt8=>decide (x≤y)) (fun a b c h1 h2=>by simp only [decide_eq_true_eq] at *; exact sle_trans h1 h2) (fun a b=>by simpa using sle_total a b) l
  exact this.imp fun h=>by simpa using h
theorem sortS_perm (l:List (List UInt8)):(sortS l).Perm l:=List.mergeSort_perm l _
theorem sortS_len (l:List (List UInt8)):(sortS l).length=l.length:=(sortS_perm l).length_eq
noncomputable def compAS:List UInt8→List (List UInt8)→List (List UInt8)
  | _,[]=>[]
  | p,x :: l=>bif x == p then compAS p l else x :: compAS x l
noncomputable def compactS:List (List UInt8)→List (List UInt8)
  | []=>[]
  | x :: l=>x :: compAS x l
theorem compAS_len:∀ (l:List (List UInt8)) (p:List UInt8),(p :: l).Pairwise (· ≤ ·)→(compAS p l).length≤l.length∧((compAS p l).length=l.length↔(p :: l).Nodup):=by
  intro l
  induction l with
  | nil=>intro p _; exact ⟨Nat.le_refl _,by simp [compAS]⟩
  | cons y l ih =>
    intro p h
    obtain ⟨h1,h2⟩:=List.pairwise_cons.1 h
    unfold compAS
    by_cases e:y=p
    · subst e
      obtain ⟨i1,_⟩:=ih y h2
      rw [beq_self_eq_true,cond_true,List.length_cons]
      refine ⟨by omega,fun h=>by omega,fun h => ?_⟩
      have:=(List.nodup_cons.1 h).1
      exact absurd (List.mem_cons_self) this
    · obtain ⟨i1, i2⟩ := ih y h2
      rw [show (y == p)=false by simpa using e,cond_false,List.length_cons,List.length_cons,List.nodup_cons]
      refine ⟨by omega,fun h=>⟨fun hm => ?_,i2.1 (by omega)⟩,fun h=>by have:=i2.2 h.2; omega⟩
      rcases List.mem_cons.1 hm with rfl | hm
      · exact e rfl
      · exact e (sle_antisymm ((List.pairwise_cons.1 h2).1 p hm) (h1 y (by simp)))
noncomputable def dupB (l:List (List UInt8)):Bool := !(decide l.Nodup)
theorem dup_len (l:List (List UInt8)):ilt (Int.ofNat (compactS (sortS l)).length) (Int.ofNat l.length)=dupB l:=by
  have h1:=sortS_asc l
  have h2:=sortS_len l
  have h3:(sortS l).Nodup↔l.Nodup:=(sortS_perm l).nodup_iff
  unfold dupB
  generalize sortS l=s at *
  by_cases hn:l.Nodup
  · rw [decide_eq_true hn]
    refine iltF ?_
    cases s with
    | nil=>show ¬ ((0:Int) < (l.length:Int)); simp at h2; omega
    | cons p s =>
      have:=(compAS_len s p h1).2.2 (h3.2 hn)
      simp only [compactS,List.length_cons] at *
      simp; omega
  · rw [decide_eq_false hn]
    refine iltT ?_
    cases s with
    | nil=>exact absurd (h3.1 List.nodup_nil) hn
    | cons p s =>
      have hl:=compAS_len s p h1
      have:(compAS p s).length≠s.length:=fun e=>hn (h3.1 (hl.2.1 e))
      simp only [compactS,List.length_cons] at *
      have:=hl.1
      simp; omega
namespace cloneS
noncomputable def bd:Code:=(Tryz.f131.body).getD .skip
noncomputable def X:Ctx U El:=⟨E,tds,zeros,eqs,specOf [],100000,8,dspecOf [],fun _=>none⟩
noncomputable def nmR:Norm U:=⟨[(2,.str)],[2],[2],[],[],[],[]⟩
noncomputable def RR:Kont U El:=fun st=>normK nmR st (retFin [2] [2])
noncomputable def fr0 (l:List (List UInt8)):St U El:=⟨[(0,(.lst .str l))],[]⟩
noncomputable def sh0 (l:List (List UInt8)):R :=
  condB (nlt 0 (List.length l)) (chk (nle ((List.length ([]:List (List UInt8))+List.length l) * 16) 140737488355328&&nle (List.length ([]:List (List UInt8))+List.length l) 9223372036854775807) (some ((.ful 0),[(0,.rows .str (([]:List (List UInt8))++l))]))) (amb (some ((.ful 0),[(0,.rows .str ([]:List (List UInt8)))])) (chk (nle ((List.length ([]:List (List UInt8))+List.length l) * 16) 140737488355328&&nle (List.length ([]:List (List UInt8))+List.length l) 9223372036854775807) (some ((.ful 0),[(0,.rows .str (([]:List (List UInt8))++l))]))))
theorem P0 (l):exec X (cdp [] bd) .d (fr0 l) RR (fun _ _=>none) RR=sh0 l:=by kernel_rfl
noncomputable def f0 (l:List (List UInt8)):R:=sh0 l
theorem T0 (l):exec X bd .d (fr0 l) RR (fun _ _=>none) RR=f0 l:=by
  refine (P0 l).trans ?_
  show _=sh0 l
  rfl
theorem run (l):runFn X bd .d nmR [2] [2] [(.lst .str l)]=f0 l:=T0 l
theorem f0_eq (l:List (List UInt8)) (h:(nle (List.length l) 90000)=true):f0 l=some (.ful 0,[(0,.rows .str l)]):=by
  have hl:=nleI h
  show sh0 l=_
  unfold sh0
  have e1:nle ((List.length ([]:List (List UInt8))+List.length l) * 16) 140737488355328=true:=nleT (by simp; omega)
  have e2:nle (List.length ([]:List (List UInt8))+List.length l) 9223372036854775807=true:=nleT (by simp; omega)
  rw [e1,e2]
  cases l with
  | nil=>exact amb_same _
  | cons x l=>rfl
theorem ok:CtxOk Tryz.prog X:=ctxOk tab spN dpN
theorem okM:MOk Tryz.prog X:=fun g sp h=>by cases h
theorem spec (l:List (List UInt8)) (h:(nle (List.length l) 90000)=true):CallSpec Tryz.prog E 131 [(.lst .str l)] (.ful 0) [(0,.rows .str (l))] :=
  runFn_sound ok okM Tryz.call131 Tryz.func131 (by kernel_rfl) (by kernel_rfl) (by kernel_rfl) (by show 1≤8; decide) (by decide) (by rfl) ((run l).trans (f0_eq l h))
noncomputable def sp:Sp U El:=fun args k=>match args with
  | [.lst .str l]=>chk (nle (List.length l) 90000) (k (.ful 0) [(0,.rows .str (l))])
  | _=>none
theorem spOk:SpOk Tryz.prog E 131 sp where
  det:=fun vs=>by
    unfold sp
    split
    · exact det_c _ _ _
    · exact ⟨none,fun _=>rfl⟩
  ok:=fun vs k r h=>by
    unfold sp at h
    split at h
    · obtain ⟨h1, h2⟩ := chk_some h
      exact ⟨_,_,spec _ h1,h2⟩
    · cases h
end cloneS
theorem eqSt {x y:List UInt8} (h:(x == y)=true):x=y:=by simpa using h
namespace compactSt
noncomputable def bd:Code:=(Tryz.f133.body).getD .skip
noncomputable def X:Ctx U El:=⟨E,tds,zeros,eqs,specOf [],100000,61,dspecOf [],fun _=>none⟩
noncomputable def nmR:Norm U:=⟨[(2,.str)],[2],[2],[],[],[],[]⟩
noncomputable def RR:Kont U El:=fun st=>normK nmR st (retM [2])
noncomputable def nm1:Norm U:=⟨[],[0],[1000000000],[],[],[],[]⟩
noncomputable def nm2:Norm U:=⟨[],[0,3],[1000000000],[],[],[],[]⟩
noncomputable def nm3:Norm U:=⟨[],[0,3],[1000000000],[],[],[],[]⟩
noncomputable def nm4:Norm U:=⟨[],[0,3],[1000000000],[],[],[],[]⟩
noncomputable def nm5:Norm U:=⟨[],[0,3,4,5],[1000000000],[],[],[],[]⟩
noncomputable def nm6:Norm U:=⟨[],[0,3,4,5],[1000000000],[],[],[],[]⟩
abbrev Y1:=(List (List UInt8))→R
abbrev Y2:=Int→(List (List UInt8))→R
abbrev Y3:=Int→(List (List UInt8))→R
abbrev Y4:=Int→(List (List UInt8))→R
abbrev Y5:=Int→Nat→Nat→Int→(List (List UInt8))→R
abbrev Y6:=Int→Nat→Nat→Int→(List (List UInt8))→R
noncomputable def fr0 (l:List (List UInt8)):St U El:=⟨[(0,(.ful 1000000000))],[(1000000000,(.rows .str l))]⟩
noncomputable def fr1 (nA:List (List UInt8)):St U El:=⟨[(0,(.ful 1000000000))],[(1000000000,(.rows .str nA))]⟩
noncomputable def fr2 (oA:Int) (nA:List (List UInt8)):St U El:=⟨[(0,(.ful 1000000000)),(3,(.int .i64 oA))],[(1000000000,(.rows .str nA))]⟩
noncomputable def fr3 (oA:Int) (nA:List (List UInt8)):St U El:=⟨[(0,(.ful 1000000000)),(3,(.int .i64 oA))],[(1000000000,(.rows .str nA))]⟩
noncomputable def fr4 (oA:Int) (nA:List (List UInt8)):St U El:=⟨[(0,(.ful 1000000000)),(3,(.int .i64 oA))],[(1000000000,(.rows .str nA))]⟩
noncomputable def fr5 (oA:Int) (s24_lo:Nat) (s24_n:Nat) (uA:Int) (nA:List (List UInt8)):St U El:=⟨[(0,(.ful 1000000000)),(3,(.int .i64 oA)),(4,(.own 1000000000 s24_lo s24_n)),(5,(.int .i64 uA))],[(1000000000,(.rows .str nA))]⟩
noncomputable def fr6 (oA:Int) (s24_lo:Nat) (s24_n:Nat) (uA:Int) (nA:List (List UInt8)):St U El:=⟨[(0,(.ful 1000000000)),(3,(.int .i64 oA)),(4,(.own 1000000000 s24_lo s24_n)),(5,(.int .i64 uA))],[(1000000000,(.rows .str nA))]⟩
noncomputable def sh0 (l:List (List UInt8)) (k2:Y2):R :=
  condB (ilt (Int.ofNat (List.length l)) (2:Int)) (some ((.ful 2),[(2,.rows .str l)])) (k2 (1:Int) l)
noncomputable def sh1 (nA:List (List UInt8)):R :=
  some ((.ful 2),[(2,.rows .str nA)])
noncomputable def sh2 (oA:Int) (nA:List (List UInt8)) (k1:Y1) (k3:Y3) (k5:Y5):R :=
  condB (ilt oA (Int.ofNat (List.length nA))) (chk (inb oA (List.length nA)) (chk (nlt (Int.toNat oA) (List.length nA)) (chk (inb (IntKind.wrap .i64 (oA - (1:Int))) (List.length nA)) (chk (nlt (Int.toNat (IntKind.wrap .i64 (oA - (1:Int)))) (List.length nA)) (condB ((List.getD nA (Int.toNat oA) d_str) == (List.getD nA (Int.toNat (IntKind.wrap .i64 (oA - (1:Int)))) d_str)) (chk (ile 0 oA&&ile oA (Int.ofNat (List.length nA))&&ile (Int.ofNat (List.length nA)) (Int.ofNat (List.length nA))) (k5 oA (Int.toNat oA) (Int.toNat (Int.ofNat (List.length nA)) - (Int.toNat oA)) (1:Int) nA)) (k3 oA nA)))))) (k1 nA)
noncomputable def sh3 (oA:Int) (nA:List (List UInt8)) (k2:Y2):R :=
  k2 (IntKind.wrap .i64 (oA+(1:Int))) nA
noncomputable def sh4 (oA:Int) (nA:List (List UInt8)):R :=
  chk (ile 0 oA&&ile oA (Int.ofNat (List.length nA))&&ile (Int.ofNat (List.length nA)) (Int.ofNat (List.length nA))) (chk (true&&(nlt 0 (Int.toNat (Int.ofNat (List.length nA)) - (Int.toNat oA))&&nle ((Int.toNat oA)+(Int.toNat (Int.ofNat (List.length nA)) - (Int.toNat oA))) (List.length nA))) (chk (ile 0 (0:Int)&&ile (0:Int) oA&&ile oA (Int.ofNat (List.length (List.take (Int.toNat oA) nA++(List.replicate (Int.toNat (Int.ofNat (List.length nA)) - (Int.toNat oA)) d_str++List.drop ((Int.toNat oA)+(Int.toNat (Int.ofNat (List.length nA)) - (Int.toNat oA))) nA))))) (chk (true&&nlt 0 (Int.toNat oA - 0)) (some ((.ful 2),[(2,.rows .str (List.take (Int.toNat oA - 0) (List.take (Int.toNat oA) nA++(List.replicate (Int.toNat (Int.ofNat (List.length nA)) - (Int.toNat oA)) d_str++List.drop ((Int.toNat oA)+(Int.toNat (Int.ofNat (List.length nA)) - (Int.toNat oA))) nA))))])))))
noncomputable def sh5 (oA:Int) (s24_lo:Nat) (s24_n:Nat) (uA:Int) (nA:List (List UInt8)) (k4:Y4) (k6:Y6):R :=
  condB (ilt uA (Int.ofNat s24_n)) (chk (inb uA s24_n) (chk (nlt (s24_lo+(Int.toNat uA)) (List.length nA)) (chk (inb (IntKind.wrap .i64 (uA - (1:Int))) s24_n) (chk (nlt (s24_lo+(Int.toNat (IntKind.wrap .i64 (uA - (1:Int))))) (List.length nA)) (condB (!((List.getD nA (s24_lo+(Int.toNat uA)) d_str) == (List.getD nA (s24_lo+(Int.toNat (IntKind.wrap .i64 (uA - (1:Int))))) d_str))) (chk (inb uA s24_n) (chk (nlt (s24_lo+(Int.toNat uA)) (List.length nA)) (chk (inb oA (List.length nA)) (chk (nlt (Int.toNat oA) (List.length nA)&&true) (k6 (IntKind.wrap .i64 (oA+(1:Int))) s24_lo s24_n uA (List.set nA (Int.toNat oA) (List.getD nA (s24_lo+(Int.toNat uA)) d_str))))))) (k6 oA s24_lo s24_n uA nA)))))) (k4 oA nA)
noncomputable def sh6 (oA:Int) (s24_lo:Nat) (s24_n:Nat) (uA:Int) (nA:List (List UInt8)) (k5:Y5):R :=
  k5 oA s24_lo s24_n (IntKind.wrap .i64 (uA+(1:Int))) nA
noncomputable def it2 (Kb1:Kont U El) (n:Nat):Kont U El:=iter nm2 (fun st' K'=>exec X (cdp [1,1,0,1,0,0] bd) (.seq none .d (.seq (some nm3) (.block (.seq none .d (.cond (.seq none .d (.seq (some nm4) (.seq none .d (.block (.loop nm5 (.seq none .d (.seq (some nm6) .d .d))))) .d)) .d))) .d)) st' K' (Eblk 0 (cutK nm1 Kb1) (fun _ _=>none)) RR) n
noncomputable def it5 (Kb1 Kb3 Kb4:Kont U El) (n:Nat):Kont U El:=iter nm5 (fun st' K'=>exec X (cdp [1,1,0,1,0,0,1,0,0,1,0,1,0,1,0,0] bd) (.seq none .d (.seq (some nm6) .d .d)) st' K' (Eblk 2 (cutK nm4 Kb4) (Eblk 1 (cutK nm3 Kb3) (Eblk 0 (cutK nm1 Kb1) (fun _ _=>none)))) RR) n
noncomputable def ct1:Kont U El:=fun st=>exec X (cdp [1,1,1] bd) .d st RR (fun _ _=>none) RR
noncomputable def ct3 (Kb1 Kb2:Kont U El):Kont U El:=fun st=>exec X (cdp [1,1,0,1,0,0,1,1] bd) .d st (cutK nm2 Kb2) (Eblk 0 (cutK nm1 Kb1) (fun _ _=>none)) RR
noncomputable def ct4 (Kb1 Kb3:Kont U El):Kont U El:=fun st=>exec X (cdp [1,1,0,1,0,0,1,0,0,1,0,1,1] bd) .d st (cutK nm3 Kb3) (Eblk 1 (cutK nm3 Kb3) (Eblk 0 (cutK nm1 Kb1) (fun _ _=>none))) RR
noncomputable def ct6 (Kb1 Kb3 Kb4 Kb5:Kont U El):Kont U El:=fun st=>exec X (cdp [1,1,0,1,0,0,1,0,0,1,0,1,0,1,0,0,1,1] bd) .d st (cutK nm5 Kb5) (Eblk 2 (cutK nm4 Kb4) (Eblk 1 (cutK nm3 Kb3) (Eblk 0 (cutK nm1 Kb1) (fun _ _=>none)))) RR
theorem P0 (l):exec X (cdp [] bd) (.seq none .d (.seq none .d (.seq (some nm1) (.seq none .d (.block (.loop nm2 (.seq none .d (.seq (some nm3) (.block (.seq none .d (.cond (.seq none .d (.seq (some nm4) (.seq none .d (.block (.loop nm5 (.seq none .d (.seq (some nm6) .d .d))))) .d)) .d))) .d))))) .d))) (fr0 l) RR (fun _ _=>none) RR=sh0 l (fun y0 y1=>(hid (it2 (hid ct1) 100000)) (fr2 y0 y1)):=by kernel_rfl
theorem P1 (nA):ct1 (fr1 nA)=sh1 nA:=by kernel_rfl
theorem P2 (oA nA) (Kb1 Kb2:Kont U El):exec X (cdp [1,1,0,1,0,0] bd) (.seq none .d (.seq (some nm3) (.block (.seq none .d (.cond (.seq none .d (.seq (some nm4) (.seq none .d (.block (.loop nm5 (.seq none .d (.seq (some nm6) .d .d))))) .d)) .d))) .d)) (fr2 oA nA) (cutK nm2 Kb2) (Eblk 0 (cutK nm1 Kb1) (fun _ _=>none)) RR=sh2 oA nA (fun y0=>Kb1 (fr1 y0)) (fun y0 y1=>(hid (ct3 Kb1 Kb2)) (fr3 y0 y1)) (fun y0 y1 y2 y3 y4=>(hid (it5 Kb1 (hid (ct3 Kb1 Kb2)) (hid (ct4 Kb1 (hid (ct3 Kb1 Kb2)))) 100000)) (fr5 y0 y1 y2 y3 y4)):=by kernel_rfl
theorem P3 (oA nA) (Kb1 Kb2:Kont U El):ct3 Kb1 Kb2 (fr3 oA nA)=sh3 oA nA (fun y0 y1=>Kb2 (fr2 y0 y1)):=by kernel_rfl
theorem P4 (oA nA) (Kb1 Kb3:Kont U El):ct4 Kb1 Kb3 (fr4 oA nA)=sh4 oA nA:=by kernel_rfl
theorem P5 (oA s24_lo s24_n uA nA) (Kb1 Kb3 Kb4 Kb5:Kont U El):exec X (cdp [1,1,0,1,0,0,1,0,0,1,0,1,0,1,0,0] bd) (.seq none .d (.seq (some nm6) .d .d)) (fr5 oA s24_lo s24_n uA nA) (cutK nm5 Kb5) (Eblk 2 (cutK nm4 Kb4) (Eblk 1 (cutK nm3 Kb3) (Eblk 0 (cutK nm1 Kb1) (fun _ _=>none)))) RR=sh5 oA s24_lo s24_n uA nA (fun y0 y1=>Kb4 (fr4 y0 y1)) (fun y0 y1 y2 y3 y4=>(hid (ct6 Kb1 Kb3 Kb4 Kb5)) (fr6 y0 y1 y2 y3 y4)):=by kernel_rfl
theorem P6 (oA s24_lo s24_n uA nA) (Kb1 Kb3 Kb4 Kb5:Kont U El):ct6 Kb1 Kb3 Kb4 Kb5 (fr6 oA s24_lo s24_n uA nA)=sh6 oA s24_lo s24_n uA nA (fun y0 y1 y2 y3 y4=>Kb5 (fr5 y0 y1 y2 y3 y4)):=by kernel_rfl
noncomputable def f1 (nA:List (List UInt8)):R:=sh1 nA
noncomputable def f3 (k2:Y2) (oA:Int) (nA:List (List UInt8)):R:=sh3 oA nA k2
noncomputable def f4 (k2:Y2) (oA:Int) (nA:List (List UInt8)):R:=sh4 oA nA
noncomputable def f6 (k2:Y2) (k5:Y5) (oA:Int) (s24_lo:Nat) (s24_n:Nat) (uA:Int) (nA:List (List UInt8)):R:=sh6 oA s24_lo s24_n uA nA k5
noncomputable def f5 (k2:Y2):Nat→Y5
  | 0=>fun _ _ _ _ _=>none
  | n+1=>fun oA s24_lo s24_n uA nA=>sh5 oA s24_lo s24_n uA nA (f4 k2) (f6 k2 (f5 k2 n))
noncomputable def f2:Nat→Y2
  | 0=>fun _ _=>none
  | n+1=>fun oA nA=>sh2 oA nA f1 (f3 (f2 n)) (f5 (f2 n) 100000)
noncomputable def f0 (l:List (List UInt8)):R:=sh0 l (f2 100000)
theorem T1 (nA):(hid ct1) (fr1 nA)=f1 nA:=by
  refine (congrFun (hid_eq _) _).trans <| (P1 nA).trans ?_
  show _=sh1 nA
  rfl
theorem T3 (KL2:Kont U El) (k2:Y2) (h2:∀ oA nA,KL2 (fr2 oA nA)=k2 oA nA) (oA nA):(hid (ct3 (hid ct1) KL2)) (fr3 oA nA)=f3 k2 oA nA:=by
  refine (congrFun (hid_eq _) _).trans <| (P3 oA nA (hid ct1) KL2).trans ?_
  show _=sh3 oA nA k2
  simp only [h2]
theorem T4 (KL2:Kont U El) (k2:Y2) (h2:∀ oA nA,KL2 (fr2 oA nA)=k2 oA nA) (oA nA):(hid (ct4 (hid ct1) (hid (ct3 (hid ct1) KL2)))) (fr4 oA nA)=f4 k2 oA nA:=by
  refine (congrFun (hid_eq _) _).trans <| (P4 oA nA (hid ct1) (hid (ct3 (hid ct1) KL2))).trans ?_
  show _=sh4 oA nA
  rfl
theorem T6 (KL2:Kont U El) (KL5:Kont U El) (k2:Y2) (k5:Y5) (h2:∀ oA nA,KL2 (fr2 oA nA)=k2 oA nA) (h5:∀ oA s24_lo s24_n uA nA,KL5 (fr5 oA s24_lo s24_n uA nA)=k5 oA s24_lo s24_n uA nA) (oA s24_lo s24_n uA nA):(hid (ct6 (hid ct1) (hid (ct3 (hid ct1) KL2)) (hid (ct4 (hid ct1) (hid (ct3 (hid ct1) KL2)))) KL5)) (fr6 oA s24_lo s24_n uA nA)=f6 k2 k5 oA s24_lo s24_n uA nA:=by
  refine (congrFun (hid_eq _) _).trans <| (P6 oA s24_lo s24_n uA nA (hid ct1) (hid (ct3 (hid ct1) KL2)) (hid (ct4 (hid ct1) (hid (ct3 (hid ct1) KL2)))) KL5).trans ?_
  show _=sh6 oA s24_lo s24_n uA nA k5
  simp only [h5]
theorem T5 (KL2:Kont U El) (k2:Y2) (h2:∀ oA nA,KL2 (fr2 oA nA)=k2 oA nA):∀ (n:Nat),∀ oA s24_lo s24_n uA nA,it5 (hid ct1) (hid (ct3 (hid ct1) KL2)) (hid (ct4 (hid ct1) (hid (ct3 (hid ct1) KL2)))) n (fr5 oA s24_lo s24_n uA nA)=f5 k2 n oA s24_lo s24_n uA nA:=by
  intro n
  induction n with
  | zero=>intros; rfl
  | succ n ih =>
    intro oA s24_lo s24_n uA nA
    refine (P5 oA s24_lo s24_n uA nA (hid ct1) (hid (ct3 (hid ct1) KL2)) (hid (ct4 (hid ct1) (hid (ct3 (hid ct1) KL2)))) (it5 (hid ct1) (hid (ct3 (hid ct1) KL2)) (hid (ct4 (hid ct1) (hid (ct3 (hid ct1) KL2)))) n)).trans ?_
    show _=sh5 oA s24_lo s24_n uA nA (f4 k2) (f6 k2 (f5 k2 n))
    simp only [T4 KL2 k2 h2,T6 KL2 (it5 (hid ct1) (hid (ct3 (hid ct1) KL2)) (hid (ct4 (hid ct1) (hid (ct3 (hid ct1) KL2)))) n) k2 (f5 k2 n) h2 ih]
theorem H5 (KL2:Kont U El) (k2:Y2) (h2:∀ oA nA,KL2 (fr2 oA nA)=k2 oA nA) (oA s24_lo s24_n uA nA):hid (it5 (hid ct1) (hid (ct3 (hid ct1) KL2)) (hid (ct4 (hid ct1) (hid (ct3 (hid ct1) KL2)))) 100000) (fr5 oA s24_lo s24_n uA nA)=f5 k2 100000 oA s24_lo s24_n uA nA:=(congrFun (hid_eq _) _).trans (T5 KL2 k2 h2 100000 oA s24_lo s24_n uA nA)
theorem T2:∀ (n:Nat),∀ oA nA,it2 (hid ct1) n (fr2 oA nA)=f2 n oA nA:=by
  intro n
  induction n with
  | zero=>intros; rfl
  | succ n ih =>
    intro oA nA
    refine (P2 oA nA (hid ct1) (it2 (hid ct1) n)).trans ?_
    show _=sh2 oA nA f1 (f3 (f2 n)) (f5 (f2 n) 100000)
    simp only [T1,T3 (it2 (hid ct1) n) (f2 n) ih,H5 (it2 (hid ct1) n) (f2 n) ih]
theorem H2 (oA nA):hid (it2 (hid ct1) 100000) (fr2 oA nA)=f2 100000 oA nA:=(congrFun (hid_eq _) _).trans (T2 100000 oA nA)
theorem T0 (l):exec X bd (.seq none .d (.seq none .d (.seq (some nm1) (.seq none .d (.block (.loop nm2 (.seq none .d (.seq (some nm3) (.block (.seq none .d (.cond (.seq none .d (.seq (some nm4) (.seq none .d (.block (.loop nm5 (.seq none .d (.seq (some nm6) .d .d))))) .d)) .d))) .d))))) .d))) (fr0 l) RR (fun _ _=>none) RR=f0 l:=by
  refine (P0 l).trans ?_
  show _=sh0 l (f2 100000)
  simp only [H2]
theorem run (l):runM X bd (.seq none .d (.seq none .d (.seq (some nm1) (.seq none .d (.block (.loop nm2 (.seq none .d (.seq (some nm3) (.block (.seq none .d (.cond (.seq none .d (.seq (some nm4) (.seq none .d (.block (.loop nm5 (.seq none .d (.seq (some nm6) .d .d))))) .d)) .d))) .d))))) .d))) nmR [2] [(1000000000,(.rows .str l))] [(.ful 1000000000)]=f0 l:=T0 l
noncomputable def outZ (z:List (List UInt8)):R:=some (.ful 2,[(2,.rows .str z)])
theorem fin (K:Int→List (List UInt8)→R) (hr:List (List UInt8)) (k:Nat) (h0:0 < k) (h1:k < hr.length) (h2:hr.length≤1000000):f4 K (k:Int) hr=outZ (hr.take k):=by
  have hlen:(List.take k hr++(List.replicate (hr.length - k) d_str++List.drop (k+(hr.length - k)) hr)).length=hr.length:=by simp; omega
  show sh4 (k:Int) hr=_
  unfold sh4
  simp only [toNat_nat,show Int.toNat (Int.ofNat hr.length)=hr.length from rfl,hlen,Nat.sub_zero]
  rw [ileT (show (0:Int)≤(k:Int) by omega),ileT (show (k:Int)≤Int.ofNat hr.length by simp; omega),ileT (Int.le_refl (Int.ofNat hr.length)),nltT (show 0 < hr.length - k by omega),nleT (show k+(hr.length - k)≤hr.length by omega),ileT (Int.le_refl 0),nltT h0]
  have:List.take k (List.take k hr++(List.replicate (hr.length - k) d_str++List.drop (k+(hr.length - k)) hr))=List.take k hr:=by
    rw [List.take_append_of_le_length (by simp; omega),List.take_take,Nat.min_self]
  exact congrArg outZ this
theorem inner (K : Int → List (List UInt8) → R) (lo cnt : Nat) (hlo : 0 < lo) : ∀ (n m k : Nat) (hr : List (List UInt8)), cnt < n + m → 1 ≤ m → m ≤ cnt → lo + cnt = hr.length → 0 < k → k + 1 ≤ lo + m → hr.length ≤ 1000000 →
    f5 K n (k:Int) lo cnt (m:Int) hr=outZ (hr.take k++compAS (hr.getD (lo+m - 1) d_str) (hr.drop (lo+m))):=by
  intro n
  induction n with
  | zero=>intro m k hr h1 _ h2; omega
  | succ n ih =>
    intro m k hr h1 h2 h3 h4 h5 h6 h7
    show sh5 (k:Int) lo cnt (m:Int) hr (f4 K) (f6 K (f5 K n))=_
    unfold sh5
    by_cases hm:m=cnt
    · rw [iltF (show ¬ (m : Int) < Int.ofNat cnt by simp; omega)]
      show f4 K (k:Int) hr=_
      rw [fin K hr k h5 (by omega) h7,List.drop_eq_nil_of_le (by omega)]
      exact congrArg outZ (List.append_nil _).symm
    · have hi : lo + m < hr.length := by omega
      have hp:lo+(m - 1) < hr.length:=by omega
      have hk:k < hr.length:=by omega
      rw [iltT (show (m:Int) < Int.ofNat cnt by simp; omega),wrapP m h2 (by omega)]
      simp only [toNat_nat]
      rw [inbT (show m < cnt by omega),nltT hi,inbT (show m - 1 < cnt by omega),nltT hp,inbT hk,nltT hk]
      rw [show lo+m - 1=lo+(m - 1) by omega,getD_lt hi,getD_lt hp,drop_lt hi]
      show condB (!((hr[lo+m] == hr[lo+(m - 1)]))) _ _=_
      unfold compAS
      cases he:(hr[lo+m] == hr[lo+(m - 1)])
      · show f5 K n (IntKind.wrap .i64 ((k : Int) + 1)) lo cnt (IntKind.wrap .i64 ((m : Int) + 1)) (List.set hr k hr[lo + m]) = _
        rw [wrapS k (by omega),wrapS m (by omega),ih (m+1) (k+1) (List.set hr k hr[lo+m]) (by omega) (by omega) (by omega) (by simp; omega) (by omega) (by omega) (by simpa using h7)]
        have e1:List.take (k+1) (List.set hr k hr[lo+m])=List.take k hr++[hr[lo+m]]:=by
          rw [List.take_add_one,List.take_set_of_le (Nat.le_refl k),List.getElem?_set_self hk]
          rfl
        have e2:(List.set hr k hr[lo+m]).getD (lo+(m+1) - 1) d_str=hr[lo+m]:=by
          rw [show lo+(m+1) - 1=lo+m by omega,getD_lt (by simpa using hi),List.getElem_set_ne (by omega)]
        have e3:List.drop (lo+(m+1)) (List.set hr k hr[lo+m])=List.drop (lo+m+1) hr:=by
          rw [List.drop_set_of_lt (by omega)]
          rfl
        rw [e1,e2,e3,List.append_assoc]
        rfl
      · show f5 K n (k : Int) lo cnt (IntKind.wrap .i64 ((m : Int) + 1)) hr = _
        rw [wrapS m (by omega),ih (m+1) k hr (by omega) (by omega) (by omega) h4 h5 (by omega) h7]
        rw [show lo+(m+1) - 1=lo+m by omega,getD_lt hi,eqSt he]
        rfl
theorem outer : ∀ (n k : Nat) (hr : List (List UInt8)), hr.length < n + k → 1 ≤ k → k ≤ hr.length → hr.length ≤ 4000 →
    f2 n (k:Int) hr=outZ (hr.take k++compAS (hr.getD (k - 1) d_str) (hr.drop k)):=by
  intro n
  induction n with
  | zero=>intro k hr h1 _ h2; omega
  | succ n ih =>
    intro k hr h1 h2 h3 h4
    show sh2 (k:Int) hr f1 (f3 (f2 n)) (f5 (f2 n) 100000)=_
    unfold sh2
    by_cases hk:k=hr.length
    · rw [iltF (show ¬ (k : Int) < Int.ofNat hr.length by simp; omega), List.drop_eq_nil_of_le (by omega), List.take_of_length_le (by omega)]
      exact congrArg outZ (List.append_nil _).symm
    · have hkl : k < hr.length := by omega
      have hp:k - 1 < hr.length:=by omega
      rw [iltT (show (k:Int) < Int.ofNat hr.length by simp; omega),wrapP k h2 (by omega)]
      simp only [toNat_nat]
      rw [inbT hkl,nltT hkl,inbT hp,nltT hp,getD_lt hkl,getD_lt hp,drop_lt hkl]
      show condB ((hr[k] == hr[k - 1])) _ _=_
      unfold compAS
      cases he:(hr[k] == hr[k - 1])
      · show f2 n (IntKind.wrap .i64 ((k : Int) + 1)) hr = _
        rw [wrapS k (by omega),ih (k+1) hr (by omega) (by omega) (by omega) h4,show k+1 - 1=k by omega,getD_lt hkl,List.take_add_one,List.getElem?_eq_getElem hkl,List.append_assoc]
        rfl
      · show chk (ile 0 (k : Int) && ile (k : Int) (Int.ofNat hr.length) && ile (Int.ofNat hr.length) (Int.ofNat hr.length)) (f5 (f2 n) 100000 (k : Int) k (hr.length - k) (1 : Int) hr) = _
        rw [ileT (show (0:Int)≤(k:Int) by omega),ileT (show (k:Int)≤Int.ofNat hr.length by simp; omega),ileT (Int.le_refl (Int.ofNat hr.length))]
        show f5 (f2 n) 100000 (k:Int) k (hr.length - k) ((1:Nat):Int) hr=_
        rw [inner (f2 n) k (hr.length - k) (by omega) 100000 1 k hr (by omega) (by omega) (by omega) (by omega) (by omega) (by omega) (by omega)]
        rw [show k+1 - 1=k by omega,getD_lt hkl,eqSt he]
        rfl
theorem f0_eq (l:List (List UInt8)) (h:nle (List.length l) 4000=true):f0 l=outZ (compactS l):=by
  have hl:l.length≤4000:=of_decide_eq_true h
  show sh0 l (f2 100000)=_
  unfold sh0
  match l,hl with
  | [],_=>rfl
  | [x],_=>rfl
  | x :: y :: l, hl =>
    rw [iltF (show ¬ Int.ofNat (x :: y :: l).length < 2 by simp; omega)]
    show f2 100000 ((1:Nat):Int) (x :: y :: l)=_
    rw [outer 100000 1 (x :: y :: l) (by simp only [List.length_cons] at hl ⊢; omega) (Nat.le_refl _) (by simp) hl]
    rfl
theorem ok:CtxOk Tryz.prog X:=ctxOk tab spN dpN
theorem okM:MOk Tryz.prog X:=fun g sp h=>by cases h
theorem spec (l:List (List UInt8)) (h:(nle (List.length l) 4000)=true):MCall Tryz.prog E 133 [(.ful 1000000000)] [(1000000000,(.rows .str l))] (.ful 2) [(2,(.rows .str (compactS l)))] :=
  runM_sound ok okM Tryz.func133 (by kernel_rfl) (by kernel_rfl) (by kernel_rfl) (by show 1≤61; decide) ((run l).trans (f0_eq l h))
noncomputable def sp:MSp U El:=fun args hs k=>match args,hs with
  | [.ful q0],[(q1,.rows .str l)]=>chk (Nat.beq q0 1000000000&&(Nat.beq q1 1000000000&&true)) (chk (nle (List.length l) 4000) (k (.ful 2) [(2,(.rows .str (compactS l)))]))
  | _,_=>none
theorem spOk:MSpOk Tryz.prog E 133 sp:=⟨Tryz.call133,fun args hs k r h=>by
  unfold sp at h
  split at h
  · obtain ⟨hq, hA⟩ := chk_some h
    clear h
    simp only [Bool.and_eq_true] at hq
    obtain ⟨e0,e1,_⟩:=hq
    cases Nat.eq_of_beq_eq_true e0
    cases Nat.eq_of_beq_eq_true e1
    obtain ⟨h1,hB⟩:=chk_some hA
    exact ⟨_,_,spec _ h1,hB⟩
  · cases h⟩
theorem spDet:∀ args hs,∃ oo:Option (AV U El×Heap U El),∀ k,sp args hs k=oo.bind fun p=>k p.1 p.2:=fun args hs=>by
  unfold sp
  split
  · exact det_chkM (det_chkM ⟨some (_,_),fun _=>rfl⟩)
  · exact ⟨none,fun _=>rfl⟩
end compactSt
namespace twice
noncomputable def bd:Code:=(Tryz.f92.body).getD .skip
noncomputable def X:Ctx U El:=⟨E,tds,zeros,eqs,specOf [(131,cloneS.sp)],100000,14,dspecOf [],mspecOf [(132,sortSSp),(133,(mcSp compactSt.sp))]⟩
noncomputable def nmR:Norm U:=⟨[],[2],[],[],[],[],[]⟩
noncomputable def RR:Kont U El:=fun st=>normK nmR st (retFin [2] [])
noncomputable def fr0 (l:List (List UInt8)):St U El:=⟨[(0,(.lst .str l))],[]⟩
noncomputable def sh0 (l:List (List UInt8)):R :=
  chk (nle (List.length l) 90000) (chk (nle (List.length (l)) 100000) (chk (nle (List.length (sortS (l))) 4000) (some ((.bool (ilt (Int.ofNat (List.length (compactS (sortS (l))))) (Int.ofNat (List.length l)))),[]))))
theorem P0 (l):exec X (cdp [] bd) .d (fr0 l) RR (fun _ _=>none) RR=sh0 l:=by kernel_rfl
noncomputable def f0 (l:List (List UInt8)):R:=sh0 l
theorem T0 (l):exec X bd .d (fr0 l) RR (fun _ _=>none) RR=f0 l:=by
  refine (P0 l).trans ?_
  show _=sh0 l
  rfl
theorem run (l):runFn X bd .d nmR [2] [] [(.lst .str l)]=f0 l:=T0 l
theorem f0_eq (l:List (List UInt8)) (h:nle (List.length l) 4000=true):f0 l=outB (dupB l):=by
  have hl:=nleI h
  show sh0 l=_
  unfold sh0
  rw [dup_len,sortS_len,h,nleT (show l.length≤90000 by omega),nleT (show l.length≤100000 by omega)]
  rfl
theorem ok:CtxOk Tryz.prog X:=ctxOk tab (spC cloneS.spOk spN) dpN
theorem okM:MOk Tryz.prog X:=mspecOf_ok _ (mpC (sortSOk rfl ok) (mpC (mcSp_ok ok compactSt.spOk) mpN))
theorem spec (l:List (List UInt8)) (h:(nle (List.length l) 4000)=true):CallSpec Tryz.prog E 92 [(.lst .str l)] (.bool (dupB l)) [] :=
  runFn_sound ok okM Tryz.call92 Tryz.func92 (by kernel_rfl) (by kernel_rfl) (by kernel_rfl) (by show 1≤14; decide) (by decide) (by rfl) ((run l).trans (f0_eq l h))
noncomputable def sp:Sp U El:=fun args k=>match args with
  | [.lst .str l]=>chk (nle (List.length l) 4000) (k (.bool (dupB l)) [])
  | _=>none
theorem spOk:SpOk Tryz.prog E 92 sp where
  det:=fun vs=>by
    unfold sp
    split
    · exact det_c _ _ _
    · exact ⟨none,fun _=>rfl⟩
  ok:=fun vs k r h=>by
    unfold sp at h
    split at h
    · obtain ⟨h1, h2⟩ := chk_some h
      exact ⟨_,_,spec _ h1,h2⟩
    · cases h
end twice
noncomputable def eqStr (x y:List UInt8):Bool:=x == y
namespace idxS
noncomputable def bd:Code:=(Tryz.f134.body).getD .skip
noncomputable def X:Ctx U El:=⟨E,tds,zeros,eqs,specOf [],100000,19,dspecOf [],fun _=>none⟩
noncomputable def nmR:Norm U:=⟨[],[4],[],[],[],[],[]⟩
noncomputable def RR:Kont U El:=fun st=>normK nmR st (retFin [4] [])
noncomputable def nm1:Norm U:=⟨[],[],[],[],[],[],[]⟩
noncomputable def nm2:Norm U:=⟨[],[0,1,7,8],[],[],[],[],[]⟩
abbrev Y1:=R
abbrev Y2:=(List (List UInt8))→(List UInt8)→Int→Int→R
noncomputable def fr0 (l:List (List UInt8)) (x:List UInt8):St U El:=⟨[(0,(.lst .str l)),(1,(.str x))],[]⟩
noncomputable def fr1:St U El:=⟨[],[]⟩
noncomputable def fr2 (s0:List (List UInt8)) (v1:List UInt8) (x7:Int) (x8:Int):St U El:=⟨[(0,(.lst .str s0)),(1,(.str v1)),(7,(.int .i64 x7)),(8,(.int .i64 x8))],[]⟩
noncomputable def sh0 (l:List (List UInt8)) (x:List UInt8) (k2:Y2):R :=
  k2 l x (Int.ofNat (List.length l)) (0:Int)
noncomputable def sh1:R :=
  some ((.int .i64 (-1:Int)),[])
noncomputable def sh2 (s0:List (List UInt8)) (v1:List UInt8) (x7:Int) (x8:Int) (k1:Y1) (k2:Y2):R :=
  condB (ilt x8 x7) (chk (inb x8 (List.length s0)) (condB (v1 == (List.getD s0 (Int.toNat x8) d_str)) (some ((.int .i64 x8),[])) (k2 s0 v1 x7 (IntKind.wrap .i64 (x8+(1:Int)))))) (k1)
noncomputable def it2 (Kb1:Kont U El) (n:Nat):Kont U El:=iter nm2 (fun st' K'=>exec X (cdp [1,0,1,0,0] bd) .d st' K' (Eblk 0 (cutK nm1 Kb1) (fun _ _=>none)) RR) n
noncomputable def ct1:Kont U El:=fun st=>exec X (cdp [1,1] bd) .d st RR (fun _ _=>none) RR
theorem P0 (l x):exec X (cdp [] bd) (.seq none .d (.seq (some nm1) (.seq none .d (.block (.loop nm2 .d))) .d)) (fr0 l x) RR (fun _ _=>none) RR=sh0 l x (fun y0 y1 y2 y3=>(hid (it2 (hid ct1) 100000)) (fr2 y0 y1 y2 y3)):=by kernel_rfl
theorem P1:ct1 (fr1)=sh1:=by kernel_rfl
theorem P2 (s0 v1 x7 x8) (Kb1 Kb2:Kont U El):exec X (cdp [1,0,1,0,0] bd) .d (fr2 s0 v1 x7 x8) (cutK nm2 Kb2) (Eblk 0 (cutK nm1 Kb1) (fun _ _=>none)) RR=sh2 s0 v1 x7 x8 (Kb1 (fr1)) (fun y0 y1 y2 y3=>Kb2 (fr2 y0 y1 y2 y3)):=by kernel_rfl
noncomputable def f1:R:=sh1
noncomputable def f2:Nat→Y2
  | 0=>fun _ _ _ _=>none
  | n+1=>fun s0 v1 x7 x8=>sh2 s0 v1 x7 x8 f1 (f2 n)
noncomputable def f0 (l:List (List UInt8)) (x:List UInt8):R:=sh0 l x (f2 100000)
theorem T1:(hid ct1) (fr1)=f1:=by
  refine (congrFun (hid_eq _) _).trans <| (P1).trans ?_
  show _=sh1
  rfl
theorem T2:∀ (n:Nat),∀ s0 v1 x7 x8,it2 (hid ct1) n (fr2 s0 v1 x7 x8)=f2 n s0 v1 x7 x8:=by
  intro n
  induction n with
  | zero=>intros; rfl
  | succ n ih =>
    intro s0 v1 x7 x8
    refine (P2 s0 v1 x7 x8 (hid ct1) (it2 (hid ct1) n)).trans ?_
    show _=sh2 s0 v1 x7 x8 f1 (f2 n)
    simp only [T1,ih]
theorem H2 (s0 v1 x7 x8):hid (it2 (hid ct1) 100000) (fr2 s0 v1 x7 x8)=f2 100000 s0 v1 x7 x8:=(congrFun (hid_eq _) _).trans (T2 100000 s0 v1 x7 x8)
theorem T0 (l x):exec X bd (.seq none .d (.seq (some nm1) (.seq none .d (.block (.loop nm2 .d))) .d)) (fr0 l x) RR (fun _ _=>none) RR=f0 l x:=by
  refine (P0 l x).trans ?_
  show _=sh0 l x (f2 100000)
  simp only [H2]
theorem run (l x):runFn X bd (.seq none .d (.seq (some nm1) (.seq none .d (.block (.loop nm2 .d))) .d)) nmR [4] [] [(.lst .str l),(.str x)]=f0 l x:=T0 l x
theorem f0_eq (l:List (List UInt8)) (x:List UInt8) (h:(nle (List.length l) 90000)=true):f0 l x=outI (findZ (eqStr x) 0 l):=by
  have hl:=nleI h
  refine (grun_eq l (by omega) (fun n_ (_:Unit) i_=>f2 n_ l x (Int.ofNat l.length) i_) _ (fun _=>outI (-1)) (fun n_ u_ i_ hi_ => ?_) (fun n_ u_ => ?_) 100000 0 () (by omega) (by omega)).trans (grun_find (eqStr x) outI l 0)
  · show sh2 l x (Int.ofNat l.length) i_ f1 (f2 n_) = _
    unfold sh2
    rw [iltT (by simp; omega),inbT hi_,toNat_nat,getD_lt hi_]
    rfl
  · show sh2 l x (Int.ofNat l.length) (l.length : Int) f1 (f2 n_) = _
    unfold sh2
    rw [iltF (by simp)]
    rfl
theorem ok:CtxOk Tryz.prog X:=ctxOk tab spN dpN
theorem okM:MOk Tryz.prog X:=fun g sp h=>by cases h
theorem spec (l:List (List UInt8)) (x:List UInt8) (h:(nle (List.length l) 90000)=true):CallSpec Tryz.prog E 134 [(.lst .str l),(.str x)] (.int .i64 (findZ (eqStr x) 0 l)) [] :=
  runFn_sound ok okM Tryz.call134 Tryz.func134 (by kernel_rfl) (by kernel_rfl) (by kernel_rfl) (by show 2≤19; decide) (by decide) (by rfl) ((run l x).trans (f0_eq l x h))
noncomputable def sp:Sp U El:=fun args k=>match args with
  | [.lst .str l,.str x]=>chk (nle (List.length l) 90000) (k (.int .i64 (findZ (eqStr x) 0 l)) [])
  | _=>none
theorem spOk:SpOk Tryz.prog E 134 sp where
  det:=fun vs=>by
    unfold sp
    split
    · exact det_c _ _ _
    · exact ⟨none,fun _=>rfl⟩
  ok:=fun vs k r h=>by
    unfold sp at h
    split at h
    · obtain ⟨h1, h2⟩ := chk_some h
      exact ⟨_,_,spec _ _ h1,h2⟩
    · cases h
end idxS
namespace hasS
noncomputable def bd:Code:=(Tryz.f94.body).getD .skip
noncomputable def X:Ctx U El:=⟨E,tds,zeros,eqs,specOf [(134,idxS.sp)],100000,9,dspecOf [],fun _=>none⟩
noncomputable def nmR:Norm U:=⟨[],[4],[],[],[],[],[]⟩
noncomputable def RR:Kont U El:=fun st=>normK nmR st (retFin [4] [])
noncomputable def fr0 (l:List (List UInt8)) (x:List UInt8):St U El:=⟨[(0,(.lst .str l)),(1,(.str x))],[]⟩
noncomputable def sh0 (l:List (List UInt8)) (x:List UInt8):R :=
  chk (nle (List.length l) 90000) (some ((.bool (ile (0:Int) (findZ (eqStr x) 0 l))),[]))
theorem P0 (l x):exec X (cdp [] bd) .d (fr0 l x) RR (fun _ _=>none) RR=sh0 l x:=by kernel_rfl
noncomputable def f0 (l:List (List UInt8)) (x:List UInt8):R:=sh0 l x
theorem T0 (l x):exec X bd .d (fr0 l x) RR (fun _ _=>none) RR=f0 l x:=by
  refine (P0 l x).trans ?_
  show _=sh0 l x
  rfl
theorem run (l x):runFn X bd .d nmR [4] [] [(.lst .str l),(.str x)]=f0 l x:=T0 l x
theorem f0_eq (l:List (List UInt8)) (x:List UInt8) (h:(nle (List.length l) 90000)=true):f0 l x=outB (List.any l (eqStr x)):=by
  show sh0 l x=_
  unfold sh0
  rw [h,← findZ_any (eqStr x) l 0]
  rfl
theorem ok:CtxOk Tryz.prog X:=ctxOk tab (spC idxS.spOk spN) dpN
theorem okM:MOk Tryz.prog X:=fun g sp h=>by cases h
theorem spec (l:List (List UInt8)) (x:List UInt8) (h:(nle (List.length l) 90000)=true):CallSpec Tryz.prog E 94 [(.lst .str l),(.str x)] (.bool (List.any l (eqStr x))) [] :=
  runFn_sound ok okM Tryz.call94 Tryz.func94 (by kernel_rfl) (by kernel_rfl) (by kernel_rfl) (by show 2≤9; decide) (by decide) (by rfl) ((run l x).trans (f0_eq l x h))
noncomputable def sp:Sp U El:=fun args k=>match args with
  | [.lst .str l,.str x]=>chk (nle (List.length l) 90000) (k (.bool (List.any l (eqStr x))) [])
  | _=>none
theorem spOk:SpOk Tryz.prog E 94 sp where
  det:=fun vs=>by
    unfold sp
    split
    · exact det_c _ _ _
    · exact ⟨none,fun _=>rfl⟩
  ok:=fun vs k r h=>by
    unfold sp at h
    split at h
    · obtain ⟨h1, h2⟩ := chk_some h
      exact ⟨_,_,spec _ _ h1,h2⟩
    · cases h
end hasS
noncomputable def lacks (ns:List (List UInt8)) (c:Cnd):Bool := !(List.any ns (eqStr c.cn))
noncomputable def fewS (ns:List (List UInt8)) (c:Cnd):Bool:=nle ns.length 90000
namespace bx1
noncomputable def bd:Code:=(Tryz.f93.body).getD .skip
noncomputable def X:Ctx U El:=⟨E,tds,zeros,eqs,specOf [(94,hasS.sp)],100000,9,dspecOf [],fun _=>none⟩
noncomputable def nmR:Norm U:=⟨[],[3],[],[],[],[],[]⟩
noncomputable def RR:Kont U El:=fun st=>normK nmR st (retFin [3] [])
noncomputable def fr0 (x:Cnd) (ns:List (List UInt8)):St U El:=⟨[(0,(.agg [(.str x.cn),(.bool x.cb),(.int .i64 x.cl)])),(1,(.pcs [(.lst .str ns)] 0))],[]⟩
noncomputable def sh0 (x:Cnd) (ns:List (List UInt8)):R :=
  chk (nle (List.length ns) 90000) (some ((.bool (!(List.any ns (eqStr x.cn)))),[]))
theorem P0 (x ns):exec X (cdp [] bd) .d (fr0 x ns) RR (fun _ _=>none) RR=sh0 x ns:=by kernel_rfl
noncomputable def f0 (x:Cnd) (ns:List (List UInt8)):R:=sh0 x ns
theorem T0 (x ns):exec X bd .d (fr0 x ns) RR (fun _ _=>none) RR=f0 x ns:=by
  refine (P0 x ns).trans ?_
  show _=sh0 x ns
  rfl
theorem run (x ns):runFn X bd .d nmR [3] [] [(.agg [(.str x.cn),(.bool x.cb),(.int .i64 x.cl)]),(.pcs [(.lst .str ns)] 0)]=f0 x ns:=T0 x ns
theorem f0_eq (x:Cnd) (ns:List (List UInt8)) (h:fewS ns x=true):f0 x ns=outB (lacks ns x):=by
  have h':nle ns.length 90000=true:=h
  show sh0 x ns=_
  unfold sh0
  rw [h']
  rfl
theorem ok:CtxOk Tryz.prog X:=ctxOk tab (spC hasS.spOk spN) dpN
theorem okM:MOk Tryz.prog X:=fun g sp h=>by cases h
theorem spec (x:Cnd) (ns:List (List UInt8)) (h:((fewS ns) x)=true):CallSpec Tryz.prog E 93 [(.agg [(.str x.cn),(.bool x.cb),(.int .i64 x.cl)]),(.pcs [(.lst .str ns)] 0)] (.bool ((lacks ns) x)) [] :=
  runFn_sound ok okM Tryz.call93 Tryz.func93 (by kernel_rfl) (by kernel_rfl) (by kernel_rfl) (by show 2≤9; decide) (by decide) (by rfl) ((run x ns).trans (f0_eq x ns h))
noncomputable def sp:Sp U El:=fun args k=>match args with
  | [.agg [.str x_cn,.bool x_cb,.int .i64 x_cl],.pcs [.lst .str ns] 0]=>chk ((fewS ns) (⟨x_cn,x_cb,x_cl⟩:Cnd)) (k (.bool ((lacks ns) (⟨x_cn,x_cb,x_cl⟩:Cnd))) [])
  | _=>none
theorem spOk:SpOk Tryz.prog E 93 sp where
  det:=fun vs=>by
    unfold sp
    split
    · exact det_c _ _ _
    · exact ⟨none,fun _=>rfl⟩
  ok:=fun vs k r h=>by
    unfold sp at h
    split at h
    · obtain ⟨h1, h2⟩ := chk_some h
      exact ⟨_,_,spec ⟨_,_,_⟩ _ h1,h2⟩
    · cases h
end bx1
namespace bx1X
noncomputable def bd:Code:=(Tryz.f130.body).getD .skip
noncomputable def X:Ctx U El:=⟨E,tds,zeros,eqs,specOf [(93,bx1.sp)],100000,19,dspecOf [],fun _=>none⟩
noncomputable def nmR:Norm U:=⟨[],[4],[],[],[],[],[]⟩
noncomputable def RR:Kont U El:=fun st=>normK nmR st (retFin [4] [])
noncomputable def nm1:Norm U:=⟨[],[],[],[],[],[],[]⟩
noncomputable def nm2:Norm U:=⟨[],[0,1,7,8],[],[],[],[],[]⟩
abbrev Y1:=R
abbrev Y2:=(List Cnd)→(List (List UInt8))→Int→Int→R
noncomputable def fr0 (l:List Cnd) (ns:List (List UInt8)):St U El:=⟨[(0,(.lst .cnd l)),(1,(.fn 93 [] [(.pcs [(.lst .str ns)] 0)]))],[]⟩
noncomputable def fr1:St U El:=⟨[],[]⟩
noncomputable def fr2 (s0:List Cnd) (f1c_0:List (List UInt8)) (x7:Int) (x8:Int):St U El:=⟨[(0,(.lst .cnd s0)),(1,(.fn 93 [] [(.pcs [(.lst .str f1c_0)] 0)])),(7,(.int .i64 x7)),(8,(.int .i64 x8))],[]⟩
noncomputable def sh0 (l:List Cnd) (ns:List (List UInt8)) (k2:Y2):R :=
  k2 l ns (Int.ofNat (List.length l)) (0:Int)
noncomputable def sh1:R :=
  some ((.int .i64 (-1:Int)),[])
noncomputable def sh2 (s0:List Cnd) (f1c_0:List (List UInt8)) (x7:Int) (x8:Int) (k1:Y1) (k2:Y2):R :=
  condB (ilt x8 x7) (chk (inb x8 (List.length s0)) (chk ((fewS f1c_0) (List.getD s0 (Int.toNat x8) d_cnd)) (condB ((lacks f1c_0) (List.getD s0 (Int.toNat x8) d_cnd)) (some ((.int .i64 x8),[])) (k2 s0 f1c_0 x7 (IntKind.wrap .i64 (x8+(1:Int))))))) (k1)
noncomputable def it2 (Kb1:Kont U El) (n:Nat):Kont U El:=iter nm2 (fun st' K'=>exec X (cdp [1,0,1,0,0] bd) .d st' K' (Eblk 0 (cutK nm1 Kb1) (fun _ _=>none)) RR) n
noncomputable def ct1:Kont U El:=fun st=>exec X (cdp [1,1] bd) .d st RR (fun _ _=>none) RR
theorem P0 (l ns):exec X (cdp [] bd) (.seq none .d (.seq (some nm1) (.seq none .d (.block (.loop nm2 .d))) .d)) (fr0 l ns) RR (fun _ _=>none) RR=sh0 l ns (fun y0 y1 y2 y3=>(hid (it2 (hid ct1) 100000)) (fr2 y0 y1 y2 y3)):=by kernel_rfl
theorem P1:ct1 (fr1)=sh1:=by kernel_rfl
theorem P2 (s0 f1c_0 x7 x8) (Kb1 Kb2:Kont U El):exec X (cdp [1,0,1,0,0] bd) .d (fr2 s0 f1c_0 x7 x8) (cutK nm2 Kb2) (Eblk 0 (cutK nm1 Kb1) (fun _ _=>none)) RR=sh2 s0 f1c_0 x7 x8 (Kb1 (fr1)) (fun y0 y1 y2 y3=>Kb2 (fr2 y0 y1 y2 y3)):=by kernel_rfl
noncomputable def f1:R:=sh1
noncomputable def f2:Nat→Y2
  | 0=>fun _ _ _ _=>none
  | n+1=>fun s0 f1c_0 x7 x8=>sh2 s0 f1c_0 x7 x8 f1 (f2 n)
noncomputable def f0 (l:List Cnd) (ns:List (List UInt8)):R:=sh0 l ns (f2 100000)
theorem T1:(hid ct1) (fr1)=f1:=by
  refine (congrFun (hid_eq _) _).trans <| (P1).trans ?_
  show _=sh1
  rfl
theorem T2:∀ (n:Nat),∀ s0 f1c_0 x7 x8,it2 (hid ct1) n (fr2 s0 f1c_0 x7 x8)=f2 n s0 f1c_0 x7 x8:=by
  intro n
  induction n with
  | zero=>intros; rfl
  | succ n ih =>
    intro s0 f1c_0 x7 x8
    refine (P2 s0 f1c_0 x7 x8 (hid ct1) (it2 (hid ct1) n)).trans ?_
    show _=sh2 s0 f1c_0 x7 x8 f1 (f2 n)
    simp only [T1,ih]
theorem H2 (s0 f1c_0 x7 x8):hid (it2 (hid ct1) 100000) (fr2 s0 f1c_0 x7 x8)=f2 100000 s0 f1c_0 x7 x8:=(congrFun (hid_eq _) _).trans (T2 100000 s0 f1c_0 x7 x8)
theorem T0 (l ns):exec X bd (.seq none .d (.seq (some nm1) (.seq none .d (.block (.loop nm2 .d))) .d)) (fr0 l ns) RR (fun _ _=>none) RR=f0 l ns:=by
  refine (P0 l ns).trans ?_
  show _=sh0 l ns (f2 100000)
  simp only [H2]
theorem run (l ns):runFn X bd (.seq none .d (.seq (some nm1) (.seq none .d (.block (.loop nm2 .d))) .d)) nmR [4] [] [(.lst .cnd l),(.fn 93 [] [(.pcs [(.lst .str ns)] 0)])]=f0 l ns:=T0 l ns
theorem f0_eq (l:List Cnd) (ns:List (List UInt8)) (h:((nle (List.length l) 90000&&List.all l (fewS ns)))=true):f0 l ns=outI (findZ (lacks ns) 0 l):=by
  simp only [Bool.and_eq_true] at h
  have ha:=List.all_eq_true.1 h.2
  have hl:=nleI h.1
  refine (grun_eq l (by omega) (fun n_ (_:Unit) i_=>f2 n_ l ns (Int.ofNat l.length) i_) _ (fun _=>outI (-1)) (fun n_ u_ i_ hi_ => ?_) (fun n_ u_ => ?_) 100000 0 () (by omega) (by omega)).trans (grun_find (lacks ns) outI l 0)
  · show sh2 l ns (Int.ofNat l.length) i_ f1 (f2 n_) = _
    unfold sh2
    rw [iltT (by simp; omega),inbT hi_,toNat_nat,getD_lt hi_,ha l[i_] (List.getElem_mem hi_)]
    rfl
  · show sh2 l ns (Int.ofNat l.length) (l.length : Int) f1 (f2 n_) = _
    unfold sh2
    rw [iltF (by simp)]
    rfl
theorem ok:CtxOk Tryz.prog X:=ctxOk tab (spC bx1.spOk spN) dpN
theorem okM:MOk Tryz.prog X:=fun g sp h=>by cases h
theorem spec (l:List Cnd) (ns:List (List UInt8)) (h:((nle (List.length l) 90000&&List.all l (fewS ns)))=true):CallSpec Tryz.prog E 130 [(.lst .cnd l),(.fn 93 [] [(.pcs [(.lst .str ns)] 0)])] (.int .i64 (findZ (lacks ns) 0 l)) [] :=
  runFn_sound ok okM Tryz.call130 Tryz.func130 (by kernel_rfl) (by kernel_rfl) (by kernel_rfl) (by show 2≤19; decide) (by decide) (by rfl) ((run l ns).trans (f0_eq l ns h))
noncomputable def sp:Sp U El:=fun args k=>match args with
  | [.lst .cnd l,.fn 93 [] [.pcs [.lst .str ns] 0]]=>chk ((nle (List.length l) 90000&&List.all l (fewS ns))) (k (.int .i64 (findZ (lacks ns) 0 l)) [])
  | _=>none
theorem spOk:SpOk Tryz.prog E 130 sp where
  det:=fun vs=>by
    unfold sp
    split
    · exact det_c _ _ _
    · exact ⟨none,fun _=>rfl⟩
  ok:=fun vs k r h=>by
    unfold sp at h
    split at h
    · obtain ⟨h1, h2⟩ := chk_some h
      exact ⟨_,_,spec _ _ h1,h2⟩
    · cases h
end bx1X
namespace bx1C
noncomputable def bd:Code:=(Tryz.f88.body).getD .skip
noncomputable def X:Ctx U El:=⟨E,tds,zeros,eqs,specOf [(130,bx1X.sp)],100000,9,dspecOf [],fun _=>none⟩
noncomputable def nmR:Norm U:=⟨[],[4],[],[],[],[],[]⟩
noncomputable def RR:Kont U El:=fun st=>normK nmR st (retFin [4] [])
noncomputable def fr0 (l:List Cnd) (ns:List (List UInt8)):St U El:=⟨[(0,(.lst .cnd l)),(1,(.fn 93 [] [(.pcs [(.lst .str ns)] 0)]))],[]⟩
noncomputable def sh0 (l:List Cnd) (ns:List (List UInt8)):R :=
  chk ((nle (List.length l) 90000&&List.all l (fewS ns))) (some ((.bool (ile (0:Int) (findZ (lacks ns) 0 l))),[]))
theorem P0 (l ns):exec X (cdp [] bd) .d (fr0 l ns) RR (fun _ _=>none) RR=sh0 l ns:=by kernel_rfl
noncomputable def f0 (l:List Cnd) (ns:List (List UInt8)):R:=sh0 l ns
theorem T0 (l ns):exec X bd .d (fr0 l ns) RR (fun _ _=>none) RR=f0 l ns:=by
  refine (P0 l ns).trans ?_
  show _=sh0 l ns
  rfl
theorem run (l ns):runFn X bd .d nmR [4] [] [(.lst .cnd l),(.fn 93 [] [(.pcs [(.lst .str ns)] 0)])]=f0 l ns:=T0 l ns
theorem f0_eq (l:List Cnd) (ns:List (List UInt8)) (h:((nle (List.length l) 90000&&List.all l (fewS ns)))=true):f0 l ns=outB (List.any l (lacks ns)):=by
  show chk _ (outB _)=_
  rw [h,chkT,findZ_any]
theorem ok:CtxOk Tryz.prog X:=ctxOk tab (spC bx1X.spOk spN) dpN
theorem okM:MOk Tryz.prog X:=fun g sp h=>by cases h
theorem spec (l:List Cnd) (ns:List (List UInt8)) (h:((nle (List.length l) 90000&&List.all l (fewS ns)))=true):CallSpec Tryz.prog E 88 [(.lst .cnd l),(.fn 93 [] [(.pcs [(.lst .str ns)] 0)])] (.bool (List.any l (lacks ns))) [] :=
  runFn_sound ok okM Tryz.call88 Tryz.func88 (by kernel_rfl) (by kernel_rfl) (by kernel_rfl) (by show 2≤9; decide) (by decide) (by rfl) ((run l ns).trans (f0_eq l ns h))
noncomputable def sp:Sp U El:=fun args k=>match args with
  | [.lst .cnd l,.fn 93 [] [.pcs [.lst .str ns] 0]]=>chk ((nle (List.length l) 90000&&List.all l (fewS ns))) (k (.bool (List.any l (lacks ns))) [])
  | _=>none
theorem spOk:SpOk Tryz.prog E 88 sp where
  det:=fun vs=>by
    unfold sp
    split
    · exact det_c _ _ _
    · exact ⟨none,fun _=>rfl⟩
  ok:=fun vs k r h=>by
    unfold sp at h
    split at h
    · obtain ⟨h1, h2⟩ := chk_some h
      exact ⟨_,_,spec _ _ h1,h2⟩
    · cases h
end bx1C
noncomputable def lensOk (ls:List (List Cnd)):Bool:=nle ls.length 10&&nle (List.flatten ls).length 4000
noncomputable def lenZ:List (List Cnd)→Int
  | []=>0
  | x :: l=>Int.ofNat x.length+lenZ l
theorem lenZ_flat:∀ l:List (List Cnd),lenZ l=((List.flatten l).length:Int):=by
  intro l
  induction l with
  | nil=>rfl
  | cons x l ih=>simp only [lenZ,ih,List.flatten_cons,List.length_append]; simp
namespace concatC
noncomputable def bd:Code:=(Tryz.f98.body).getD .skip
noncomputable def X:Ctx U El:=⟨E,tds,zeros,eqs,specOf [],100000,36,dspecOf [],mspecOf [(135,growSp)]⟩
noncomputable def nmR:Norm U:=⟨[(2,.cnd)],[2],[2],[],[],[],[]⟩
noncomputable def RR:Kont U El:=fun st=>normK nmR st (retFin [2] [2])
noncomputable def nm1:Norm U:=⟨[],[0,3],[],[],[],[],[]⟩
noncomputable def nm2:Norm U:=⟨[],[0,3,9,10,11],[],[],[],[],[]⟩
noncomputable def nm3:Norm U:=⟨[],[0,3,9,10,11],[],[],[],[],[]⟩
noncomputable def nm4:Norm U:=⟨[(6,.cnd)],[6],[6],[],[],[],[]⟩
noncomputable def nm5:Norm U:=⟨[(6,.cnd)],[6,25,26,27],[6],[],[],[],[]⟩
abbrev Y1:=(List (List Cnd))→Int→R
abbrev Y2:=(List (List Cnd))→Int→(List (List Cnd))→Int→Int→R
abbrev Y3:=(List (List Cnd))→Int→(List (List Cnd))→Int→Int→R
abbrev Y4:=(List Cnd)→R
abbrev Y5:=(List Cnd)→(List (List Cnd))→Int→Int→R
noncomputable def fr0 (ls:List (List Cnd)):St U El:=⟨[(0,(.lst .cnds ls))],[]⟩
noncomputable def fr1 (fA:List (List Cnd)) (jA:Int):St U El:=⟨[(0,(.lst .cnds fA)),(3,(.int .i64 jA))],[]⟩
noncomputable def fr2 (fA:List (List Cnd)) (jA:Int) (x9:List (List Cnd)) (bB:Int) (aB:Int):St U El:=⟨[(0,(.lst .cnds fA)),(3,(.int .i64 jA)),(9,(.lst .cnds x9)),(10,(.int .i64 bB)),(11,(.int .i64 aB))],[]⟩
noncomputable def fr3 (fA:List (List Cnd)) (jA:Int) (x9:List (List Cnd)) (bB:Int) (aB:Int):St U El:=⟨[(0,(.lst .cnds fA)),(3,(.int .i64 jA)),(9,(.lst .cnds x9)),(10,(.int .i64 bB)),(11,(.int .i64 aB))],[]⟩
noncomputable def fr4 (gA:List Cnd):St U El:=⟨[(6,(.ful 6))],[(6,(.rows .cnd gA))]⟩
noncomputable def fr5 (gA:List Cnd) (sA:List (List Cnd)) (vA:Int) (jB:Int):St U El:=⟨[(6,(.ful 6)),(25,(.lst .cnds sA)),(26,(.int .i64 vA)),(27,(.int .i64 jB))],[(6,(.rows .cnd gA))]⟩
noncomputable def sh0 (ls:List (List Cnd)) (k2:Y2):R :=
  k2 ls (0:Int) ls (Int.ofNat (List.length ls)) (0:Int)
noncomputable def sh1 (fA:List (List Cnd)) (jA:Int) (k5:Y5):R :=
  chk (ile 0 jA&&ile jA 4000) (k5 ([]:List Cnd) fA (Int.ofNat (List.length fA)) (0:Int))
noncomputable def sh2 (fA:List (List Cnd)) (jA:Int) (x9:List (List Cnd)) (bB:Int) (aB:Int) (k1:Y1) (k3:Y3):R :=
  condB (ilt aB bB) (chk (inb aB (List.length x9)) (condB (ilt (IntKind.wrap .i64 (jA+(Int.ofNat (List.length (List.getD x9 (Int.toNat aB) d_cnds))))) (0:Int)) (none) (k3 fA (IntKind.wrap .i64 (jA+(Int.ofNat (List.length (List.getD x9 (Int.toNat aB) d_cnds))))) x9 bB aB))) (k1 fA jA)
noncomputable def sh3 (fA:List (List Cnd)) (jA:Int) (x9:List (List Cnd)) (bB:Int) (aB:Int) (k2:Y2):R :=
  k2 fA jA x9 bB (IntKind.wrap .i64 (aB+(1:Int)))
noncomputable def sh4 (gA:List Cnd):R :=
  some ((.ful 0),[(0,.rows .cnd gA)])
noncomputable def sh5 (gA:List Cnd) (sA:List (List Cnd)) (vA:Int) (jB:Int) (k4:Y4) (k5:Y5):R :=
  condB (ilt jB vA) (chk (inb jB (List.length sA)) (chk (nle ((List.length gA+List.length (List.getD sA (Int.toNat jB) d_cnds)) * 32) 140737488355328&&nle (List.length gA+List.length (List.getD sA (Int.toNat jB) d_cnds)) 9223372036854775807) (k5 (gA++(List.getD sA (Int.toNat jB) d_cnds)) sA vA (IntKind.wrap .i64 (jB+(1:Int)))))) (k4 gA)
noncomputable def it2 (Kb1:Kont U El) (n:Nat):Kont U El:=iter nm2 (fun st' K'=>exec X (cdp [1,1,0,1,0,0] bd) (.seq none .d (.seq none .d (.seq (some nm3) .d .d))) st' K' (Eblk 0 (cutK nm1 Kb1) (fun _ _=>none)) RR) n
noncomputable def it5 (Kb4:Kont U El) (n:Nat):Kont U El:=iter nm5 (fun st' K'=>exec X (cdp [1,1,1,1,0,1,0,0] bd) .d st' K' (Eblk 2 (cutK nm4 Kb4) (fun _ _=>none)) RR) n
noncomputable def ct1:Kont U El:=fun st=>exec X (cdp [1,1,1] bd) (.seq none .d (.seq (some nm4) (.seq none .d (.block (.loop nm5 .d))) .d)) st RR (fun _ _=>none) RR
noncomputable def ct3 (Kb1 Kb2:Kont U El):Kont U El:=fun st=>exec X (cdp [1,1,0,1,0,0,1,1,1] bd) .d st (cutK nm2 Kb2) (Eblk 0 (cutK nm1 Kb1) (fun _ _=>none)) RR
noncomputable def ct4:Kont U El:=fun st=>exec X (cdp [1,1,1,1,1] bd) .d st RR (fun _ _=>none) RR
theorem P0 (ls):exec X (cdp [] bd) (.seq none .d (.seq none .d (.seq (some nm1) (.seq none .d (.block (.loop nm2 (.seq none .d (.seq none .d (.seq (some nm3) .d .d)))))) (.seq none .d (.seq (some nm4) (.seq none .d (.block (.loop nm5 .d))) .d))))) (fr0 ls) RR (fun _ _=>none) RR=sh0 ls (fun y0 y1 y2 y3 y4=>(hid (it2 (hid ct1) 100000)) (fr2 y0 y1 y2 y3 y4)):=by kernel_rfl
theorem P1 (fA jA):ct1 (fr1 fA jA)=sh1 fA jA (fun y0 y1 y2 y3=>(hid (it5 (hid ct4) 100000)) (fr5 y0 y1 y2 y3)):=by kernel_rfl
theorem P2 (fA jA x9 bB aB) (Kb1 Kb2:Kont U El):exec X (cdp [1,1,0,1,0,0] bd) (.seq none .d (.seq none .d (.seq (some nm3) .d .d))) (fr2 fA jA x9 bB aB) (cutK nm2 Kb2) (Eblk 0 (cutK nm1 Kb1) (fun _ _=>none)) RR=sh2 fA jA x9 bB aB (fun y0 y1=>Kb1 (fr1 y0 y1)) (fun y0 y1 y2 y3 y4=>(hid (ct3 Kb1 Kb2)) (fr3 y0 y1 y2 y3 y4)):=by kernel_rfl
theorem P3 (fA jA x9 bB aB) (Kb1 Kb2:Kont U El):ct3 Kb1 Kb2 (fr3 fA jA x9 bB aB)=sh3 fA jA x9 bB aB (fun y0 y1 y2 y3 y4=>Kb2 (fr2 y0 y1 y2 y3 y4)):=by kernel_rfl
theorem P4 (gA):ct4 (fr4 gA)=sh4 gA:=by kernel_rfl
theorem P5 (gA sA vA jB) (Kb4 Kb5:Kont U El):exec X (cdp [1,1,1,1,0,1,0,0] bd) .d (fr5 gA sA vA jB) (cutK nm5 Kb5) (Eblk 2 (cutK nm4 Kb4) (fun _ _=>none)) RR=sh5 gA sA vA jB (fun y0=>Kb4 (fr4 y0)) (fun y0 y1 y2 y3=>Kb5 (fr5 y0 y1 y2 y3)):=by kernel_rfl
noncomputable def f4 (gA:List Cnd):R:=sh4 gA
noncomputable def f5:Nat→Y5
  | 0=>fun _ _ _ _=>none
  | n+1=>fun gA sA vA jB=>sh5 gA sA vA jB f4 (f5 n)
noncomputable def f1 (fA:List (List Cnd)) (jA:Int):R:=sh1 fA jA (f5 100000)
noncomputable def f3 (k2:Y2) (fA:List (List Cnd)) (jA:Int) (x9:List (List Cnd)) (bB:Int) (aB:Int):R:=sh3 fA jA x9 bB aB k2
noncomputable def f2:Nat→Y2
  | 0=>fun _ _ _ _ _=>none
  | n+1=>fun fA jA x9 bB aB=>sh2 fA jA x9 bB aB f1 (f3 (f2 n))
noncomputable def f0 (ls:List (List Cnd)):R:=sh0 ls (f2 100000)
theorem T4 (gA):(hid ct4) (fr4 gA)=f4 gA:=by
  refine (congrFun (hid_eq _) _).trans <| (P4 gA).trans ?_
  show _=sh4 gA
  rfl
theorem T5:∀ (n:Nat),∀ gA sA vA jB,it5 (hid ct4) n (fr5 gA sA vA jB)=f5 n gA sA vA jB:=by
  intro n
  induction n with
  | zero=>intros; rfl
  | succ n ih =>
    intro gA sA vA jB
    refine (P5 gA sA vA jB (hid ct4) (it5 (hid ct4) n)).trans ?_
    show _=sh5 gA sA vA jB f4 (f5 n)
    simp only [T4,ih]
theorem H5 (gA sA vA jB):hid (it5 (hid ct4) 100000) (fr5 gA sA vA jB)=f5 100000 gA sA vA jB:=(congrFun (hid_eq _) _).trans (T5 100000 gA sA vA jB)
theorem T1 (fA jA):(hid ct1) (fr1 fA jA)=f1 fA jA:=by
  refine (congrFun (hid_eq _) _).trans <| (P1 fA jA).trans ?_
  show _=sh1 fA jA (f5 100000)
  simp only [H5]
theorem T3 (KL2:Kont U El) (k2:Y2) (h2:∀ fA jA x9 bB aB,KL2 (fr2 fA jA x9 bB aB)=k2 fA jA x9 bB aB) (fA jA x9 bB aB):(hid (ct3 (hid ct1) KL2)) (fr3 fA jA x9 bB aB)=f3 k2 fA jA x9 bB aB:=by
  refine (congrFun (hid_eq _) _).trans <| (P3 fA jA x9 bB aB (hid ct1) KL2).trans ?_
  show _=sh3 fA jA x9 bB aB k2
  simp only [h2]
theorem T2:∀ (n:Nat),∀ fA jA x9 bB aB,it2 (hid ct1) n (fr2 fA jA x9 bB aB)=f2 n fA jA x9 bB aB:=by
  intro n
  induction n with
  | zero=>intros; rfl
  | succ n ih =>
    intro fA jA x9 bB aB
    refine (P2 fA jA x9 bB aB (hid ct1) (it2 (hid ct1) n)).trans ?_
    show _=sh2 fA jA x9 bB aB f1 (f3 (f2 n))
    simp only [T1,T3 (it2 (hid ct1) n) (f2 n) ih]
theorem H2 (fA jA x9 bB aB):hid (it2 (hid ct1) 100000) (fr2 fA jA x9 bB aB)=f2 100000 fA jA x9 bB aB:=(congrFun (hid_eq _) _).trans (T2 100000 fA jA x9 bB aB)
theorem T0 (ls):exec X bd (.seq none .d (.seq none .d (.seq (some nm1) (.seq none .d (.block (.loop nm2 (.seq none .d (.seq none .d (.seq (some nm3) .d .d)))))) (.seq none .d (.seq (some nm4) (.seq none .d (.block (.loop nm5 .d))) .d))))) (fr0 ls) RR (fun _ _=>none) RR=f0 ls:=by
  refine (P0 ls).trans ?_
  show _=sh0 ls (f2 100000)
  simp only [H2]
theorem run (ls):runFn X bd (.seq none .d (.seq none .d (.seq (some nm1) (.seq none .d (.block (.loop nm2 (.seq none .d (.seq none .d (.seq (some nm3) .d .d)))))) (.seq none .d (.seq (some nm4) (.seq none .d (.block (.loop nm5 .d))) .d))))) nmR [2] [2] [(.lst .cnds ls)]=f0 ls:=T0 ls
noncomputable def outC (z:List Cnd):R:=some (.ful 0,[(0,.rows .cnd z)])
theorem loop2 (ls:List (List Cnd)) (hl:ls.length≤10):∀ (n i:Nat) (s:Int),ls.length < n+i→i≤ls.length→0≤s→s+lenZ (ls.drop i)≤4000 →
    f2 n ls s ls (Int.ofNat ls.length) (i:Int)=f1 ls (s+lenZ (ls.drop i)):=by
  intro n
  induction n with
  | zero=>intro i s h1 h2; omega
  | succ n ih =>
    intro i s h1 h2 h3 h4
    show sh2 ls s ls (Int.ofNat ls.length) i f1 (f3 (f2 n))=_
    unfold sh2
    by_cases hi:i < ls.length
    · rw [drop_lt hi] at h4
      have hz:0≤lenZ (ls.drop (i+1)):=by rw [lenZ_flat]; omega
      simp only [lenZ,Int.ofNat_eq_natCast] at h4
      rw [iltT (by simp; omega),inbT hi,toNat_nat,getD_lt hi,drop_lt hi,wrapI (x:=s+Int.ofNat ls[i].length) (by simp; omega) (by simp; omega),iltF (show ¬ s+Int.ofNat ls[i].length < 0 by simp; omega)]
      show f2 n ls (s+Int.ofNat ls[i].length) ls (Int.ofNat ls.length) (IntKind.wrap .i64 ((i:Int)+1))=_
      rw [wrapS i (by omega),ih (i+1) _ (by omega) hi (by simp; omega) (by simp only [Int.ofNat_eq_natCast]; omega)]
      simp only [lenZ]
      rw [Int.add_assoc]
    · have : i = ls.length := by omega
      subst this
      rw [iltF (by simp),List.drop_length]
      simp only [lenZ,Int.add_zero]
      rfl
theorem loop5 (ls:List (List Cnd)) (hl:ls.length≤10):∀ (n i:Nat) (acc:List Cnd),ls.length < n+i→i≤ls.length→acc.length+(List.flatten (ls.drop i)).length≤4000 →
    f5 n acc ls (Int.ofNat ls.length) (i:Int)=outC (acc++List.flatten (ls.drop i)):=by
  intro n
  induction n with
  | zero=>intro i s h1 h2; omega
  | succ n ih =>
    intro i acc h1 h2 h3
    show sh5 acc ls (Int.ofNat ls.length) i f4 (f5 n)=_
    unfold sh5
    by_cases hi:i < ls.length
    · rw [drop_lt hi, List.flatten_cons, List.length_append] at h3
      rw [iltT (by simp; omega),inbT hi,toNat_nat,getD_lt hi,drop_lt hi,nleT (show (acc.length+ls[i].length) * 32≤140737488355328 by omega),nleT (show acc.length+ls[i].length≤9223372036854775807 by omega),wrapS i (by omega)]
      show f5 n (acc++ls[i]) ls (Int.ofNat ls.length) ((i+1:Nat):Int)=_
      rw [ih (i+1) _ (by omega) hi (by simp only [List.length_append]; omega),List.flatten_cons,List.append_assoc]
    · have : i = ls.length := by omega
      subst this
      rw [iltF (by simp),List.drop_length]
      show outC acc=_
      rw [List.flatten_nil,List.append_nil]
theorem f0_eq (ls:List (List Cnd)) (h:lensOk ls=true):f0 ls=outC (List.flatten ls):=by
  simp only [lensOk,Bool.and_eq_true,nle,decide_eq_true_eq] at h
  obtain ⟨h1,h2⟩:=h
  show f2 100000 ls 0 ls (Int.ofNat ls.length) ((0:Nat):Int)=_
  have hz:lenZ ls=((List.flatten ls).length:Int):=lenZ_flat ls
  rw [loop2 ls h1 100000 0 0 (by omega) (by omega) (by omega) (by show (0:Int)+lenZ ls≤4000; omega)]
  show sh1 ls (0+lenZ ls) (f5 100000)=_
  unfold sh1
  rw [ileT (show 0≤0+lenZ ls by omega),ileT (show 0+lenZ ls≤4000 by omega)]
  exact loop5 ls h1 100000 0 [] (by omega) (by omega) (by show 0+(List.flatten ls).length≤4000; omega)
theorem ok:CtxOk Tryz.prog X:=ctxOk tab spN dpN
theorem okM:MOk Tryz.prog X:=mspecOf_ok _ (mpC (growOk rfl ok) mpN)
theorem spec (ls:List (List Cnd)) (h:(lensOk ls)=true):CallSpec Tryz.prog E 98 [(.lst .cnds ls)] (.ful 0) [(0,.rows .cnd (List.flatten ls))] :=
  runFn_sound ok okM Tryz.call98 Tryz.func98 (by kernel_rfl) (by kernel_rfl) (by kernel_rfl) (by show 1≤36; decide) (by decide) (by rfl) ((run ls).trans (f0_eq ls h))
noncomputable def sp:Sp U El:=fun args k=>match args with
  | [.lst .cnds ls]=>chk (lensOk ls) (k (.ful 0) [(0,.rows .cnd (List.flatten ls))])
  | _=>none
theorem spOk:SpOk Tryz.prog E 98 sp where
  det:=fun vs=>by
    unfold sp
    split
    · exact det_c _ _ _
    · exact ⟨none,fun _=>rfl⟩
  ok:=fun vs k r h=>by
    unfold sp at h
    split at h
    · obtain ⟨h1, h2⟩ := chk_some h
      exact ⟨_,_,spec _ h1,h2⟩
    · cases h
end concatC
noncomputable def emptyS (s:Span):Bool:=ilt s.shi s.slo
noncomputable def boxO (w:List Cnd):List (List UInt8)→Option (List Span)
  | []=>some []
  | m :: ns=>bif emptyS (nar m allS w) then none else (boxO w ns).map (nar m allS w :: ·)
noncomputable def namedZ (r:Rule) (ns:List (List UInt8)):Int:=bif dupB ns then 10 else bif List.any r.rw (lacks ns) then 9 else 0
noncomputable def boxE (r:Rule) (ns:List (List UInt8)):Int:=bif ruleB r then namedZ r ns else 1
noncomputable def boxOk (r:Rule) (ns:List (List UInt8)):Bool:=ruleB r&&(namedZ r ns == 0)
noncomputable def boxL (r:Rule) (ns:List (List UInt8)):List Span:=bif boxOk r ns then (boxO r.rw ns).getD [] else []
noncomputable def boxB (r:Rule) (ns:List (List UInt8)):Bool:=boxOk r ns&&(boxO r.rw ns).isSome
noncomputable def outX (l:List Span) (b:Bool) (e:Int):R:=some (.tup [.ful 0,.bool b,.int .i64 e],[(0,.rows .span l)])
noncomputable def boxR (out:List Span):Option (List Span)→R
  | none=>outX [] false 0
  | some v=>outX (out++v) true 0
theorem boxR_map (out:List Span) (s:Span) (o:Option (List Span)):boxR (out++[s]) o=boxR out (o.map (s :: ·)):=by
  cases o with
  | none=>rfl
  | some v=>simp [boxR]
theorem boxR_spec (o:Option (List Span)):boxR [] o=outX (o.getD []) o.isSome 0:=by cases o<;>rfl
theorem rules1 (r:Rule):rulesB [r]=ruleB r:=by
  unfold rulesB
  rw [iltF (show ¬ (60:Int) < Int.ofNat ([r]:List Rule).length by simp)]
  cases h:ruleB r<;>simp [h,goodR]
theorem ile_ilt (a b:Int):(!(ile a b))=ilt b a:=by
  by_cases h:a≤b
  · rw [ileT h,iltF (by omega)]; rfl
  · rw [ileF h,iltT (by omega)]; rfl
namespace box_
noncomputable def bd:Code:=(Tryz.f46.body).getD .skip
noncomputable def X:Ctx U El:=⟨E,tds,zeros,eqs,specOf [(85,valid.sp),(88,bx1C.sp),(91,program.sp),(92,twice.sp),(95,narrowed.sp),(96,all_.sp),(97,empty.sp)],100000,42,dspecOf [],fun _=>none⟩
noncomputable def nmR:Norm U:=⟨[(4,.span)],[4,5,6],[4],[],[],[],[]⟩
noncomputable def RR:Kont U El:=fun st=>normK nmR st (retFin [4,5,6] [4])
noncomputable def nm1:Norm U:=⟨[(7,.span)],[7],[7],[],[],[],[]⟩
noncomputable def nm2:Norm U:=⟨[(7,.span)],[2,7,24,25,26],[7,2],[],[],[],[(2,1,.cnd)]⟩
abbrev Y1:=(List Span)→R
abbrev Y2:=(List Span)→(List (List UInt8))→Int→Int→(List UInt8)→(List Cnd)→(List UInt8)→Int→R
noncomputable def fr0 (r:Rule) (ns:List (List UInt8)):St U El:=⟨[(0,(.agg [(.str r.rn),(.lst .cnd r.rw),(.str r.rl),(.int .i64 r.rs)])),(1,(.lst .str ns))],[]⟩
noncomputable def fr1 (qA:List Span):St U El:=⟨[(7,(.ful 7))],[(7,(.rows .span qA))]⟩
noncomputable def fr2 (qA:List Span) (wA:List (List UInt8)) (sA:Int) (vA:Int) (cA:List UInt8) (bA:List Cnd) (dA:List UInt8) (eA:Int):St U El:=⟨[(2,(.ptr 2 0)),(7,(.ful 7)),(24,(.lst .str wA)),(25,(.int .i64 sA)),(26,(.int .i64 vA))],[(7,(.rows .span qA)),(2,(.box 0 [(.str cA),(.lst .cnd bA),(.str dA),(.int .i64 eA)]))]⟩
noncomputable def sh0 (r:Rule) (ns:List (List UInt8)) (k2:Y2):R :=
  condB (!(rulesB ([r]))) (some ((.tup [(.ful 0),(.bool false),(.int .i64 (1:Int))]),[(0,.rows .span ([]:List Span))])) (chk (nle (List.length ns) 4000) (condB (dupB ns) (some ((.tup [(.ful 0),(.bool false),(.int .i64 (10:Int))]),[(0,.rows .span ([]:List Span))])) (chk ((nle (List.length r.rw) 90000&&List.all r.rw (fewS ns))) (condB (List.any r.rw (lacks ns)) (some ((.tup [(.ful 0),(.bool false),(.int .i64 (9:Int))]),[(0,.rows .span ([]:List Span))])) (k2 ([]:List Span) ns (Int.ofNat (List.length ns)) (0:Int) r.rn r.rw r.rl r.rs)))))
noncomputable def sh1 (qA:List Span):R :=
  some ((.tup [(.ful 0),(.bool true),(.int .i64 (0:Int))]),[(0,.rows .span qA)])
noncomputable def sh2 (qA:List Span) (wA:List (List UInt8)) (sA:Int) (vA:Int) (cA:List UInt8) (bA:List Cnd) (dA:List UInt8) (eA:Int) (k1:Y1) (k2:Y2):R :=
  condB (ilt vA sA) (chk (inb vA (List.length wA)) (chk (okW (Rule.rw (⟨cA,bA,dA,eA⟩:Rule))) (condB (ilt (Span.shi (nar (List.getD wA (Int.toNat vA) d_str) (allS) (Rule.rw (⟨cA,bA,dA,eA⟩:Rule)))) (Span.slo (nar (List.getD wA (Int.toNat vA) d_str) (allS) (Rule.rw (⟨cA,bA,dA,eA⟩:Rule))))) (some ((.tup [(.ful 0),(.bool false),(.int .i64 (0:Int))]),[(0,.rows .span ([]:List Span))])) (chk (nle ((List.length qA+List.length ([(nar (List.getD wA (Int.toNat vA) d_str) (allS) (Rule.rw (⟨cA,bA,dA,eA⟩:Rule)))]:List Span)) * 16) 140737488355328&&nle (List.length qA+List.length ([(nar (List.getD wA (Int.toNat vA) d_str) (allS) (Rule.rw (⟨cA,bA,dA,eA⟩:Rule)))]:List Span)) 9223372036854775807) (k2 (qA++([(nar (List.getD wA (Int.toNat vA) d_str) (allS) (Rule.rw (⟨cA,bA,dA,eA⟩:Rule)))]:List Span)) wA sA (IntKind.wrap .i64 (vA+(1:Int))) cA bA dA eA))))) (k1 qA)
noncomputable def it2 (Kb1:Kont U El) (n:Nat):Kont U El:=iter nm2 (fun st' K'=>exec X (cdp [1,1,1,0,1,0,0] bd) (.seq none .d (.seq none .d (.seq none (.block (.seq none .d (.seq none (.region [(5,10)]) .d))) .d))) st' K' (Eblk 1 (cutK nm1 Kb1) (fun _ _=>none)) RR) n
noncomputable def ct1:Kont U El:=fun st=>exec X (cdp [1,1,1,1] bd) .d st RR (fun _ _=>none) RR
theorem P0 (r ns):exec X (cdp [] bd) (.seq none .d (.seq none .d (.seq none .d (.seq (some nm1) (.seq none .d (.block (.loop nm2 (.seq none .d (.seq none .d (.seq none (.block (.seq none .d (.seq none (.region [(5,10)]) .d))) .d)))))) .d)))) (fr0 r ns) RR (fun _ _=>none) RR=sh0 r ns (fun y0 y1 y2 y3 y4 y5 y6 y7=>(hid (it2 (hid ct1) 100000)) (fr2 y0 y1 y2 y3 y4 y5 y6 y7)):=by kernel_rfl
theorem P1 (qA):ct1 (fr1 qA)=sh1 qA:=by kernel_rfl
theorem P2 (qA wA sA vA cA bA dA eA) (Kb1 Kb2:Kont U El):exec X (cdp [1,1,1,0,1,0,0] bd) (.seq none .d (.seq none .d (.seq none (.block (.seq none .d (.seq none (.region [(5,10)]) .d))) .d))) (fr2 qA wA sA vA cA bA dA eA) (cutK nm2 Kb2) (Eblk 1 (cutK nm1 Kb1) (fun _ _=>none)) RR=sh2 qA wA sA vA cA bA dA eA (fun y0=>Kb1 (fr1 y0)) (fun y0 y1 y2 y3 y4 y5 y6 y7=>Kb2 (fr2 y0 y1 y2 y3 y4 y5 y6 y7)):=by kernel_rfl
noncomputable def f1 (qA:List Span):R:=sh1 qA
noncomputable def f2:Nat→Y2
  | 0=>fun _ _ _ _ _ _ _ _=>none
  | n+1=>fun qA wA sA vA cA bA dA eA=>sh2 qA wA sA vA cA bA dA eA f1 (f2 n)
noncomputable def f0 (r:Rule) (ns:List (List UInt8)):R:=sh0 r ns (f2 100000)
theorem T1 (qA):(hid ct1) (fr1 qA)=f1 qA:=by
  refine (congrFun (hid_eq _) _).trans <| (P1 qA).trans ?_
  show _=sh1 qA
  rfl
theorem T2:∀ (n:Nat),∀ qA wA sA vA cA bA dA eA,it2 (hid ct1) n (fr2 qA wA sA vA cA bA dA eA)=f2 n qA wA sA vA cA bA dA eA:=by
  intro n
  induction n with
  | zero=>intros; rfl
  | succ n ih =>
    intro qA wA sA vA cA bA dA eA
    refine (P2 qA wA sA vA cA bA dA eA (hid ct1) (it2 (hid ct1) n)).trans ?_
    show _=sh2 qA wA sA vA cA bA dA eA f1 (f2 n)
    simp only [T1,ih]
theorem H2 (qA wA sA vA cA bA dA eA):hid (it2 (hid ct1) 100000) (fr2 qA wA sA vA cA bA dA eA)=f2 100000 qA wA sA vA cA bA dA eA:=(congrFun (hid_eq _) _).trans (T2 100000 qA wA sA vA cA bA dA eA)
theorem T0 (r ns):exec X bd (.seq none .d (.seq none .d (.seq none .d (.seq (some nm1) (.seq none .d (.block (.loop nm2 (.seq none .d (.seq none .d (.seq none (.block (.seq none .d (.seq none (.region [(5,10)]) .d))) .d)))))) .d)))) (fr0 r ns) RR (fun _ _=>none) RR=f0 r ns:=by
  refine (P0 r ns).trans ?_
  show _=sh0 r ns (f2 100000)
  simp only [H2]
theorem run (r ns):runFn X bd (.seq none .d (.seq none .d (.seq none .d (.seq (some nm1) (.seq none .d (.block (.loop nm2 (.seq none .d (.seq none .d (.seq none (.block (.seq none .d (.seq none (.region [(5,10)]) .d))) .d)))))) .d)))) nmR [4,5,6] [4] [(.agg [(.str r.rn),(.lst .cnd r.rw),(.str r.rl),(.int .i64 r.rs)]),(.lst .str ns)]=f0 r ns:=T0 r ns
theorem loop (r:Rule) (hw:okW r.rw=true) (ns:List (List UInt8)) (hl:ns.length≤4000):∀ (n i:Nat) (out:List Span),ns.length < n+i→i≤ns.length→out.length=i →
    f2 n out ns (Int.ofNat ns.length) (i:Int) r.rn r.rw r.rl r.rs=boxR out (boxO r.rw (ns.drop i)):=by
  intro n
  induction n with
  | zero=>intro i out h1 h2; omega
  | succ n ih =>
    intro i out h1 h2 h3
    show sh2 out ns (Int.ofNat ns.length) (i:Int) r.rn r.rw r.rl r.rs f1 (f2 n)=_
    unfold sh2
    by_cases hi:i < ns.length
    · rw [iltT (by simp; omega), inbT hi, toNat_nat, getD_lt hi, drop_lt hi, hw, wrapS i (by omega), ih (i + 1) _ (by omega) hi (by simp; omega), boxR_map]
      rw [nleT (show _≤140737488355328 by simp; omega),nleT (show _≤9223372036854775807 by simp; omega)]
      show condB (emptyS (nar ns[i] allS r.rw)) _ _=_
      rw [show boxO r.rw (ns[i] :: ns.drop (i+1))=bif emptyS (nar ns[i] allS r.rw) then none else (boxO r.rw (ns.drop (i+1))).map (nar ns[i] allS r.rw :: ·) from rfl]
      cases emptyS (nar ns[i] allS r.rw)<;>rfl
    · have : i = ns.length := by omega
      subst this
      rw [iltF (by simp),List.drop_length]
      show outX out true 0=boxR out (some [])
      simp [boxR]
theorem f0_eq (r : Rule) (ns : List (List UInt8)) (h : nle (List.length ns) 4000 = true) : f0 r ns = outX (boxL r ns) (boxB r ns) (boxE r ns) := by
  have hl:=nleI h
  show sh0 r ns (f2 100000)=_
  unfold sh0 boxL boxB boxE boxOk namedZ
  rw [rules1,h]
  cases hr:ruleB r with
  | false=>rfl
  | true =>
    have h1:=(ruleB_len hr).1
    have h2:(nle r.rw.length 90000&&List.all r.rw (fewS ns))=true:=by
      rw [nleT (show r.rw.length≤90000 by omega),Bool.true_and]
      exact List.all_eq_true.2 fun c _=>nleT (show ns.length≤90000 by omega)
    rw [h2]
    cases dupB ns with
    | true=>rfl
    | false =>
      cases List.any r.rw (lacks ns) with
      | true=>rfl
      | false =>
        show f2 100000 [] ns (Int.ofNat ns.length) ((0:Nat):Int) r.rn r.rw r.rl r.rs=_
        rw [loop r (ruleB_okW hr) ns hl 100000 0 [] (by omega) (by omega) rfl,boxR_spec,List.drop_zero]
        rfl
theorem ok:CtxOk Tryz.prog X:=ctxOk tab (spC valid.spOk (spC bx1C.spOk (spC program.spOk (spC twice.spOk (spC narrowed.spOk (spC all_.spOk (spC empty.spOk spN))))))) dpN
theorem okM:MOk Tryz.prog X:=fun g sp h=>by cases h
theorem spec (r:Rule) (ns:List (List UInt8)) (h:(nle (List.length ns) 4000)=true):CallSpec Tryz.prog E 46 [(.agg [(.str r.rn),(.lst .cnd r.rw),(.str r.rl),(.int .i64 r.rs)]),(.lst .str ns)] (.tup [(.ful 0),(.bool (boxB r ns)),(.int .i64 (boxE r ns))]) [(0,.rows .span (boxL r ns))] :=
  runFn_sound ok okM Tryz.call46 Tryz.func46 (by kernel_rfl) (by kernel_rfl) (by kernel_rfl) (by show 2≤42; decide) (by decide) (by rfl) ((run r ns).trans (f0_eq r ns h))
noncomputable def sp:Sp U El:=fun args k=>match args with
  | [.agg [.str r_rn,.lst .cnd r_rw,.str r_rl,.int .i64 r_rs],.lst .str ns]=>chk (nle (List.length ns) 4000) (k (.tup [(.ful 0),(.bool (boxB (⟨r_rn,r_rw,r_rl,r_rs⟩:Rule) ns)),(.int .i64 (boxE (⟨r_rn,r_rw,r_rl,r_rs⟩:Rule) ns))]) [(0,.rows .span (boxL (⟨r_rn,r_rw,r_rl,r_rs⟩:Rule) ns))])
  | _=>none
theorem spOk:SpOk Tryz.prog E 46 sp where
  det:=fun vs=>by
    unfold sp
    split
    · exact det_c _ _ _
    · exact ⟨none,fun _=>rfl⟩
  ok:=fun vs k r h=>by
    unfold sp at h
    split at h
    · obtain ⟨h1, h2⟩ := chk_some h
      exact ⟨_,_,spec ⟨_,_,_,_⟩ _ h1,h2⟩
    · cases h
end box_
theorem find_self : ∀ (ns : List (List UInt8)) (j i : Nat) (hi : i < ns.length), findZ (fun x => x == ns[i]) j ns = ((j + i : Nat) : Int) ∨ (findZ (fun x => x == ns[i]) j ns ≠ ((j + i : Nat) : Int) ∧ ¬ ns.Nodup) := by
  intro ns
  induction ns with
  | nil=>intro j i hi; simp at hi
  | cons y ns ih =>
    intro j i hi
    cases i with
    | zero=>left; simp [findZ]
    | succ i =>
      simp only [List.getElem_cons_succ]
      have hi':i < ns.length:=by simpa using hi
      unfold findZ
      cases e:y == ns[i] with
      | true =>
        right
        have e':y=ns[i]:=by simpa using e
        refine ⟨by simp only [cond_true]; omega,fun h => ?_⟩
        exact (List.nodup_cons.1 h).1 (e' ▸ List.getElem_mem hi')
      | false =>
        simp only [cond_false]
        rcases ih (j+1) i hi' with h | ⟨h1,h2⟩
        · left; rw [h]; omega
        · right; exact ⟨by omega,fun h=>h2 (List.nodup_cons.1 h).2⟩
theorem nodup_of_find:∀ (ns:List (List UInt8)),(∀ (i:Nat) (hi:i < ns.length),findZ (fun x=>x == ns[i]) 0 ns=(i:Int))→ns.Nodup:=by
  intro ns h
  refine List.pairwise_iff_getElem.2 fun i j hi hj hij e => ?_
  have h1:=h i hi
  have h2:=h j hj
  rw [e] at h1
  rw [h1] at h2
  omega
theorem lacks_find (ns:List (List UInt8)) (c:Cnd):ilt (findZ (fun x=>x == c.cn) 0 ns) 0=lacks ns c:=by
  have h:=findZ_any (fun x=>x == c.cn) ns 0
  have h2:List.any ns (eqStr c.cn)=List.any ns (fun x=>x == c.cn):=by
    congr 1; funext x; unfold eqStr; exact Bool.beq_comm ..
  unfold lacks
  rw [h2,← h,ile_ilt]
namespace rnamed
noncomputable def bd:Code:=(Tryz.f100.body).getD .skip
noncomputable def X:Ctx U El:=⟨E,tds,zeros,eqs,specOf [(122,rfind.sp)],100000,37,dspecOf [],fun _=>none⟩
noncomputable def nmR:Norm U:=⟨[],[4],[],[],[],[],[]⟩
noncomputable def RR:Kont U El:=fun st=>normK nmR st (retFin [4] [])
noncomputable def nm1:Norm U:=⟨[],[1,2],[2],[],[],[],[(2,1,.cnd)]⟩
noncomputable def nm2:Norm U:=⟨[],[1,2,5],[2],[],[],[],[(2,1,.cnd)]⟩
noncomputable def nm3:Norm U:=⟨[],[],[],[],[],[],[]⟩
noncomputable def nm4:Norm U:=⟨[],[1,2,6],[2],[],[],[],[(2,1,.cnd)]⟩
abbrev Y1:=(List (List UInt8))→(List UInt8)→(List Cnd)→(List UInt8)→Int→R
abbrev Y2:=(List (List UInt8))→Int→(List UInt8)→(List Cnd)→(List UInt8)→Int→R
abbrev Y3:=R
abbrev Y4:=(List (List UInt8))→Int→(List UInt8)→(List Cnd)→(List UInt8)→Int→R
noncomputable def fr0 (r:Rule) (ns:List (List UInt8)):St U El:=⟨[(0,(.agg [(.str r.rn),(.lst .cnd r.rw),(.str r.rl),(.int .i64 r.rs)])),(1,(.lst .str ns))],[]⟩
noncomputable def fr1 (aA:List (List UInt8)) (cA:List UInt8) (bA:List Cnd) (dA:List UInt8) (eA:Int):St U El:=⟨[(1,(.lst .str aA)),(2,(.ptr 2 0))],[(2,(.box 0 [(.str cA),(.lst .cnd bA),(.str dA),(.int .i64 eA)]))]⟩
noncomputable def fr2 (aA:List (List UInt8)) (i5:Int) (cA:List UInt8) (bA:List Cnd) (dA:List UInt8) (eA:Int):St U El:=⟨[(1,(.lst .str aA)),(2,(.ptr 2 0)),(5,(.int .i64 i5))],[(2,(.box 0 [(.str cA),(.lst .cnd bA),(.str dA),(.int .i64 eA)]))]⟩
noncomputable def fr3:St U El:=⟨[],[]⟩
noncomputable def fr4 (aA:List (List UInt8)) (i6:Int) (cA:List UInt8) (bA:List Cnd) (dA:List UInt8) (eA:Int):St U El:=⟨[(1,(.lst .str aA)),(2,(.ptr 2 0)),(6,(.int .i64 i6))],[(2,(.box 0 [(.str cA),(.lst .cnd bA),(.str dA),(.int .i64 eA)]))]⟩
noncomputable def sh0 (r:Rule) (ns:List (List UInt8)) (k2:Y2):R :=
  k2 ns (0:Int) r.rn r.rw r.rl r.rs
noncomputable def sh1 (aA:List (List UInt8)) (cA:List UInt8) (bA:List Cnd) (dA:List UInt8) (eA:Int) (k4:Y4):R :=
  k4 aA (0:Int) cA bA dA eA
noncomputable def sh2 (aA:List (List UInt8)) (i5:Int) (cA:List UInt8) (bA:List Cnd) (dA:List UInt8) (eA:Int) (k1:Y1) (k2:Y2):R :=
  condB (ilt i5 (Int.ofNat (List.length aA))) (chk (inb i5 (List.length aA)) (chk (nle (List.length aA) 90000) (condB ((findZ (fun x=>x == (List.getD aA (Int.toNat i5) d_str)) 0 aA) != i5) (some ((.int .i64 (10:Int)),[])) (k2 aA (IntKind.wrap .i64 (i5+(1:Int))) cA bA dA eA)))) (k1 aA cA bA dA eA)
noncomputable def sh3:R :=
  some ((.int .i64 (0:Int)),[])
noncomputable def sh4 (aA:List (List UInt8)) (i6:Int) (cA:List UInt8) (bA:List Cnd) (dA:List UInt8) (eA:Int) (k3:Y3) (k4:Y4):R :=
  condB (ilt i6 (Int.ofNat (List.length bA))) (chk (inb i6 (List.length bA)) (chk (nle (List.length aA) 90000) (condB (ilt (findZ (fun x=>x == ((List.getD bA (Int.toNat i6) d_cnd).cn)) 0 aA) (0:Int)) (some ((.int .i64 (9:Int)),[])) (k4 aA (IntKind.wrap .i64 (i6+(1:Int))) cA bA dA eA)))) (k3)
noncomputable def it2 (Kb1:Kont U El) (n:Nat):Kont U El:=iter nm2 (fun st' K'=>exec X (cdp [1,0,1,0,0] bd) .d st' K' (Eblk 0 (cutK nm1 Kb1) (fun _ _=>none)) RR) n
noncomputable def it4 (Kb3:Kont U El) (n:Nat):Kont U El:=iter nm4 (fun st' K'=>exec X (cdp [1,1,0,1,0,0] bd) .d st' K' (Eblk 2 (cutK nm3 Kb3) (fun _ _=>none)) RR) n
noncomputable def ct1:Kont U El:=fun st=>exec X (cdp [1,1] bd) (.seq (some nm3) (.seq none .d (.block (.loop nm4 .d))) .d) st RR (fun _ _=>none) RR
noncomputable def ct3:Kont U El:=fun st=>exec X (cdp [1,1,1] bd) .d st RR (fun _ _=>none) RR
theorem P0 (r ns):exec X (cdp [] bd) (.seq none .d (.seq (some nm1) (.seq none .d (.block (.loop nm2 .d))) (.seq (some nm3) (.seq none .d (.block (.loop nm4 .d))) .d))) (fr0 r ns) RR (fun _ _=>none) RR=sh0 r ns (fun y0 y1 y2 y3 y4 y5=>(hid (it2 (hid ct1) 100000)) (fr2 y0 y1 y2 y3 y4 y5)):=by kernel_rfl
theorem P1 (aA cA bA dA eA):ct1 (fr1 aA cA bA dA eA)=sh1 aA cA bA dA eA (fun y0 y1 y2 y3 y4 y5=>(hid (it4 (hid ct3) 100000)) (fr4 y0 y1 y2 y3 y4 y5)):=by kernel_rfl
theorem P2 (aA i5 cA bA dA eA) (Kb1 Kb2:Kont U El):exec X (cdp [1,0,1,0,0] bd) .d (fr2 aA i5 cA bA dA eA) (cutK nm2 Kb2) (Eblk 0 (cutK nm1 Kb1) (fun _ _=>none)) RR=sh2 aA i5 cA bA dA eA (fun y0 y1 y2 y3 y4=>Kb1 (fr1 y0 y1 y2 y3 y4)) (fun y0 y1 y2 y3 y4 y5=>Kb2 (fr2 y0 y1 y2 y3 y4 y5)):=by kernel_rfl
theorem P3:ct3 (fr3)=sh3:=by kernel_rfl
theorem P4 (aA i6 cA bA dA eA) (Kb3 Kb4:Kont U El):exec X (cdp [1,1,0,1,0,0] bd) .d (fr4 aA i6 cA bA dA eA) (cutK nm4 Kb4) (Eblk 2 (cutK nm3 Kb3) (fun _ _=>none)) RR=sh4 aA i6 cA bA dA eA (Kb3 (fr3)) (fun y0 y1 y2 y3 y4 y5=>Kb4 (fr4 y0 y1 y2 y3 y4 y5)):=by kernel_rfl
noncomputable def f3:R:=sh3
noncomputable def f4:Nat→Y4
  | 0=>fun _ _ _ _ _ _=>none
  | n+1=>fun aA i6 cA bA dA eA=>sh4 aA i6 cA bA dA eA f3 (f4 n)
noncomputable def f1 (aA:List (List UInt8)) (cA:List UInt8) (bA:List Cnd) (dA:List UInt8) (eA:Int):R:=sh1 aA cA bA dA eA (f4 100000)
noncomputable def f2:Nat→Y2
  | 0=>fun _ _ _ _ _ _=>none
  | n+1=>fun aA i5 cA bA dA eA=>sh2 aA i5 cA bA dA eA f1 (f2 n)
noncomputable def f0 (r:Rule) (ns:List (List UInt8)):R:=sh0 r ns (f2 100000)
theorem T3:(hid ct3) (fr3)=f3:=by
  refine (congrFun (hid_eq _) _).trans <| (P3).trans ?_
  show _=sh3
  rfl
theorem T4:∀ (n:Nat),∀ aA i6 cA bA dA eA,it4 (hid ct3) n (fr4 aA i6 cA bA dA eA)=f4 n aA i6 cA bA dA eA:=by
  intro n
  induction n with
  | zero=>intros; rfl
  | succ n ih =>
    intro aA i6 cA bA dA eA
    refine (P4 aA i6 cA bA dA eA (hid ct3) (it4 (hid ct3) n)).trans ?_
    show _=sh4 aA i6 cA bA dA eA f3 (f4 n)
    simp only [T3,ih]
theorem H4 (aA i6 cA bA dA eA):hid (it4 (hid ct3) 100000) (fr4 aA i6 cA bA dA eA)=f4 100000 aA i6 cA bA dA eA:=(congrFun (hid_eq _) _).trans (T4 100000 aA i6 cA bA dA eA)
theorem T1 (aA cA bA dA eA):(hid ct1) (fr1 aA cA bA dA eA)=f1 aA cA bA dA eA:=by
  refine (congrFun (hid_eq _) _).trans <| (P1 aA cA bA dA eA).trans ?_
  show _=sh1 aA cA bA dA eA (f4 100000)
  simp only [H4]
theorem T2:∀ (n:Nat),∀ aA i5 cA bA dA eA,it2 (hid ct1) n (fr2 aA i5 cA bA dA eA)=f2 n aA i5 cA bA dA eA:=by
  intro n
  induction n with
  | zero=>intros; rfl
  | succ n ih =>
    intro aA i5 cA bA dA eA
    refine (P2 aA i5 cA bA dA eA (hid ct1) (it2 (hid ct1) n)).trans ?_
    show _=sh2 aA i5 cA bA dA eA f1 (f2 n)
    simp only [T1,ih]
theorem H2 (aA i5 cA bA dA eA):hid (it2 (hid ct1) 100000) (fr2 aA i5 cA bA dA eA)=f2 100000 aA i5 cA bA dA eA:=(congrFun (hid_eq _) _).trans (T2 100000 aA i5 cA bA dA eA)
theorem T0 (r ns):exec X bd (.seq none .d (.seq (some nm1) (.seq none .d (.block (.loop nm2 .d))) (.seq (some nm3) (.seq none .d (.block (.loop nm4 .d))) .d))) (fr0 r ns) RR (fun _ _=>none) RR=f0 r ns:=by
  refine (P0 r ns).trans ?_
  show _=sh0 r ns (f2 100000)
  simp only [H2]
theorem run (r ns):runFn X bd (.seq none .d (.seq (some nm1) (.seq none .d (.block (.loop nm2 .d))) (.seq (some nm3) (.seq none .d (.block (.loop nm4 .d))) .d))) nmR [4] [] [(.agg [(.str r.rn),(.lst .cnd r.rw),(.str r.rl),(.int .i64 r.rs)]),(.lst .str ns)]=f0 r ns:=T0 r ns
theorem loop4 (r:Rule) (ns:List (List UInt8)) (hl:ns.length≤4000) (hr:r.rw.length≤20):∀ (n i:Nat),r.rw.length < n+i→i≤r.rw.length→f4 n ns (i:Int) r.rn r.rw r.rl r.rs=outI (bif List.any (r.rw.drop i) (lacks ns) then 9 else 0):=by
  intro n
  induction n with
  | zero=>intro i h1 h2; omega
  | succ n ih =>
    intro i h1 h2
    show sh4 ns (i:Int) r.rn r.rw r.rl r.rs f3 (f4 n)=_
    unfold sh4
    by_cases hi:i < r.rw.length
    · rw [iltT (by simp; omega), inbT hi, toNat_nat, getD_lt hi, drop_lt hi, nleT (show ns.length ≤ 90000 by omega), lacks_find, wrapS i (by omega), ih (i + 1) (by omega) hi, List.any_cons]
      cases lacks ns r.rw[i]<;>rfl
    · have : i = r.rw.length := by omega
      subst this
      rw [iltF (by simp),List.drop_length]
      rfl
theorem loop2 (r : Rule) (ns : List (List UInt8)) (hl : ns.length ≤ 4000) : ∀ (n i : Nat), ns.length < n + i → i ≤ ns.length → (∀ (j : Nat) (hj : j < ns.length), j < i → findZ (fun x => x == ns[j]) 0 ns = (j : Int)) → f2 n ns (i : Int) r.rn r.rw r.rl r.rs = bif dupB ns then outI 10 else f1 ns r.rn r.rw r.rl r.rs := by
  intro n
  induction n with
  | zero=>intro i h1 h2; omega
  | succ n ih =>
    intro i h1 h2 h3
    show sh2 ns (i:Int) r.rn r.rw r.rl r.rs f1 (f2 n)=_
    unfold sh2
    by_cases hi:i < ns.length
    · rw [iltT (by simp; omega), inbT hi, toNat_nat, getD_lt hi, nleT (show ns.length ≤ 90000 by omega)]
      rcases find_self ns 0 i hi with h | ⟨h,hd⟩
      · rw [Nat.zero_add] at h
        rw [h,bne_self_eq_false,wrapS i (by omega)]
        exact ih (i+1) (by omega) hi fun j hj hji=>by
          rcases Nat.lt_succ_iff_lt_or_eq.1 hji with h4 | rfl
          · exact h3 j hj h4
          · exact h
      · rw [Nat.zero_add] at h
        rw [show ((findZ (fun x=>x == ns[i]) 0 ns) != (i:Int))=true by simpa using h]
        unfold dupB
        rw [decide_eq_false hd]
        rfl
    · have : i = ns.length := by omega
      subst this
      rw [iltF (by simp)]
      have hn:=nodup_of_find ns fun j hj=>h3 j hj hj
      unfold dupB
      rw [decide_eq_true hn]
      rfl
theorem f0_eq (r:Rule) (ns:List (List UInt8)) (h:(nle (List.length ns) 4000&&ruleB r)=true):f0 r ns=outI (namedZ r ns):=by
  simp only [Bool.and_eq_true] at h
  have hl:=nleI h.1
  have h1:=(ruleB_len h.2).1
  show f2 100000 ns ((0:Nat):Int) r.rn r.rw r.rl r.rs=_
  rw [loop2 r ns hl 100000 0 (by omega) (by omega) (fun j _ h=>by omega)]
  unfold namedZ
  cases dupB ns with
  | true=>rfl
  | false =>
    show f4 100000 ns ((0:Nat):Int) r.rn r.rw r.rl r.rs=_
    rw [loop4 r ns hl h1 100000 0 (by omega) (by omega),List.drop_zero]
    rfl
theorem ok:CtxOk Tryz.prog X:=ctxOk tab (spC rfind.spOk spN) dpN
theorem okM:MOk Tryz.prog X:=fun g sp h=>by cases h
theorem spec (r:Rule) (ns:List (List UInt8)) (h:((nle (List.length ns) 4000&&ruleB r))=true):CallSpec Tryz.prog E 100 [(.agg [(.str r.rn),(.lst .cnd r.rw),(.str r.rl),(.int .i64 r.rs)]),(.lst .str ns)] (.int .i64 (namedZ r ns)) [] :=
  runFn_sound ok okM Tryz.call100 Tryz.func100 (by kernel_rfl) (by kernel_rfl) (by kernel_rfl) (by show 2≤37; decide) (by decide) (by rfl) ((run r ns).trans (f0_eq r ns h))
noncomputable def sp:Sp U El:=fun args k=>match args with
  | [.agg [.str r_rn,.lst .cnd r_rw,.str r_rl,.int .i64 r_rs],.lst .str ns]=>chk ((nle (List.length ns) 4000&&ruleB (⟨r_rn,r_rw,r_rl,r_rs⟩:Rule))) (k (.int .i64 (namedZ (⟨r_rn,r_rw,r_rl,r_rs⟩:Rule) ns)) [])
  | _=>none
theorem spOk:SpOk Tryz.prog E 100 sp where
  det:=fun vs=>by
    unfold sp
    split
    · exact det_c _ _ _
    · exact ⟨none,fun _=>rfl⟩
  ok:=fun vs k r h=>by
    unfold sp at h
    split at h
    · obtain ⟨h1, h2⟩ := chk_some h
      exact ⟨_,_,spec ⟨_,_,_,_⟩ _ h1,h2⟩
    · cases h
end rnamed
namespace rbox
noncomputable def bd:Code:=(Tryz.f48.body).getD .skip
noncomputable def X:Ctx U El:=⟨E,tds,zeros,eqs,specOf [(99,rvalid1.sp),(100,rnamed.sp),(101,rside.sp)],100000,43,dspecOf [],fun _=>none⟩
noncomputable def nmR:Norm U:=⟨[(4,.span)],[4,5,6],[4],[],[],[],[]⟩
noncomputable def RR:Kont U El:=fun st=>normK nmR st (retFin [4,5,6] [4])
noncomputable def nm1:Norm U:=⟨[(8,.span)],[8],[8],[],[],[],[]⟩
noncomputable def nm2:Norm U:=⟨[(8,.span)],[1,2,8,9],[8,2],[],[],[],[(2,1,.cnd)]⟩
abbrev Y1:=(List Span)→R
abbrev Y2:=(List (List UInt8))→(List Span)→Int→(List UInt8)→(List Cnd)→(List UInt8)→Int→R
noncomputable def fr0 (r:Rule) (ns:List (List UInt8)):St U El:=⟨[(0,(.agg [(.str r.rn),(.lst .cnd r.rw),(.str r.rl),(.int .i64 r.rs)])),(1,(.lst .str ns))],[]⟩
noncomputable def fr1 (rA:List Span):St U El:=⟨[(8,(.ful 8))],[(8,(.rows .span rA))]⟩
noncomputable def fr2 (aA:List (List UInt8)) (rA:List Span) (i9:Int) (cA:List UInt8) (bA:List Cnd) (dA:List UInt8) (eA:Int):St U El:=⟨[(1,(.lst .str aA)),(2,(.ptr 2 0)),(8,(.ful 8)),(9,(.int .i64 i9))],[(8,(.rows .span rA)),(2,(.box 0 [(.str cA),(.lst .cnd bA),(.str dA),(.int .i64 eA)]))]⟩
noncomputable def sh0 (r:Rule) (ns:List (List UInt8)) (k2:Y2):R :=
  condB (!(ruleB r)) (some ((.tup [(.ful 0),(.bool false),(.int .i64 (1:Int))]),[(0,.rows .span ([]:List Span))])) (chk ((nle (List.length ns) 4000&&ruleB r)) (condB ((namedZ r ns) != (0:Int)) (some ((.tup [(.ful 0),(.bool false),(.int .i64 (namedZ r ns))]),[(0,.rows .span ([]:List Span))])) (k2 ns ([]:List Span) (0:Int) r.rn r.rw r.rl r.rs)))
noncomputable def sh1 (rA:List Span):R :=
  some ((.tup [(.ful 0),(.bool true),(.int .i64 (0:Int))]),[(0,.rows .span rA)])
noncomputable def sh2 (aA:List (List UInt8)) (rA:List Span) (i9:Int) (cA:List UInt8) (bA:List Cnd) (dA:List UInt8) (eA:Int) (k1:Y1) (k2:Y2):R :=
  condB (ilt i9 (Int.ofNat (List.length aA))) (chk (inb i9 (List.length aA)) (chk (okW (Rule.rw (⟨cA,bA,dA,eA⟩:Rule))) (condB (!(ile (Span.slo (nar (List.getD aA (Int.toNat i9) d_str) allS (Rule.rw (⟨cA,bA,dA,eA⟩:Rule)))) (Span.shi (nar (List.getD aA (Int.toNat i9) d_str) allS (Rule.rw (⟨cA,bA,dA,eA⟩:Rule)))))) (some ((.tup [(.ful 0),(.bool false),(.int .i64 (0:Int))]),[(0,.rows .span ([]:List Span))])) (chk (nle ((List.length rA+List.length ([(nar (List.getD aA (Int.toNat i9) d_str) allS (Rule.rw (⟨cA,bA,dA,eA⟩:Rule)))]:List Span)) * 16) 140737488355328&&nle (List.length rA+List.length ([(nar (List.getD aA (Int.toNat i9) d_str) allS (Rule.rw (⟨cA,bA,dA,eA⟩:Rule)))]:List Span)) 9223372036854775807) (k2 aA (rA++([(nar (List.getD aA (Int.toNat i9) d_str) allS (Rule.rw (⟨cA,bA,dA,eA⟩:Rule)))]:List Span)) (IntKind.wrap .i64 (i9+(1:Int))) cA bA dA eA))))) (k1 rA)
noncomputable def it2 (Kb1:Kont U El) (n:Nat):Kont U El:=iter nm2 (fun st' K'=>exec X (cdp [1,1,1,1,1,0,1,0,0] bd) (.seq none .d (.seq none (.block (.seq none (.region [(10,10)]) .d)) .d)) st' K' (Eblk 0 (cutK nm1 Kb1) (fun _ _=>none)) RR) n
noncomputable def ct1:Kont U El:=fun st=>exec X (cdp [1,1,1,1,1,1] bd) .d st RR (fun _ _=>none) RR
theorem P0 (r ns):exec X (cdp [] bd) (.seq none .d (.seq none .d (.seq none .d (.seq none .d (.seq none .d (.seq (some nm1) (.seq none .d (.block (.loop nm2 (.seq none .d (.seq none (.block (.seq none (.region [(10,10)]) .d)) .d))))) .d)))))) (fr0 r ns) RR (fun _ _=>none) RR=sh0 r ns (fun y0 y1 y2 y3 y4 y5 y6=>(hid (it2 (hid ct1) 100000)) (fr2 y0 y1 y2 y3 y4 y5 y6)):=by kernel_rfl
theorem P1 (rA):ct1 (fr1 rA)=sh1 rA:=by kernel_rfl
theorem P2 (aA rA i9 cA bA dA eA) (Kb1 Kb2:Kont U El):exec X (cdp [1,1,1,1,1,0,1,0,0] bd) (.seq none .d (.seq none (.block (.seq none (.region [(10,10)]) .d)) .d)) (fr2 aA rA i9 cA bA dA eA) (cutK nm2 Kb2) (Eblk 0 (cutK nm1 Kb1) (fun _ _=>none)) RR=sh2 aA rA i9 cA bA dA eA (fun y0=>Kb1 (fr1 y0)) (fun y0 y1 y2 y3 y4 y5 y6=>Kb2 (fr2 y0 y1 y2 y3 y4 y5 y6)):=by kernel_rfl
noncomputable def f1 (rA:List Span):R:=sh1 rA
noncomputable def f2:Nat→Y2
  | 0=>fun _ _ _ _ _ _ _=>none
  | n+1=>fun aA rA i9 cA bA dA eA=>sh2 aA rA i9 cA bA dA eA f1 (f2 n)
noncomputable def f0 (r:Rule) (ns:List (List UInt8)):R:=sh0 r ns (f2 100000)
theorem T1 (rA):(hid ct1) (fr1 rA)=f1 rA:=by
  refine (congrFun (hid_eq _) _).trans <| (P1 rA).trans ?_
  show _=sh1 rA
  rfl
theorem T2:∀ (n:Nat),∀ aA rA i9 cA bA dA eA,it2 (hid ct1) n (fr2 aA rA i9 cA bA dA eA)=f2 n aA rA i9 cA bA dA eA:=by
  intro n
  induction n with
  | zero=>intros; rfl
  | succ n ih =>
    intro aA rA i9 cA bA dA eA
    refine (P2 aA rA i9 cA bA dA eA (hid ct1) (it2 (hid ct1) n)).trans ?_
    show _=sh2 aA rA i9 cA bA dA eA f1 (f2 n)
    simp only [T1,ih]
theorem H2 (aA rA i9 cA bA dA eA):hid (it2 (hid ct1) 100000) (fr2 aA rA i9 cA bA dA eA)=f2 100000 aA rA i9 cA bA dA eA:=(congrFun (hid_eq _) _).trans (T2 100000 aA rA i9 cA bA dA eA)
theorem T0 (r ns):exec X bd (.seq none .d (.seq none .d (.seq none .d (.seq none .d (.seq none .d (.seq (some nm1) (.seq none .d (.block (.loop nm2 (.seq none .d (.seq none (.block (.seq none (.region [(10,10)]) .d)) .d))))) .d)))))) (fr0 r ns) RR (fun _ _=>none) RR=f0 r ns:=by
  refine (P0 r ns).trans ?_
  show _=sh0 r ns (f2 100000)
  simp only [H2]
theorem run (r ns):runFn X bd (.seq none .d (.seq none .d (.seq none .d (.seq none .d (.seq none .d (.seq (some nm1) (.seq none .d (.block (.loop nm2 (.seq none .d (.seq none (.block (.seq none (.region [(10,10)]) .d)) .d))))) .d)))))) nmR [4,5,6] [4] [(.agg [(.str r.rn),(.lst .cnd r.rw),(.str r.rl),(.int .i64 r.rs)]),(.lst .str ns)]=f0 r ns:=T0 r ns
theorem loop (r:Rule) (hw:okW r.rw=true) (ns:List (List UInt8)) (hl:ns.length≤4000):∀ (n i:Nat) (out:List Span),ns.length < n+i→i≤ns.length→out.length=i →
    f2 n ns out (i:Int) r.rn r.rw r.rl r.rs=boxR out (boxO r.rw (ns.drop i)):=by
  intro n
  induction n with
  | zero=>intro i out h1 h2; omega
  | succ n ih =>
    intro i out h1 h2 h3
    show sh2 ns out (i:Int) r.rn r.rw r.rl r.rs f1 (f2 n)=_
    unfold sh2
    by_cases hi:i < ns.length
    · rw [iltT (by simp; omega), inbT hi, toNat_nat, getD_lt hi, drop_lt hi, hw, wrapS i (by omega), ih (i + 1) _ (by omega) hi (by simp; omega), boxR_map, ile_ilt]
      rw [nleT (show _≤140737488355328 by simp; omega),nleT (show _≤9223372036854775807 by simp; omega)]
      show condB (emptyS (nar ns[i] allS r.rw)) _ _=_
      rw [show boxO r.rw (ns[i] :: ns.drop (i+1))=bif emptyS (nar ns[i] allS r.rw) then none else (boxO r.rw (ns.drop (i+1))).map (nar ns[i] allS r.rw :: ·) from rfl]
      cases emptyS (nar ns[i] allS r.rw)<;>rfl
    · have : i = ns.length := by omega
      subst this
      rw [iltF (by simp),List.drop_length]
      show outX out true 0=boxR out (some [])
      simp [boxR]
theorem f0_eq (r:Rule) (ns:List (List UInt8)) (h:nle (List.length ns) 4000=true):f0 r ns=outX (boxL r ns) (boxB r ns) (boxE r ns):=by
  have hl:=nleI h
  show sh0 r ns (f2 100000)=_
  unfold sh0 boxL boxB boxE boxOk
  rw [h]
  cases hr:ruleB r with
  | false=>rfl
  | true =>
    rw [bne0]
    cases he:namedZ r ns == 0 with
    | false=>rfl
    | true =>
      have he':namedZ r ns=0:=by simpa using he
      show f2 100000 ns [] ((0:Nat):Int) r.rn r.rw r.rl r.rs=_
      rw [loop r (ruleB_okW hr) ns hl 100000 0 [] (by omega) (by omega) rfl,boxR_spec,List.drop_zero,cond_true,he']
      rfl
theorem ok:CtxOk Tryz.prog X:=ctxOk tab (spC rvalid1.spOk (spC rnamed.spOk (spC rside.spOk spN))) dpN
theorem okM:MOk Tryz.prog X:=fun g sp h=>by cases h
theorem spec (r:Rule) (ns:List (List UInt8)) (h:(nle (List.length ns) 4000)=true):CallSpec Tryz.prog E 48 [(.agg [(.str r.rn),(.lst .cnd r.rw),(.str r.rl),(.int .i64 r.rs)]),(.lst .str ns)] (.tup [(.ful 0),(.bool (boxB r ns)),(.int .i64 (boxE r ns))]) [(0,.rows .span (boxL r ns))] :=
  runFn_sound ok okM Tryz.call48 Tryz.func48 (by kernel_rfl) (by kernel_rfl) (by kernel_rfl) (by show 2≤43; decide) (by decide) (by rfl) ((run r ns).trans (f0_eq r ns h))
noncomputable def sp:Sp U El:=fun args k=>match args with
  | [.agg [.str r_rn,.lst .cnd r_rw,.str r_rl,.int .i64 r_rs],.lst .str ns]=>chk (nle (List.length ns) 4000) (k (.tup [(.ful 0),(.bool (boxB (⟨r_rn,r_rw,r_rl,r_rs⟩:Rule) ns)),(.int .i64 (boxE (⟨r_rn,r_rw,r_rl,r_rs⟩:Rule) ns))]) [(0,.rows .span (boxL (⟨r_rn,r_rw,r_rl,r_rs⟩:Rule) ns))])
  | _=>none
theorem spOk:SpOk Tryz.prog E 48 sp where
  det:=fun vs=>by
    unfold sp
    split
    · exact det_c _ _ _
    · exact ⟨none,fun _=>rfl⟩
  ok:=fun vs k r h=>by
    unfold sp at h
    split at h
    · obtain ⟨h1, h2⟩ := chk_some h
      exact ⟨_,_,spec ⟨_,_,_,_⟩ _ h1,h2⟩
    · cases h
end rbox
noncomputable def clash (w:List Cnd) (c:Cnd):Bool:=emptyS (nar c.cn allS w)
noncomputable def togOk (a b:Rule):Bool:=ruleB a&&ruleB b
noncomputable def togB (a b:Rule):Bool:=togOk a b && !(List.any (a.rw++b.rw) (clash (a.rw++b.rw)))
noncomputable def togE (a b:Rule):Int:=bif togOk a b then 0 else 1
namespace together
noncomputable def bd:Code:=(Tryz.f47.body).getD .skip
noncomputable def X:Ctx U El:=⟨E,tds,zeros,eqs,specOf [(85,valid.sp),(91,program.sp),(95,narrowed.sp),(96,all_.sp),(97,empty.sp),(98,concatC.sp)],100000,40,dspecOf [],fun _=>none⟩
noncomputable def nmR:Norm U:=⟨[],[4,5],[],[],[],[],[]⟩
noncomputable def RR:Kont U El:=fun st=>normK nmR st (retFin [4,5] [])
noncomputable def nm1:Norm U:=⟨[],[2,3],[2,3],[],[],[],[(2,1,.cnd),(3,1,.cnd)]⟩
noncomputable def nm2:Norm U:=⟨[],[],[],[],[],[],[]⟩
noncomputable def nm3:Norm U:=⟨[(23,.cnd)],[2,3,23,24,25],[23,2,3],[],[],[],[(2,1,.cnd),(3,1,.cnd)]⟩
abbrev Y1:=(List UInt8)→(List Cnd)→(List UInt8)→Int→(List UInt8)→(List Cnd)→(List UInt8)→Int→R
abbrev Y2:=R
abbrev Y3:=(List Cnd)→Int→Int→(List UInt8)→(List Cnd)→(List UInt8)→Int→(List UInt8)→(List Cnd)→(List UInt8)→Int→R
noncomputable def fr0 (a:Rule) (b:Rule):St U El:=⟨[(0,(.agg [(.str a.rn),(.lst .cnd a.rw),(.str a.rl),(.int .i64 a.rs)])),(1,(.agg [(.str b.rn),(.lst .cnd b.rw),(.str b.rl),(.int .i64 b.rs)]))],[]⟩
noncomputable def fr1 (cA:List UInt8) (bA:List Cnd) (dA:List UInt8) (eA:Int) (kA:List UInt8) (iA:List Cnd) (lA:List UInt8) (mA:Int):St U El:=⟨[(2,(.ptr 2 0)),(3,(.ptr 3 0))],[(2,(.box 0 [(.str cA),(.lst .cnd bA),(.str dA),(.int .i64 eA)])),(3,(.box 0 [(.str kA),(.lst .cnd iA),(.str lA),(.int .i64 mA)]))]⟩
noncomputable def fr2:St U El:=⟨[],[]⟩
noncomputable def fr3 (iB:List Cnd) (wA:Int) (sA:Int) (cA:List UInt8) (bA:List Cnd) (dA:List UInt8) (eA:Int) (kA:List UInt8) (iA:List Cnd) (lA:List UInt8) (mA:Int):St U El:=⟨[(2,(.ptr 2 0)),(3,(.ptr 3 0)),(23,(.ful 23)),(24,(.int .i64 wA)),(25,(.int .i64 sA))],[(23,(.rows .cnd iB)),(2,(.box 0 [(.str cA),(.lst .cnd bA),(.str dA),(.int .i64 eA)])),(3,(.box 0 [(.str kA),(.lst .cnd iA),(.str lA),(.int .i64 mA)]))]⟩
noncomputable def sh0 (a:Rule) (b:Rule) (k1:Y1):R :=
  condB (!(rulesB ([a]))) (some ((.tup [(.bool false),(.int .i64 (1:Int))]),[])) (condB (!(rulesB ([b]))) (some ((.tup [(.bool false),(.int .i64 (1:Int))]),[])) (k1 a.rn a.rw a.rl a.rs b.rn b.rw b.rl b.rs))
noncomputable def sh1 (cA:List UInt8) (bA:List Cnd) (dA:List UInt8) (eA:Int) (kA:List UInt8) (iA:List Cnd) (lA:List UInt8) (mA:Int) (k3:Y3):R :=
  chk (lensOk ([bA,iA]:List (List Cnd))) (k3 (List.flatten ([bA,iA]:List (List Cnd))) (Int.ofNat (List.length (List.flatten ([bA,iA]:List (List Cnd))))) (0:Int) cA bA dA eA kA iA lA mA)
noncomputable def sh2:R :=
  some ((.tup [(.bool true),(.int .i64 (0:Int))]),[])
noncomputable def sh3 (iB:List Cnd) (wA:Int) (sA:Int) (cA:List UInt8) (bA:List Cnd) (dA:List UInt8) (eA:Int) (kA:List UInt8) (iA:List Cnd) (lA:List UInt8) (mA:Int) (k2:Y2) (k3:Y3):R :=
  condB (ilt sA wA) (chk (inb sA (List.length iB)) (chk (nlt (Int.toNat sA) (List.length iB)) (chk (okW (Rule.rw (⟨cA,bA,dA,eA⟩:Rule))) (chk (okW (Rule.rw (⟨kA,iA,lA,mA⟩:Rule))) (condB (ilt (Span.shi (nar ((List.getD iB (Int.toNat sA) d_cnd).cn) (nar ((List.getD iB (Int.toNat sA) d_cnd).cn) (allS) (Rule.rw (⟨cA,bA,dA,eA⟩:Rule))) (Rule.rw (⟨kA,iA,lA,mA⟩:Rule)))) (Span.slo (nar ((List.getD iB (Int.toNat sA) d_cnd).cn) (nar ((List.getD iB (Int.toNat sA) d_cnd).cn) (allS) (Rule.rw (⟨cA,bA,dA,eA⟩:Rule))) (Rule.rw (⟨kA,iA,lA,mA⟩:Rule))))) (some ((.tup [(.bool false),(.int .i64 (0:Int))]),[])) (k3 iB wA (IntKind.wrap .i64 (sA+(1:Int))) cA bA dA eA kA iA lA mA)))))) (k2)
noncomputable def it3 (Kb2:Kont U El) (n:Nat):Kont U El:=iter nm3 (fun st' K'=>exec X (cdp [1,1,0,1,0,0] bd) .d st' K' (Eblk 0 (cutK nm2 Kb2) (fun _ _=>none)) RR) n
noncomputable def ct1:Kont U El:=fun st=>exec X (cdp [1,1] bd) (.seq (some nm2) (.seq none .d (.block (.loop nm3 .d))) .d) st RR (fun _ _=>none) RR
noncomputable def ct2:Kont U El:=fun st=>exec X (cdp [1,1,1] bd) .d st RR (fun _ _=>none) RR
theorem P0 (a b):exec X (cdp [] bd) (.seq none .d (.seq (some nm1) .d (.seq (some nm2) (.seq none .d (.block (.loop nm3 .d))) .d))) (fr0 a b) RR (fun _ _=>none) RR=sh0 a b (fun y0 y1 y2 y3 y4 y5 y6 y7=>(hid ct1) (fr1 y0 y1 y2 y3 y4 y5 y6 y7)):=by kernel_rfl
theorem P1 (cA bA dA eA kA iA lA mA):ct1 (fr1 cA bA dA eA kA iA lA mA)=sh1 cA bA dA eA kA iA lA mA (fun y0 y1 y2 y3 y4 y5 y6 y7 y8 y9 y10=>(hid (it3 (hid ct2) 100000)) (fr3 y0 y1 y2 y3 y4 y5 y6 y7 y8 y9 y10)):=by kernel_rfl
theorem P2:ct2 (fr2)=sh2:=by kernel_rfl
theorem P3 (iB wA sA cA bA dA eA kA iA lA mA) (Kb2 Kb3:Kont U El):exec X (cdp [1,1,0,1,0,0] bd) .d (fr3 iB wA sA cA bA dA eA kA iA lA mA) (cutK nm3 Kb3) (Eblk 0 (cutK nm2 Kb2) (fun _ _=>none)) RR=sh3 iB wA sA cA bA dA eA kA iA lA mA (Kb2 (fr2)) (fun y0 y1 y2 y3 y4 y5 y6 y7 y8 y9 y10=>Kb3 (fr3 y0 y1 y2 y3 y4 y5 y6 y7 y8 y9 y10)):=by kernel_rfl
noncomputable def f2:R:=sh2
noncomputable def f3:Nat→Y3
  | 0=>fun _ _ _ _ _ _ _ _ _ _ _=>none
  | n+1=>fun iB wA sA cA bA dA eA kA iA lA mA=>sh3 iB wA sA cA bA dA eA kA iA lA mA f2 (f3 n)
noncomputable def f1 (cA:List UInt8) (bA:List Cnd) (dA:List UInt8) (eA:Int) (kA:List UInt8) (iA:List Cnd) (lA:List UInt8) (mA:Int):R:=sh1 cA bA dA eA kA iA lA mA (f3 100000)
noncomputable def f0 (a:Rule) (b:Rule):R:=sh0 a b f1
theorem T2:(hid ct2) (fr2)=f2:=by
  refine (congrFun (hid_eq _) _).trans <| (P2).trans ?_
  show _=sh2
  rfl
theorem T3:∀ (n:Nat),∀ iB wA sA cA bA dA eA kA iA lA mA,it3 (hid ct2) n (fr3 iB wA sA cA bA dA eA kA iA lA mA)=f3 n iB wA sA cA bA dA eA kA iA lA mA:=by
  intro n
  induction n with
  | zero=>intros; rfl
  | succ n ih =>
    intro iB wA sA cA bA dA eA kA iA lA mA
    refine (P3 iB wA sA cA bA dA eA kA iA lA mA (hid ct2) (it3 (hid ct2) n)).trans ?_
    show _=sh3 iB wA sA cA bA dA eA kA iA lA mA f2 (f3 n)
    simp only [T2,ih]
theorem H3 (iB wA sA cA bA dA eA kA iA lA mA):hid (it3 (hid ct2) 100000) (fr3 iB wA sA cA bA dA eA kA iA lA mA)=f3 100000 iB wA sA cA bA dA eA kA iA lA mA:=(congrFun (hid_eq _) _).trans (T3 100000 iB wA sA cA bA dA eA kA iA lA mA)
theorem T1 (cA bA dA eA kA iA lA mA):(hid ct1) (fr1 cA bA dA eA kA iA lA mA)=f1 cA bA dA eA kA iA lA mA:=by
  refine (congrFun (hid_eq _) _).trans <| (P1 cA bA dA eA kA iA lA mA).trans ?_
  show _=sh1 cA bA dA eA kA iA lA mA (f3 100000)
  simp only [H3]
theorem T0 (a b):exec X bd (.seq none .d (.seq (some nm1) .d (.seq (some nm2) (.seq none .d (.block (.loop nm3 .d))) .d))) (fr0 a b) RR (fun _ _=>none) RR=f0 a b:=by
  refine (P0 a b).trans ?_
  show _=sh0 a b f1
  simp only [T1]
theorem run (a b):runFn X bd (.seq none .d (.seq (some nm1) .d (.seq (some nm2) (.seq none .d (.block (.loop nm3 .d))) .d))) nmR [4,5] [] [(.agg [(.str a.rn),(.lst .cnd a.rw),(.str a.rl),(.int .i64 a.rs)]),(.agg [(.str b.rn),(.lst .cnd b.rw),(.str b.rl),(.int .i64 b.rs)])]=f0 a b:=T0 a b
theorem loop (a b:Rule) (ha:okW a.rw=true) (hb:okW b.rw=true) (l:List Cnd) (hl:l.length≤100):∀ (n i:Nat),l.length < n+i→i≤l.length →
    f3 n l (Int.ofNat l.length) (i:Int) a.rn a.rw a.rl a.rs b.rn b.rw b.rl b.rs=outV (!(List.any (l.drop i) (clash (a.rw++b.rw)))) 0:=by
  intro n
  induction n with
  | zero=>intro i h1 h2; omega
  | succ n ih =>
    intro i h1 h2
    show sh3 l (Int.ofNat l.length) (i:Int) a.rn a.rw a.rl a.rs b.rn b.rw b.rl b.rs f2 (f3 n)=_
    unfold sh3
    by_cases hi:i < l.length
    · rw [iltT (by simp; omega), inbT hi, toNat_nat, nltT hi, getD_lt hi, drop_lt hi, ha, hb, ← nar_append, wrapS i (by omega), ih (i + 1) (by omega) hi, List.any_cons]
      show condB (clash (a.rw++b.rw) l[i]) _ _=_
      cases clash (a.rw++b.rw) l[i]<;>rfl
    · have : i = l.length := by omega
      subst this
      rw [iltF (by simp),List.drop_length]
      rfl
theorem f0_eq (a b:Rule):f0 a b=outV (togB a b) (togE a b):=by
  show sh0 a b f1=_
  unfold sh0 togB togE togOk
  rw [rules1,rules1]
  cases ha:ruleB a with
  | false=>rfl
  | true =>
    cases hb:ruleB b with
    | false=>rfl
    | true =>
      have h1:=(ruleB_len ha).1; have h2:=(ruleB_len hb).1
      have hf:List.flatten ([a.rw,b.rw]:List (List Cnd))=a.rw++b.rw:=by simp
      show sh1 a.rn a.rw a.rl a.rs b.rn b.rw b.rl b.rs (f3 100000)=_
      unfold sh1
      rw [hf,show lensOk ([a.rw,b.rw]:List (List Cnd))=true by unfold lensOk; rw [hf,nleT (show ([a.rw,b.rw]:List (List Cnd)).length≤10 by simp),nleT (show (a.rw++b.rw).length≤4000 by simp; omega)]; rfl]
      exact loop a b (ruleB_okW ha) (ruleB_okW hb) (a.rw++b.rw) (by simp; omega) 100000 0 (by simp; omega) (by omega)
theorem ok:CtxOk Tryz.prog X:=ctxOk tab (spC valid.spOk (spC program.spOk (spC narrowed.spOk (spC all_.spOk (spC empty.spOk (spC concatC.spOk spN)))))) dpN
theorem okM:MOk Tryz.prog X:=fun g sp h=>by cases h
theorem spec (a:Rule) (b:Rule):CallSpec Tryz.prog E 47 [(.agg [(.str a.rn),(.lst .cnd a.rw),(.str a.rl),(.int .i64 a.rs)]),(.agg [(.str b.rn),(.lst .cnd b.rw),(.str b.rl),(.int .i64 b.rs)])] (.tup [(.bool (togB a b)),(.int .i64 (togE a b))]) [] :=
  runFn_sound ok okM Tryz.call47 Tryz.func47 (by kernel_rfl) (by kernel_rfl) (by kernel_rfl) (by show 2≤40; decide) (by decide) (by rfl) ((run a b).trans (f0_eq a b))
noncomputable def sp:Sp U El:=fun args k=>match args with
  | [.agg [.str a_rn,.lst .cnd a_rw,.str a_rl,.int .i64 a_rs],.agg [.str b_rn,.lst .cnd b_rw,.str b_rl,.int .i64 b_rs]]=>k (.tup [(.bool (togB (⟨a_rn,a_rw,a_rl,a_rs⟩:Rule) (⟨b_rn,b_rw,b_rl,b_rs⟩:Rule))),(.int .i64 (togE (⟨a_rn,a_rw,a_rl,a_rs⟩:Rule) (⟨b_rn,b_rw,b_rl,b_rs⟩:Rule)))]) []
  | _=>none
theorem spOk:SpOk Tryz.prog E 47 sp where
  det:=fun vs=>by
    unfold sp
    split
    · exact ⟨some (_,_),fun _=>rfl⟩
    · exact ⟨none,fun _=>rfl⟩
  ok:=fun vs k r h=>by
    unfold sp at h
    split at h
    · exact ⟨_,_,spec ⟨_,_,_,_⟩ ⟨_,_,_,_⟩,h⟩
    · cases h
end together
namespace rtogether
noncomputable def bd:Code:=(Tryz.f49.body).getD .skip
noncomputable def X:Ctx U El:=⟨E,tds,zeros,eqs,specOf [(65,rboth.sp),(99,rvalid1.sp),(101,rside.sp)],100000,41,dspecOf [],fun _=>none⟩
noncomputable def nmR:Norm U:=⟨[],[4,5],[],[],[],[],[]⟩
noncomputable def RR:Kont U El:=fun st=>normK nmR st (retFin [4,5] [])
noncomputable def nm1:Norm U:=⟨[],[2,3],[2,3],[],[],[],[(2,1,.cnd),(3,1,.cnd)]⟩
noncomputable def nm2:Norm U:=⟨[],[],[],[],[],[],[]⟩
noncomputable def nm3:Norm U:=⟨[],[6,7],[6],[],[],[],[(6,1,.cnd)]⟩
abbrev Y1:=(List UInt8)→(List Cnd)→(List UInt8)→Int→(List UInt8)→(List Cnd)→(List UInt8)→Int→R
abbrev Y2:=R
abbrev Y3:=Int→(List UInt8)→(List Cnd)→(List UInt8)→Int→R
noncomputable def fr0 (a:Rule) (b:Rule):St U El:=⟨[(0,(.agg [(.str a.rn),(.lst .cnd a.rw),(.str a.rl),(.int .i64 a.rs)])),(1,(.agg [(.str b.rn),(.lst .cnd b.rw),(.str b.rl),(.int .i64 b.rs)]))],[]⟩
noncomputable def fr1 (cA:List UInt8) (bA:List Cnd) (dA:List UInt8) (eA:Int) (kA:List UInt8) (iA:List Cnd) (lA:List UInt8) (mA:Int):St U El:=⟨[(2,(.ptr 2 0)),(3,(.ptr 3 0))],[(2,(.box 0 [(.str cA),(.lst .cnd bA),(.str dA),(.int .i64 eA)])),(3,(.box 0 [(.str kA),(.lst .cnd iA),(.str lA),(.int .i64 mA)]))]⟩
noncomputable def fr2:St U El:=⟨[],[]⟩
noncomputable def fr3 (i7:Int) (xA:List UInt8) (tA:List Cnd) (yA:List UInt8) (zA:Int):St U El:=⟨[(6,(.ptr 6 0)),(7,(.int .i64 i7))],[(6,(.box 0 [(.str xA),(.lst .cnd tA),(.str yA),(.int .i64 zA)]))]⟩
noncomputable def sh0 (a:Rule) (b:Rule) (k1:Y1):R :=
  condB (!(ruleB a)) (some ((.tup [(.bool false),(.int .i64 (1:Int))]),[])) (condB (!(ruleB b)) (some ((.tup [(.bool false),(.int .i64 (1:Int))]),[])) (k1 a.rn a.rw a.rl a.rs b.rn b.rw b.rl b.rs))
noncomputable def sh1 (cA:List UInt8) (bA:List Cnd) (dA:List UInt8) (eA:Int) (kA:List UInt8) (iA:List Cnd) (lA:List UInt8) (mA:Int) (k3:Y3):R :=
  chk ((nle (List.length (Rule.rw (⟨cA,bA,dA,eA⟩:Rule))) 40000&&nle (List.length (Rule.rw (⟨kA,iA,lA,mA⟩:Rule))) 40000)) (k3 (0:Int) ((bothR (⟨cA,bA,dA,eA⟩:Rule) (⟨kA,iA,lA,mA⟩:Rule)).rn) ((bothR (⟨cA,bA,dA,eA⟩:Rule) (⟨kA,iA,lA,mA⟩:Rule)).rw) ((bothR (⟨cA,bA,dA,eA⟩:Rule) (⟨kA,iA,lA,mA⟩:Rule)).rl) ((bothR (⟨cA,bA,dA,eA⟩:Rule) (⟨kA,iA,lA,mA⟩:Rule)).rs))
noncomputable def sh2:R :=
  some ((.tup [(.bool true),(.int .i64 (0:Int))]),[])
noncomputable def sh3 (i7:Int) (xA:List UInt8) (tA:List Cnd) (yA:List UInt8) (zA:Int) (k2:Y2) (k3:Y3):R :=
  condB (ilt i7 (Int.ofNat (List.length tA))) (chk (inb i7 (List.length tA)) (chk (okW (Rule.rw (⟨xA,tA,yA,zA⟩:Rule))) (condB (!(ile (Span.slo (nar ((List.getD tA (Int.toNat i7) d_cnd).cn) allS (Rule.rw (⟨xA,tA,yA,zA⟩:Rule)))) (Span.shi (nar ((List.getD tA (Int.toNat i7) d_cnd).cn) allS (Rule.rw (⟨xA,tA,yA,zA⟩:Rule)))))) (some ((.tup [(.bool false),(.int .i64 (0:Int))]),[])) (k3 (IntKind.wrap .i64 (i7+(1:Int))) xA tA yA zA)))) (k2)
noncomputable def it3 (Kb2:Kont U El) (n:Nat):Kont U El:=iter nm3 (fun st' K'=>exec X (cdp [1,1,1,0,1,0,0] bd) (.seq none .d (.seq none (.block (.seq none (.region [(12,8)]) .d)) .d)) st' K' (Eblk 0 (cutK nm2 Kb2) (fun _ _=>none)) RR) n
noncomputable def ct1:Kont U El:=fun st=>exec X (cdp [1,1] bd) (.seq none .d (.seq (some nm2) (.seq none .d (.block (.loop nm3 (.seq none .d (.seq none (.block (.seq none (.region [(12,8)]) .d)) .d))))) .d)) st RR (fun _ _=>none) RR
noncomputable def ct2:Kont U El:=fun st=>exec X (cdp [1,1,1,1] bd) .d st RR (fun _ _=>none) RR
theorem P0 (a b):exec X (cdp [] bd) (.seq none .d (.seq (some nm1) .d (.seq none .d (.seq (some nm2) (.seq none .d (.block (.loop nm3 (.seq none .d (.seq none (.block (.seq none (.region [(12,8)]) .d)) .d))))) .d)))) (fr0 a b) RR (fun _ _=>none) RR=sh0 a b (fun y0 y1 y2 y3 y4 y5 y6 y7=>(hid ct1) (fr1 y0 y1 y2 y3 y4 y5 y6 y7)):=by kernel_rfl
theorem P1 (cA bA dA eA kA iA lA mA):ct1 (fr1 cA bA dA eA kA iA lA mA)=sh1 cA bA dA eA kA iA lA mA (fun y0 y1 y2 y3 y4=>(hid (it3 (hid ct2) 100000)) (fr3 y0 y1 y2 y3 y4)):=by kernel_rfl
theorem P2:ct2 (fr2)=sh2:=by kernel_rfl
theorem P3 (i7 xA tA yA zA) (Kb2 Kb3:Kont U El):exec X (cdp [1,1,1,0,1,0,0] bd) (.seq none .d (.seq none (.block (.seq none (.region [(12,8)]) .d)) .d)) (fr3 i7 xA tA yA zA) (cutK nm3 Kb3) (Eblk 0 (cutK nm2 Kb2) (fun _ _=>none)) RR=sh3 i7 xA tA yA zA (Kb2 (fr2)) (fun y0 y1 y2 y3 y4=>Kb3 (fr3 y0 y1 y2 y3 y4)):=by kernel_rfl
noncomputable def f2:R:=sh2
noncomputable def f3:Nat→Y3
  | 0=>fun _ _ _ _ _=>none
  | n+1=>fun i7 xA tA yA zA=>sh3 i7 xA tA yA zA f2 (f3 n)
noncomputable def f1 (cA:List UInt8) (bA:List Cnd) (dA:List UInt8) (eA:Int) (kA:List UInt8) (iA:List Cnd) (lA:List UInt8) (mA:Int):R:=sh1 cA bA dA eA kA iA lA mA (f3 100000)
noncomputable def f0 (a:Rule) (b:Rule):R:=sh0 a b f1
theorem T2:(hid ct2) (fr2)=f2:=by
  refine (congrFun (hid_eq _) _).trans <| (P2).trans ?_
  show _=sh2
  rfl
theorem T3:∀ (n:Nat),∀ i7 xA tA yA zA,it3 (hid ct2) n (fr3 i7 xA tA yA zA)=f3 n i7 xA tA yA zA:=by
  intro n
  induction n with
  | zero=>intros; rfl
  | succ n ih =>
    intro i7 xA tA yA zA
    refine (P3 i7 xA tA yA zA (hid ct2) (it3 (hid ct2) n)).trans ?_
    show _=sh3 i7 xA tA yA zA f2 (f3 n)
    simp only [T2,ih]
theorem H3 (i7 xA tA yA zA):hid (it3 (hid ct2) 100000) (fr3 i7 xA tA yA zA)=f3 100000 i7 xA tA yA zA:=(congrFun (hid_eq _) _).trans (T3 100000 i7 xA tA yA zA)
theorem T1 (cA bA dA eA kA iA lA mA):(hid ct1) (fr1 cA bA dA eA kA iA lA mA)=f1 cA bA dA eA kA iA lA mA:=by
  refine (congrFun (hid_eq _) _).trans <| (P1 cA bA dA eA kA iA lA mA).trans ?_
  show _=sh1 cA bA dA eA kA iA lA mA (f3 100000)
  simp only [H3]
theorem T0 (a b):exec X bd (.seq none .d (.seq (some nm1) .d (.seq none .d (.seq (some nm2) (.seq none .d (.block (.loop nm3 (.seq none .d (.seq none (.block (.seq none (.region [(12,8)]) .d)) .d))))) .d)))) (fr0 a b) RR (fun _ _=>none) RR=f0 a b:=by
  refine (P0 a b).trans ?_
  show _=sh0 a b f1
  simp only [T1]
theorem run (a b):runFn X bd (.seq none .d (.seq (some nm1) .d (.seq none .d (.seq (some nm2) (.seq none .d (.block (.loop nm3 (.seq none .d (.seq none (.block (.seq none (.region [(12,8)]) .d)) .d))))) .d)))) nmR [4,5] [] [(.agg [(.str a.rn),(.lst .cnd a.rw),(.str a.rl),(.int .i64 a.rs)]),(.agg [(.str b.rn),(.lst .cnd b.rw),(.str b.rl),(.int .i64 b.rs)])]=f0 a b:=T0 a b
theorem loop (r:Rule) (hr:okW r.rw=true) (hl:r.rw.length≤100):∀ (n i:Nat),r.rw.length < n+i→i≤r.rw.length →
    f3 n (i:Int) r.rn r.rw r.rl r.rs=outV (!(List.any (r.rw.drop i) (clash r.rw))) 0:=by
  intro n
  induction n with
  | zero=>intro i h1 h2; omega
  | succ n ih =>
    intro i h1 h2
    show sh3 (i:Int) r.rn r.rw r.rl r.rs f2 (f3 n)=_
    unfold sh3
    by_cases hi:i < r.rw.length
    · rw [iltT (by simp; omega), inbT hi, toNat_nat, getD_lt hi, drop_lt hi, hr, ile_ilt, wrapS i (by omega), ih (i + 1) (by omega) hi, List.any_cons]
      show condB (clash r.rw r.rw[i]) _ _=_
      cases clash r.rw r.rw[i]<;>rfl
    · have : i = r.rw.length := by omega
      subst this
      rw [iltF (by simp),List.drop_length]
      rfl
theorem f0_eq (a b:Rule):f0 a b=outV (togB a b) (togE a b):=by
  show sh0 a b f1=_
  unfold sh0 togB togE togOk
  cases ha:ruleB a with
  | false=>rfl
  | true =>
    cases hb:ruleB b with
    | false=>rfl
    | true =>
      have h1:=(ruleB_len ha).1; have h2:=(ruleB_len hb).1
      show sh1 a.rn a.rw a.rl a.rs b.rn b.rw b.rl b.rs (f3 100000)=_
      unfold sh1
      rw [nleT (show (Rule.rw (⟨a.rn,a.rw,a.rl,a.rs⟩:Rule)).length≤40000 by show a.rw.length≤40000; omega),nleT (show (Rule.rw (⟨b.rn,b.rw,b.rl,b.rs⟩:Rule)).length≤40000 by show b.rw.length≤40000; omega)]
      exact loop (bothR a b) (okW_app ha hb) (by show (a.rw++b.rw).length≤100; simp; omega) 100000 0 (by show (a.rw++b.rw).length < _; simp; omega) (by omega)
theorem ok:CtxOk Tryz.prog X:=ctxOk tab (spC rboth.spOk (spC rvalid1.spOk (spC rside.spOk spN))) dpN
theorem okM:MOk Tryz.prog X:=fun g sp h=>by cases h
theorem spec (a:Rule) (b:Rule):CallSpec Tryz.prog E 49 [(.agg [(.str a.rn),(.lst .cnd a.rw),(.str a.rl),(.int .i64 a.rs)]),(.agg [(.str b.rn),(.lst .cnd b.rw),(.str b.rl),(.int .i64 b.rs)])] (.tup [(.bool (togB a b)),(.int .i64 (togE a b))]) [] :=
  runFn_sound ok okM Tryz.call49 Tryz.func49 (by kernel_rfl) (by kernel_rfl) (by kernel_rfl) (by show 2≤41; decide) (by decide) (by rfl) ((run a b).trans (f0_eq a b))
noncomputable def sp:Sp U El:=fun args k=>match args with
  | [.agg [.str a_rn,.lst .cnd a_rw,.str a_rl,.int .i64 a_rs],.agg [.str b_rn,.lst .cnd b_rw,.str b_rl,.int .i64 b_rs]]=>k (.tup [(.bool (togB (⟨a_rn,a_rw,a_rl,a_rs⟩:Rule) (⟨b_rn,b_rw,b_rl,b_rs⟩:Rule))),(.int .i64 (togE (⟨a_rn,a_rw,a_rl,a_rs⟩:Rule) (⟨b_rn,b_rw,b_rl,b_rs⟩:Rule)))]) []
  | _=>none
theorem spOk:SpOk Tryz.prog E 49 sp where
  det:=fun vs=>by
    unfold sp
    split
    · exact ⟨some (_,_),fun _=>rfl⟩
    · exact ⟨none,fun _=>rfl⟩
  ok:=fun vs k r h=>by
    unfold sp at h
    split at h
    · exact ⟨_,_,spec ⟨_,_,_,_⟩ ⟨_,_,_,_⟩,h⟩
    · cases h
end rtogether
noncomputable def eqSpn (x y:Span):Bool:=(x.slo == y.slo)&&((x.shi == y.shi)&&true)
noncomputable def eqSp (a b:List Span):Bool:=eqLen eqSpn a b
theorem eqSp_self (a:List Span):eqSp a a=true:=eqLen_self (by simp [eqSpn]) a
namespace equalSp
noncomputable def bd:Code:=(Tryz.f50.body).getD .skip
noncomputable def X:Ctx U El:=⟨E,tds,zeros,eqs,specOf [],100000,26,dspecOf [],fun _=>none⟩
noncomputable def nmR:Norm U:=⟨[],[4],[],[],[],[],[]⟩
noncomputable def RR:Kont U El:=fun st=>normK nmR st (retFin [4] [])
noncomputable def nm1:Norm U:=⟨[],[],[],[],[],[],[]⟩
noncomputable def nm2:Norm U:=⟨[],[0,1,12,13],[],[],[],[],[]⟩
abbrev Y1:=R
abbrev Y2:=(List Span)→(List Span)→Int→Int→R
noncomputable def fr0 (a:List Span) (b:List Span):St U El:=⟨[(0,(.lst .span a)),(1,(.lst .span b))],[]⟩
noncomputable def fr1:St U El:=⟨[],[]⟩
noncomputable def fr2 (kB:List Span) (lB:List Span) (mB:Int) (gB:Int):St U El:=⟨[(0,(.lst .span kB)),(1,(.lst .span lB)),(12,(.int .i64 mB)),(13,(.int .i64 gB))],[]⟩
noncomputable def sh0 (a:List Span) (b:List Span) (k2:Y2):R :=
  condB ((Int.ofNat (List.length a)) != (Int.ofNat (List.length b))) (some ((.bool false),[])) (k2 a b (Int.ofNat (List.length a)) (0:Int))
noncomputable def sh1:R :=
  some ((.bool true),[])
noncomputable def sh2 (kB:List Span) (lB:List Span) (mB:Int) (gB:Int) (k1:Y1) (k2:Y2):R :=
  condB (ilt gB mB) (chk (inb gB (List.length kB)) (chk (inb gB (List.length lB)) (condB (!(((List.getD kB (Int.toNat gB) d_span).slo == (List.getD lB (Int.toNat gB) d_span).slo)&&(((List.getD kB (Int.toNat gB) d_span).shi == (List.getD lB (Int.toNat gB) d_span).shi)&&true))) (some ((.bool false),[])) (k2 kB lB mB (IntKind.wrap .i64 (gB+(1:Int))))))) (k1)
noncomputable def it2 (Kb1:Kont U El) (n:Nat):Kont U El:=iter nm2 (fun st' K'=>exec X (cdp [1,1,0,1,0,0] bd) .d st' K' (Eblk 0 (cutK nm1 Kb1) (fun _ _=>none)) RR) n
noncomputable def ct1:Kont U El:=fun st=>exec X (cdp [1,1,1] bd) .d st RR (fun _ _=>none) RR
theorem P0 (a b):exec X (cdp [] bd) (.seq none .d (.seq none .d (.seq (some nm1) (.seq none .d (.block (.loop nm2 .d))) .d))) (fr0 a b) RR (fun _ _=>none) RR=sh0 a b (fun y0 y1 y2 y3=>(hid (it2 (hid ct1) 100000)) (fr2 y0 y1 y2 y3)):=by kernel_rfl
theorem P1:ct1 (fr1)=sh1:=by kernel_rfl
theorem P2 (kB lB mB gB) (Kb1 Kb2:Kont U El):exec X (cdp [1,1,0,1,0,0] bd) .d (fr2 kB lB mB gB) (cutK nm2 Kb2) (Eblk 0 (cutK nm1 Kb1) (fun _ _=>none)) RR=sh2 kB lB mB gB (Kb1 (fr1)) (fun y0 y1 y2 y3=>Kb2 (fr2 y0 y1 y2 y3)):=by kernel_rfl
noncomputable def f1:R:=sh1
noncomputable def f2:Nat→Y2
  | 0=>fun _ _ _ _=>none
  | n+1=>fun kB lB mB gB=>sh2 kB lB mB gB f1 (f2 n)
noncomputable def f0 (a:List Span) (b:List Span):R:=sh0 a b (f2 100000)
theorem T1:(hid ct1) (fr1)=f1:=by
  refine (congrFun (hid_eq _) _).trans <| (P1).trans ?_
  show _=sh1
  rfl
theorem T2:∀ (n:Nat),∀ kB lB mB gB,it2 (hid ct1) n (fr2 kB lB mB gB)=f2 n kB lB mB gB:=by
  intro n
  induction n with
  | zero=>intros; rfl
  | succ n ih =>
    intro kB lB mB gB
    refine (P2 kB lB mB gB (hid ct1) (it2 (hid ct1) n)).trans ?_
    show _=sh2 kB lB mB gB f1 (f2 n)
    simp only [T1,ih]
theorem H2 (kB lB mB gB):hid (it2 (hid ct1) 100000) (fr2 kB lB mB gB)=f2 100000 kB lB mB gB:=(congrFun (hid_eq _) _).trans (T2 100000 kB lB mB gB)
theorem T0 (a b):exec X bd (.seq none .d (.seq none .d (.seq (some nm1) (.seq none .d (.block (.loop nm2 .d))) .d))) (fr0 a b) RR (fun _ _=>none) RR=f0 a b:=by
  refine (P0 a b).trans ?_
  show _=sh0 a b (f2 100000)
  simp only [H2]
theorem run (a b):runFn X bd (.seq none .d (.seq none .d (.seq (some nm1) (.seq none .d (.block (.loop nm2 .d))) .d))) nmR [4] [] [(.lst .span a),(.lst .span b)]=f0 a b:=T0 a b
theorem loop (b:List Span):∀ (n i:Nat) (a:List Span),a.length=b.length→a.length≤90000→a.length < n+i→i≤a.length→f2 n a b (Int.ofNat a.length) (i:Int)=outB (eqL eqSpn (a.drop i) (b.drop i)):=by
  intro n
  induction n with
  | zero=>intro i a h1 h2 h3 h4; omega
  | succ n ih =>
    intro i a h1 h2 h3 h4
    show sh2 a b (Int.ofNat a.length) (i:Int) f1 (f2 n)=_
    unfold sh2
    by_cases hi:i < a.length
    · have hj : i < b.length := by omega
      rw [iltT (by simp; omega),inbT hi,inbT hj,toNat_nat,getD_lt hi,getD_lt hj,drop_lt hi,drop_lt hj,wrapS i (by omega),ih (i+1) a h1 h2 (by omega) hi]
      simp only [condT,chkT,eqL]
      show condB (!(eqSpn a[i] b[i])) (outB false) _=_
      cases eqSpn a[i] b[i]<;>rfl
    · have e1 : i = a.length := by omega
      subst e1
      rw [iltF (by simp),List.drop_length,h1,List.drop_length]
      rfl
theorem f0_eq (a b:List Span) (h:nle (List.length a) 90000=true):f0 a b=outB (eqSp a b):=by
  show sh0 a b (f2 100000)=_
  unfold sh0 eqSp eqLen
  by_cases e:a.length=b.length
  · rw [bneF e]
    exact loop b 100000 0 a e (nleI h) (by have:=nleI h; omega) (by omega)
  · rw [bneT e]
    rfl
theorem ok:CtxOk Tryz.prog X:=ctxOk tab spN dpN
theorem okM:MOk Tryz.prog X:=fun g sp h=>by cases h
theorem spec (a:List Span) (b:List Span) (h:(nle (List.length a) 90000)=true):CallSpec Tryz.prog E 50 [(.lst .span a),(.lst .span b)] (.bool (eqSp a b)) [] :=
  runFn_sound ok okM Tryz.call50 Tryz.func50 (by kernel_rfl) (by kernel_rfl) (by kernel_rfl) (by show 2≤26; decide) (by decide) (by rfl) ((run a b).trans (f0_eq a b h))
noncomputable def sp:Sp U El:=fun args k=>match args with
  | [.lst .span a,.lst .span b]=>chk (nle (List.length a) 90000) (k (.bool (eqSp a b)) [])
  | _=>none
theorem spOk:SpOk Tryz.prog E 50 sp where
  det:=fun vs=>by
    unfold sp
    split
    · exact det_c _ _ _
    · exact ⟨none,fun _=>rfl⟩
  ok:=fun vs k r h=>by
    unfold sp at h
    split at h
    · obtain ⟨h1, h2⟩ := chk_some h
      exact ⟨_,_,spec _ _ h1,h2⟩
    · cases h
end equalSp
noncomputable def longStr (x:List UInt8):Bool:=ilt 100 (Int.ofNat x.length)
namespace lb1
noncomputable def bd:Code:=(Tryz.f45.body).getD .skip
noncomputable def X:Ctx U El:=⟨E,tds,zeros,eqs,specOf [],100000,6,dspecOf [],fun _=>none⟩
noncomputable def nmR:Norm U:=⟨[],[2],[],[],[],[],[]⟩
noncomputable def RR:Kont U El:=fun st=>normK nmR st (retFin [2] [])
noncomputable def fr0 (x:List UInt8):St U El:=⟨[(0,(.str x))],[]⟩
noncomputable def sh0 (x:List UInt8):R :=
  some ((.bool (ilt (100:Int) (Int.ofNat (List.length x)))),[])
theorem P0 (x):exec X (cdp [] bd) .d (fr0 x) RR (fun _ _=>none) RR=sh0 x:=by kernel_rfl
noncomputable def f0 (x:List UInt8):R:=sh0 x
theorem T0 (x):exec X bd .d (fr0 x) RR (fun _ _=>none) RR=f0 x:=by
  refine (P0 x).trans ?_
  show _=sh0 x
  rfl
theorem run (x):runFn X bd .d nmR [2] [] [(.str x)]=f0 x:=T0 x
theorem f0_eq (x:List UInt8):f0 x=outB (longStr x):=rfl
theorem ok:CtxOk Tryz.prog X:=ctxOk tab spN dpN
theorem okM:MOk Tryz.prog X:=fun g sp h=>by cases h
theorem spec (x:List UInt8):CallSpec Tryz.prog E 45 [(.str x)] (.bool (longStr x)) [] :=
  runFn_sound ok okM Tryz.call45 Tryz.func45 (by kernel_rfl) (by kernel_rfl) (by kernel_rfl) (by show 1≤6; decide) (by decide) (by rfl) ((run x).trans (f0_eq x))
noncomputable def sp:Sp U El:=fun args k=>match args with
  | [.str x]=>k (.bool (longStr x)) []
  | _=>none
theorem spOk:SpOk Tryz.prog E 45 sp where
  det:=fun vs=>by
    unfold sp
    split
    · exact ⟨some (_,_),fun _=>rfl⟩
    · exact ⟨none,fun _=>rfl⟩
  ok:=fun vs k r h=>by
    unfold sp at h
    split at h
    · exact ⟨_,_,spec _,h⟩
    · cases h
end lb1
namespace lb1X
noncomputable def bd:Code:=(Tryz.f90.body).getD .skip
noncomputable def X:Ctx U El:=⟨E,tds,zeros,eqs,specOf [(45,lb1.sp)],100000,19,dspecOf [],fun _=>none⟩
noncomputable def nmR:Norm U:=⟨[],[4],[],[],[],[],[]⟩
noncomputable def RR:Kont U El:=fun st=>normK nmR st (retFin [4] [])
noncomputable def nm1:Norm U:=⟨[],[],[],[],[],[],[]⟩
noncomputable def nm2:Norm U:=⟨[],[0,1,7,8],[],[],[],[],[]⟩
abbrev Y1:=R
abbrev Y2:=(List (List UInt8))→Int→Int→R
noncomputable def fr0 (l:List (List UInt8)):St U El:=⟨[(0,(.lst .str l)),(1,(.fn 45 [] []))],[]⟩
noncomputable def fr1:St U El:=⟨[],[]⟩
noncomputable def fr2 (s0:List (List UInt8)) (x7:Int) (x8:Int):St U El:=⟨[(0,(.lst .str s0)),(1,(.fn 45 [] [])),(7,(.int .i64 x7)),(8,(.int .i64 x8))],[]⟩
noncomputable def sh0 (l:List (List UInt8)) (k2:Y2):R :=
  k2 l (Int.ofNat (List.length l)) (0:Int)
noncomputable def sh1:R :=
  some ((.int .i64 (-1:Int)),[])
noncomputable def sh2 (s0:List (List UInt8)) (x7:Int) (x8:Int) (k1:Y1) (k2:Y2):R :=
  condB (ilt x8 x7) (chk (inb x8 (List.length s0)) (condB (longStr (List.getD s0 (Int.toNat x8) d_str)) (some ((.int .i64 x8),[])) (k2 s0 x7 (IntKind.wrap .i64 (x8+(1:Int)))))) (k1)
noncomputable def it2 (Kb1:Kont U El) (n:Nat):Kont U El:=iter nm2 (fun st' K'=>exec X (cdp [1,0,1,0,0] bd) .d st' K' (Eblk 0 (cutK nm1 Kb1) (fun _ _=>none)) RR) n
noncomputable def ct1:Kont U El:=fun st=>exec X (cdp [1,1] bd) .d st RR (fun _ _=>none) RR
theorem P0 (l):exec X (cdp [] bd) (.seq none .d (.seq (some nm1) (.seq none .d (.block (.loop nm2 .d))) .d)) (fr0 l) RR (fun _ _=>none) RR=sh0 l (fun y0 y1 y2=>(hid (it2 (hid ct1) 100000)) (fr2 y0 y1 y2)):=by kernel_rfl
theorem P1:ct1 (fr1)=sh1:=by kernel_rfl
theorem P2 (s0 x7 x8) (Kb1 Kb2:Kont U El):exec X (cdp [1,0,1,0,0] bd) .d (fr2 s0 x7 x8) (cutK nm2 Kb2) (Eblk 0 (cutK nm1 Kb1) (fun _ _=>none)) RR=sh2 s0 x7 x8 (Kb1 (fr1)) (fun y0 y1 y2=>Kb2 (fr2 y0 y1 y2)):=by kernel_rfl
noncomputable def f1:R:=sh1
noncomputable def f2:Nat→Y2
  | 0=>fun _ _ _=>none
  | n+1=>fun s0 x7 x8=>sh2 s0 x7 x8 f1 (f2 n)
noncomputable def f0 (l:List (List UInt8)):R:=sh0 l (f2 100000)
theorem T1:(hid ct1) (fr1)=f1:=by
  refine (congrFun (hid_eq _) _).trans <| (P1).trans ?_
  show _=sh1
  rfl
theorem T2:∀ (n:Nat),∀ s0 x7 x8,it2 (hid ct1) n (fr2 s0 x7 x8)=f2 n s0 x7 x8:=by
  intro n
  induction n with
  | zero=>intros; rfl
  | succ n ih =>
    intro s0 x7 x8
    refine (P2 s0 x7 x8 (hid ct1) (it2 (hid ct1) n)).trans ?_
    show _=sh2 s0 x7 x8 f1 (f2 n)
    simp only [T1,ih]
theorem H2 (s0 x7 x8):hid (it2 (hid ct1) 100000) (fr2 s0 x7 x8)=f2 100000 s0 x7 x8:=(congrFun (hid_eq _) _).trans (T2 100000 s0 x7 x8)
theorem T0 (l):exec X bd (.seq none .d (.seq (some nm1) (.seq none .d (.block (.loop nm2 .d))) .d)) (fr0 l) RR (fun _ _=>none) RR=f0 l:=by
  refine (P0 l).trans ?_
  show _=sh0 l (f2 100000)
  simp only [H2]
theorem run (l):runFn X bd (.seq none .d (.seq (some nm1) (.seq none .d (.block (.loop nm2 .d))) .d)) nmR [4] [] [(.lst .str l),(.fn 45 [] [])]=f0 l:=T0 l
theorem f0_eq (l:List (List UInt8)) (h:(nle (List.length l) 90000)=true):f0 l=outI (findZ longStr 0 l):=by
  have hl:=nleI h
  refine (grun_eq l (by omega) (fun n_ (_:Unit) i_=>f2 n_ l (Int.ofNat l.length) i_) _ (fun _=>outI (-1)) (fun n_ u_ i_ hi_ => ?_) (fun n_ u_ => ?_) 100000 0 () (by omega) (by omega)).trans (grun_find longStr outI l 0)
  · show sh2 l (Int.ofNat l.length) i_ f1 (f2 n_) = _
    unfold sh2
    rw [iltT (by simp; omega),inbT hi_,toNat_nat,getD_lt hi_]
    rfl
  · show sh2 l (Int.ofNat l.length) (l.length : Int) f1 (f2 n_) = _
    unfold sh2
    rw [iltF (by simp)]
    rfl
theorem ok:CtxOk Tryz.prog X:=ctxOk tab (spC lb1.spOk spN) dpN
theorem okM:MOk Tryz.prog X:=fun g sp h=>by cases h
theorem spec (l:List (List UInt8)) (h:(nle (List.length l) 90000)=true):CallSpec Tryz.prog E 90 [(.lst .str l),(.fn 45 [] [])] (.int .i64 (findZ longStr 0 l)) [] :=
  runFn_sound ok okM Tryz.call90 Tryz.func90 (by kernel_rfl) (by kernel_rfl) (by kernel_rfl) (by show 2≤19; decide) (by decide) (by rfl) ((run l).trans (f0_eq l h))
noncomputable def sp:Sp U El:=fun args k=>match args with
  | [.lst .str l,.fn 45 [] []]=>chk (nle (List.length l) 90000) (k (.int .i64 (findZ longStr 0 l)) [])
  | _=>none
theorem spOk:SpOk Tryz.prog E 90 sp where
  det:=fun vs=>by
    unfold sp
    split
    · exact det_c _ _ _
    · exact ⟨none,fun _=>rfl⟩
  ok:=fun vs k r h=>by
    unfold sp at h
    split at h
    · obtain ⟨h1, h2⟩ := chk_some h
      exact ⟨_,_,spec _ h1,h2⟩
    · cases h
end lb1X
namespace lb1C
noncomputable def bd:Code:=(Tryz.f44.body).getD .skip
noncomputable def X:Ctx U El:=⟨E,tds,zeros,eqs,specOf [(90,lb1X.sp)],100000,9,dspecOf [],fun _=>none⟩
noncomputable def nmR:Norm U:=⟨[],[4],[],[],[],[],[]⟩
noncomputable def RR:Kont U El:=fun st=>normK nmR st (retFin [4] [])
noncomputable def fr0 (l:List (List UInt8)):St U El:=⟨[(0,(.lst .str l)),(1,(.fn 45 [] []))],[]⟩
noncomputable def sh0 (l:List (List UInt8)):R :=
  chk (nle (List.length l) 90000) (some ((.bool (ile (0:Int) (findZ longStr 0 l))),[]))
theorem P0 (l):exec X (cdp [] bd) .d (fr0 l) RR (fun _ _=>none) RR=sh0 l:=by kernel_rfl
noncomputable def f0 (l:List (List UInt8)):R:=sh0 l
theorem T0 (l):exec X bd .d (fr0 l) RR (fun _ _=>none) RR=f0 l:=by
  refine (P0 l).trans ?_
  show _=sh0 l
  rfl
theorem run (l):runFn X bd .d nmR [4] [] [(.lst .str l),(.fn 45 [] [])]=f0 l:=T0 l
theorem f0_eq (l:List (List UInt8)) (h:(nle (List.length l) 90000)=true):f0 l=outB (List.any l longStr):=by
  show chk _ (outB _)=_
  rw [h,chkT,findZ_any]
theorem ok:CtxOk Tryz.prog X:=ctxOk tab (spC lb1X.spOk spN) dpN
theorem okM:MOk Tryz.prog X:=fun g sp h=>by cases h
theorem spec (l:List (List UInt8)) (h:(nle (List.length l) 90000)=true):CallSpec Tryz.prog E 44 [(.lst .str l),(.fn 45 [] [])] (.bool (List.any l longStr)) [] :=
  runFn_sound ok okM Tryz.call44 Tryz.func44 (by kernel_rfl) (by kernel_rfl) (by kernel_rfl) (by show 2≤9; decide) (by decide) (by rfl) ((run l).trans (f0_eq l h))
noncomputable def sp:Sp U El:=fun args k=>match args with
  | [.lst .str l,.fn 45 [] []]=>chk (nle (List.length l) 90000) (k (.bool (List.any l longStr)) [])
  | _=>none
theorem spOk:SpOk Tryz.prog E 44 sp where
  det:=fun vs=>by
    unfold sp
    split
    · exact det_c _ _ _
    · exact ⟨none,fun _=>rfl⟩
  ok:=fun vs k r h=>by
    unfold sp at h
    split at h
    · obtain ⟨h1, h2⟩ := chk_some h
      exact ⟨_,_,spec _ h1,h2⟩
    · cases h
end lb1C
theorem boxO_len (w:List Cnd):∀ (ns:List (List UInt8)) (v:List Span),boxO w ns=some v→v.length=ns.length:=by
  intro ns
  induction ns with
  | nil=>intro v h; simp only [boxO,Option.some.injEq] at h; subst h; rfl
  | cons m ns ih =>
    intro v h
    unfold boxO at h
    cases hb:emptyS (nar m allS w) with
    | true=>rw [hb] at h; cases h
    | false =>
      rw [hb,cond_false,Option.map_eq_some_iff] at h
      obtain ⟨u,hu,rfl⟩:=h
      simp [ih u hu]
theorem boxL_len (r:Rule) (ns:List (List UInt8)):(boxL r ns).length≤ns.length:=by
  unfold boxL
  cases boxOk r ns with
  | false=>simp
  | true =>
    cases h:boxO r.rw ns with
    | none=>simp
    | some v=>have:=boxO_len r.rw ns v h; simp; omega
namespace lawBoxes
noncomputable def bd:Code:=(Tryz.f8.body).getD .skip
noncomputable def X:Ctx U El:=⟨E,tds,zeros,eqs,specOf [(12,awake.sp),(43,long.sp),(44,lb1C.sp),(46,box_.sp),(47,together.sp),(48,rbox.sp),(49,rtogether.sp),(50,equalSp.sp)],100000,83,dspecOf [],fun _=>none⟩
noncomputable def nmR:Norm U:=⟨[],[6],[],[],[],[],[]⟩
noncomputable def RR:Kont U El:=fun st=>normK nmR st (retFin [6] [])
noncomputable def nm1:Norm U:=⟨[],[2,3,4],[3,4],[],[],[],[(3,1,.cnd),(4,1,.cnd)]⟩
abbrev Y1:=(List (List UInt8))→(List UInt8)→(List Cnd)→(List UInt8)→Int→(List UInt8)→(List Cnd)→(List UInt8)→Int→R
noncomputable def fr0 (a:Rule) (b:Rule) (ns:List (List UInt8)):St U El:=⟨[(0,(.agg [(.str a.rn),(.lst .cnd a.rw),(.str a.rl),(.int .i64 a.rs)])),(1,(.agg [(.str b.rn),(.lst .cnd b.rw),(.str b.rl),(.int .i64 b.rs)])),(2,(.lst .str ns))],[]⟩
noncomputable def fr1 (pA:List (List UInt8)) (kA:List UInt8) (iA:List Cnd) (lA:List UInt8) (mA:Int) (cB:List UInt8) (dB:List Cnd) (eB:List UInt8) (fB:Int):St U El:=⟨[(2,(.lst .str pA)),(3,(.ptr 3 0)),(4,(.ptr 4 0))],[(3,(.box 0 [(.str kA),(.lst .cnd iA),(.str lA),(.int .i64 mA)])),(4,(.box 0 [(.str cB),(.lst .cnd dB),(.str eB),(.int .i64 fB)]))]⟩
noncomputable def sh0 (a:Rule) (b:Rule) (ns:List (List UInt8)) (k1:Y1):R :=
  condB (!(true)) (some ((.bool false),[])) (condB (longB a) (some ((.bool true),[])) (condB (longB b) (some ((.bool true),[])) (condB (ilt (20:Int) (Int.ofNat (List.length ns))) (some ((.bool true),[])) (chk (nle (List.length ns) 90000) (condB (List.any ns longStr) (some ((.bool true),[])) (k1 ns a.rn a.rw a.rl a.rs b.rn b.rw b.rl b.rs))))))
noncomputable def sh1 (pA:List (List UInt8)) (kA:List UInt8) (iA:List Cnd) (lA:List UInt8) (mA:Int) (cB:List UInt8) (dB:List Cnd) (eB:List UInt8) (fB:Int):R :=
  chk (nle (List.length pA) 4000) (chk (nle (List.length pA) 4000) (chk (nle (List.length (boxL (⟨kA,iA,lA,mA⟩:Rule) pA)) 90000) (condB (eqSp (boxL (⟨kA,iA,lA,mA⟩:Rule) pA) (boxL (⟨kA,iA,lA,mA⟩:Rule) pA)) (condB ((boxB (⟨kA,iA,lA,mA⟩:Rule) pA) == (boxB (⟨kA,iA,lA,mA⟩:Rule) pA)) (condB ((boxE (⟨kA,iA,lA,mA⟩:Rule) pA) == (boxE (⟨kA,iA,lA,mA⟩:Rule) pA)) (condB ((togB (⟨kA,iA,lA,mA⟩:Rule) (⟨cB,dB,eB,fB⟩:Rule)) == (togB (⟨kA,iA,lA,mA⟩:Rule) (⟨cB,dB,eB,fB⟩:Rule))) (some ((.bool ((togE (⟨kA,iA,lA,mA⟩:Rule) (⟨cB,dB,eB,fB⟩:Rule)) == (togE (⟨kA,iA,lA,mA⟩:Rule) (⟨cB,dB,eB,fB⟩:Rule)))),[])) (some ((.bool false),[]))) (some ((.bool false),[]))) (some ((.bool false),[]))) (some ((.bool false),[])))))
noncomputable def ct1:Kont U El:=fun st=>exec X (cdp [1,1,1] bd) .d st RR (fun _ _=>none) RR
theorem P0 (a b ns):exec X (cdp [] bd) (.seq none .d (.seq none .d (.seq (some nm1) .d .d))) (fr0 a b ns) RR (fun _ _=>none) RR=sh0 a b ns (fun y0 y1 y2 y3 y4 y5 y6 y7 y8=>(hid ct1) (fr1 y0 y1 y2 y3 y4 y5 y6 y7 y8)):=by kernel_rfl
theorem P1 (pA kA iA lA mA cB dB eB fB):ct1 (fr1 pA kA iA lA mA cB dB eB fB)=sh1 pA kA iA lA mA cB dB eB fB:=by kernel_rfl
noncomputable def f1 (pA:List (List UInt8)) (kA:List UInt8) (iA:List Cnd) (lA:List UInt8) (mA:Int) (cB:List UInt8) (dB:List Cnd) (eB:List UInt8) (fB:Int):R:=sh1 pA kA iA lA mA cB dB eB fB
noncomputable def f0 (a:Rule) (b:Rule) (ns:List (List UInt8)):R:=sh0 a b ns f1
theorem T1 (pA kA iA lA mA cB dB eB fB):(hid ct1) (fr1 pA kA iA lA mA cB dB eB fB)=f1 pA kA iA lA mA cB dB eB fB:=by
  refine (congrFun (hid_eq _) _).trans <| (P1 pA kA iA lA mA cB dB eB fB).trans ?_
  show _=sh1 pA kA iA lA mA cB dB eB fB
  rfl
theorem T0 (a b ns):exec X bd (.seq none .d (.seq none .d (.seq (some nm1) .d .d))) (fr0 a b ns) RR (fun _ _=>none) RR=f0 a b ns:=by
  refine (P0 a b ns).trans ?_
  show _=sh0 a b ns f1
  simp only [T1]
theorem run (a b ns):runFn X bd (.seq none .d (.seq none .d (.seq (some nm1) .d .d))) nmR [6] [] [(.agg [(.str a.rn),(.lst .cnd a.rw),(.str a.rl),(.int .i64 a.rs)]),(.agg [(.str b.rn),(.lst .cnd b.rw),(.str b.rl),(.int .i64 b.rs)]),(.lst .str ns)]=f0 a b ns:=T0 a b ns
theorem f0_eq (a b : Rule) (ns : List (List UInt8)) : f0 a b ns = outB true := by
  show sh0 a b ns f1=_
  unfold sh0
  cases longB a with
  | true=>rfl
  | false =>
    cases longB b with
    | true=>rfl
    | false =>
      by_cases hl:(20:Int) < Int.ofNat ns.length
      · rw [iltT hl]; rfl
      · have hl' : ns.length ≤ 20 := by simp at hl; omega
        rw [iltF hl,nleT (show ns.length≤90000 by omega)]
        cases List.any ns longStr with
        | true=>rfl
        | false =>
          show sh1 ns a.rn a.rw a.rl a.rs b.rn b.rw b.rl b.rs=_
          unfold sh1
          rw [nleT (show ns.length≤4000 by omega),eqSp_self,nleT (show (boxL (⟨a.rn,a.rw,a.rl,a.rs⟩:Rule) ns).length≤90000 by have:=boxL_len (⟨a.rn,a.rw,a.rl,a.rs⟩:Rule) ns; omega)]
          simp only [beq_self_eq_true]
          rfl
theorem ok:CtxOk Tryz.prog X:=ctxOk tab (spC awake.spOk (spC long.spOk (spC lb1C.spOk (spC box_.spOk (spC together.spOk (spC rbox.spOk (spC rtogether.spOk (spC equalSp.spOk spN)))))))) dpN
theorem okM:MOk Tryz.prog X:=fun g sp h=>by cases h
theorem spec (a:Rule) (b:Rule) (ns:List (List UInt8)):CallSpec Tryz.prog E 8 [(.agg [(.str a.rn),(.lst .cnd a.rw),(.str a.rl),(.int .i64 a.rs)]),(.agg [(.str b.rn),(.lst .cnd b.rw),(.str b.rl),(.int .i64 b.rs)]),(.lst .str ns)] (.bool (true)) [] :=
  runFn_sound ok okM Tryz.call8 Tryz.func8 (by kernel_rfl) (by kernel_rfl) (by kernel_rfl) (by show 3≤83; decide) (by decide) (by rfl) ((run a b ns).trans (f0_eq a b ns))
noncomputable def sp:Sp U El:=fun args k=>match args with
  | [.agg [.str a_rn,.lst .cnd a_rw,.str a_rl,.int .i64 a_rs],.agg [.str b_rn,.lst .cnd b_rw,.str b_rl,.int .i64 b_rs],.lst .str ns]=>k (.bool (true)) []
  | _=>none
theorem spOk:SpOk Tryz.prog E 8 sp where
  det:=fun vs=>by
    unfold sp
    split
    · exact ⟨some (_,_),fun _=>rfl⟩
    · exact ⟨none,fun _=>rfl⟩
  ok:=fun vs k r h=>by
    unfold sp at h
    split at h
    · exact ⟨_,_,spec ⟨_,_,_,_⟩ ⟨_,_,_,_⟩ _,h⟩
    · cases h
end lawBoxes
end Go.Proofs.YthdimnlkcgchoaaGreat
