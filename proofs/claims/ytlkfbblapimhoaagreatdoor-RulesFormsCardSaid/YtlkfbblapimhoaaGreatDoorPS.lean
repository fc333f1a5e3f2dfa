import Derived.Test.YtlkfbblapimhoaaGreatDoorRE
import Derived.Test.YtlkfbblapimhoaaGreatDoorTL
namespace Go.Proofs.YtlkfbblapimhoaaGreatDoor
set_option linter.all false
set_option maxRecDepth 100000
noncomputable def parR (ts:List Tok):Nat→Int→List Rule→Res (List Rule)
 | 0,p,_=>⟨false,[],p⟩
 | n+1,p,acc=>bif (tokAt ts p).kk == 5 then ⟨true,acc,p⟩ else bif (tokAt ts p).kk == 4 then parR ts n (p+1) acc else (rulR ts p).bd [] fun r p=>parR ts n p (acc++[r])
noncomputable def prgR (ts:List Tok):Res (List Rule):=parR ts (ts.length+1) 0 []
noncomputable def parE (ts:List Tok):Int:=bif (prgR ts).ok then (bif rulesB (prgR ts).v then 0 else 1) else 7
noncomputable def parL (ts:List Tok):List Rule:=bif parE ts == 0 then (prgR ts).v else []
noncomputable def parP (ts:List Tok):Pos:=bif (prgR ts).ok then ⟨0,0⟩ else ⟨(tokAt ts (prgR ts).p).kl,(tokAt ts (prgR ts).p).kc⟩
noncomputable def panP:Pan U El:=fun T l c st=>match tget st.t 2,tget st.t 3,tget st.t 4,hget st.h 1000000000,hget st.h 1000000001,hget st.h 1000000002 with
 | .ptr i0 0,.ptr i1 0,.ptr i2 0,some (.box t0 [_]),some (.box t1 [_,_]),some (.box t2 [_])=>chk (Nat.beq T 95&&(Nat.beq t0 1000000000&&(Nat.beq t1 1000000001&&(Nat.beq t2 1000000002&&(Nat.beq i0 1000000000&&(Nat.beq i1 1000000001&&Nat.beq i2 1000000002)))))) (some (.tup [.lst .rule [],.agg [.int .i64 l,.int .i64 c],.int .i64 7],[]))
 | _,_,_,_,_,_=>none
noncomputable def outPR (ts:List Tok) (r:Res (List Rule)):R:=condB r.ok (condB (rulesB r.v) (some (.tup [.lst .rule r.v,.agg [.int .i64 0,.int .i64 0],.int .i64 0],[])) (some (.tup [.lst .rule [],.agg [.int .i64 0,.int .i64 0],.int .i64 1],[])))
 (some (.tup [.lst .rule [],.agg [.int .i64 (tokAt ts r.p).kl,.int .i64 (tokAt ts r.p).kc],.int .i64 7],[]))
namespace parseR
noncomputable def bd:Code:=cdp [1,1,1,1] ((Tryz.f11.body).getD .skip)
noncomputable def X:Ctx U El:=⟨E,tds,zeros,eqs,specOf [(13,valid.sp)],100000,47,dspecOf [],mspecOf [(44,(mcSp rdNow.sp)),(45,(mcpSp panP rdRule.sp))],fun _=>none⟩
noncomputable def nmR:Norm U:=⟨[],[47,48,49],[],[(47,.rule)],[],[],[]⟩
noncomputable def RR:Kont U El:=fun st=>loadRes X 47 [(2,22),(3,29),(4,25)] 47 st fun st=>normK nmR st (retM [47,48,49])
noncomputable def nm1:Norm U:=⟨[],[2,3,4,6],[20,1000000000,1000000001,1000000002,600000000],[],[(1000000000,0,.rule,600000000)],[],[(20,0,.tok)]⟩
noncomputable def nm2:Norm U:=⟨[],[2,3,4],[1000000000,1000000001,1000000002,600000000],[],[(1000000000,0,.rule,600000000)],[],[]⟩
noncomputable def nm3:Norm U:=⟨[],[2,3,4,6],[20,1000000000,1000000001,1000000002,600000000],[],[(1000000000,0,.rule,600000000)],[],[(20,0,.tok)]⟩
abbrev Y1:=(List Tok)→Int→(List Rule)→Int→Int→Int→R
abbrev Y2:=(List Rule)→Int→Int→Int→R
abbrev Y3:=(List Tok)→Int→(List Rule)→Int→Int→Int→R
noncomputable def fr0 (ts:List Tok) (ln:Int) (cl:Int) (en:Int):St U El:=⟨[(2,(.ptr 1000000000 0)),(3,(.ptr 1000000001 0)),(4,(.ptr 1000000002 0)),(5,(.lst .tok ts))],[(1000000000,(.box 1000000000 [.nils])),(1000000001,(.box 1000000001 [(.int .i64 ln),(.int .i64 cl)])),(1000000002,(.box 1000000002 [(.int .i64 en)]))]⟩
noncomputable def fr1 (aA:List Tok) (bA:Int) (cA:List Rule) (dA:Int) (eA:Int) (fA:Int):St U El:=⟨[(2,(.ptr 1000000000 0)),(3,(.ptr 1000000001 0)),(4,(.ptr 1000000002 0)),(6,(.ptr 20 0))],[(20,(.box 0 [(.lst .tok aA),(.int .i64 bA)])),(1000000000,(.box 1000000000 [(.ful 600000000)])),(1000000001,(.box 1000000001 [(.int .i64 dA),(.int .i64 eA)])),(1000000002,(.box 1000000002 [(.int .i64 fA)])),(600000000,(.rows .rule cA))]⟩
noncomputable def fr2 (cA:List Rule) (dA:Int) (eA:Int) (fA:Int):St U El:=⟨[(2,(.ptr 1000000000 0)),(3,(.ptr 1000000001 0)),(4,(.ptr 1000000002 0))],[(1000000000,(.box 1000000000 [(.ful 600000000)])),(1000000001,(.box 1000000001 [(.int .i64 dA),(.int .i64 eA)])),(1000000002,(.box 1000000002 [(.int .i64 fA)])),(600000000,(.rows .rule cA))]⟩
noncomputable def fr3 (aA:List Tok) (bA:Int) (cA:List Rule) (dA:Int) (eA:Int) (fA:Int):St U El:=⟨[(2,(.ptr 1000000000 0)),(3,(.ptr 1000000001 0)),(4,(.ptr 1000000002 0)),(6,(.ptr 20 0))],[(20,(.box 0 [(.lst .tok aA),(.int .i64 bA)])),(1000000000,(.box 1000000000 [(.ful 600000000)])),(1000000001,(.box 1000000001 [(.int .i64 dA),(.int .i64 eA)])),(1000000002,(.box 1000000002 [(.int .i64 fA)])),(600000000,(.rows .rule cA))]⟩
noncomputable def sh0 (ts:List Tok) (ln:Int) (cl:Int) (en:Int) (k1:Y1):R :=
 k1 ts (0:Int) ([]:List Rule) ln cl en
noncomputable def sh1 (aA:List Tok) (bA:Int) (cA:List Rule) (dA:Int) (eA:Int) (fA:Int) (k3:Y3):R :=
 k3 aA bA cA dA eA fA
noncomputable def sh2 (cA:List Rule) (dA:Int) (eA:Int) (fA:Int):R :=
 condB (!(rulesB cA)) (some ((.tup [(.lst .rule ([]:List Rule)),(.agg [(.int .i64 (0:Int)),(.int .i64 (0:Int))]),(.int .i64 (1:Int))]),[])) (some ((.tup [(.lst .rule cA),(.agg [(.int .i64 (0:Int)),(.int .i64 (0:Int))]),(.int .i64 (0:Int))]),[]))
noncomputable def sh3A (aA:List Tok) (bA:Int) (cA:List Rule) (dA:Int) (eA:Int) (fA:Int) (k2:Y2) (k3:Y3):R :=
 chk ((inb bA (List.length aA)&&nle (List.length aA) 90000)) (condB ((tokAt aA bA).kk != (5:Int)) (chk ((inb bA (List.length aA)&&nle (List.length aA) 90000)) (condB ((tokAt aA bA).kk == (4:Int)) (k3 aA (IntKind.wrap .i64 (bA+(1:Int))) cA dA eA fA) (amb (chk ((okT aA&&inb bA (List.length aA))) (condB (Res.ok (rulR aA bA)) (chk (nle ((List.length cA+List.length ([(Res.v (rulR aA bA))]:List Rule)) * 64) 140737488355328&&nle (List.length cA+List.length ([(Res.v (rulR aA bA))]:List Rule)) 9223372036854775807) (k3 aA (Res.p (rulR aA bA)) (cA++([(Res.v (rulR aA bA))]:List Rule)) dA eA fA)) (some (.tup [.lst .rule [],(.agg [(.int .i64 (Tok.kl (tokAt aA (Res.p (rulR aA bA))))),(.int .i64 (Tok.kc (tokAt aA (Res.p (rulR aA bA)))))]),.int .i64 7],[])))) (amb (chk ((okT aA&&inb bA (List.length aA))) (condB (Res.ok (rulR aA bA)) (chk (nle ((List.length cA+List.length ([(Res.v (rulR aA bA))]:List Rule)) * 64) 140737488355328&&nle (List.length cA+List.length ([(Res.v (rulR aA bA))]:List Rule)) 9223372036854775807) (k3 aA (Res.p (rulR aA bA)) (cA++([(Res.v (rulR aA bA))]:List Rule)) dA eA fA)) (some (.tup [.lst .rule [],(.agg [(.int .i64 (Tok.kl (tokAt aA (Res.p (rulR aA bA))))),(.int .i64 (Tok.kc (tokAt aA (Res.p (rulR aA bA)))))]),.int .i64 7],[])))) (chk ((okT aA&&inb bA (List.length aA))) (condB (Res.ok (rulR aA bA)) (amb (chk (nle ((List.length cA+List.length ([(Res.v (rulR aA bA))]:List Rule)) * 64) 140737488355328&&nle (List.length cA+List.length ([(Res.v (rulR aA bA))]:List Rule)) 9223372036854775807) (k3 aA (Res.p (rulR aA bA)) (cA++([(Res.v (rulR aA bA))]:List Rule)) dA eA fA)) (chk (nle ((List.length cA+List.length ([(Res.v (rulR aA bA))]:List Rule)) * 64) 140737488355328&&nle (List.length cA+List.length ([(Res.v (rulR aA bA))]:List Rule)) 9223372036854775807) (k3 aA (Res.p (rulR aA bA)) (cA++([(Res.v (rulR aA bA))]:List Rule)) dA eA fA))) (some (.tup [.lst .rule [],(.agg [(.int .i64 (Tok.kl (tokAt aA (Res.p (rulR aA bA))))),(.int .i64 (Tok.kc (tokAt aA (Res.p (rulR aA bA)))))]),.int .i64 7],[])))))))) (k2 cA dA eA fA))
noncomputable def sh3 (aA:List Tok) (bA:Int) (cA:List Rule) (dA:Int) (eA:Int) (fA:Int) (k2:Y2) (k3:Y3):R :=
 chk ((inb bA (List.length aA)&&nle (List.length aA) 90000)) (condB ((tokAt aA bA).kk != (5:Int)) (chk ((inb bA (List.length aA)&&nle (List.length aA) 90000)) (condB ((tokAt aA bA).kk == (4:Int)) (k3 aA (IntKind.wrap .i64 (bA+(1:Int))) cA dA eA fA) (chk ((okT aA&&inb bA (List.length aA))) (condB (Res.ok (rulR aA bA)) (chk (nle ((List.length cA+List.length ([(Res.v (rulR aA bA))]:List Rule)) * 64) 140737488355328&&nle (List.length cA+List.length ([(Res.v (rulR aA bA))]:List Rule)) 9223372036854775807) (k3 aA (Res.p (rulR aA bA)) (cA++([(Res.v (rulR aA bA))]:List Rule)) dA eA fA)) (some (.tup [.lst .rule [],(.agg [(.int .i64 (Tok.kl (tokAt aA (Res.p (rulR aA bA))))),(.int .i64 (Tok.kc (tokAt aA (Res.p (rulR aA bA)))))]),.int .i64 7],[])))))) (k2 cA dA eA fA))
theorem sh3E (aA:List Tok) (bA:Int) (cA:List Rule) (dA:Int) (eA:Int) (fA:Int) (k2:Y2) (k3:Y3):sh3A aA bA cA dA eA fA k2 k3=sh3 aA bA cA dA eA fA k2 k3:=by
 unfold sh3A sh3
 simp only [amb_same]
noncomputable def it3 (Kb2:Kont U El) (n:Nat):Kont U El:=iter nm3 (fun st' K'=>exec X (cdp [1,0,0,0] bd) (.seq none .d (.block (.seq none .d .regionA))) st' K' (Eblk 0 (cutK nm2 Kb2) (fun _ _=>none)) RR) n
noncomputable def ct1:Kont U El:=fun st=>exec X (cdp [1] bd) (.seq (some nm2) (.block (.loop nm3 (.seq none .d (.block (.seq none .d .regionA))))) .d) st RR (fun _ _=>none) RR
noncomputable def ct2:Kont U El:=fun st=>exec X (cdp [1,1] bd) .d st RR (fun _ _=>none) RR
theorem P0 (ts ln cl en):exec X (cdp [] bd) (.seq (some nm1) .d (.seq (some nm2) (.block (.loop nm3 (.seq none .d (.block (.seq none .d .regionA))))) .d)) (fr0 ts ln cl en) RR (fun _ _=>none) RR=sh0 ts ln cl en (fun y0 y1 y2 y3 y4 y5=>(hid ct1) (fr1 y0 y1 y2 y3 y4 y5)):=by kernel_rfl
theorem P1 (aA bA cA dA eA fA):ct1 (fr1 aA bA cA dA eA fA)=sh1 aA bA cA dA eA fA (fun y0 y1 y2 y3 y4 y5=>(hid (it3 (hid ct2) 100000)) (fr3 y0 y1 y2 y3 y4 y5)):=by kernel_rfl
theorem P2 (cA dA eA fA):ct2 (fr2 cA dA eA fA)=sh2 cA dA eA fA:=by kernel_rfl
theorem P3 (aA bA cA dA eA fA) (Kb2 Kb3:Kont U El):exec X (cdp [1,0,0,0] bd) (.seq none .d (.block (.seq none .d .regionA))) (fr3 aA bA cA dA eA fA) (cutK nm3 Kb3) (Eblk 0 (cutK nm2 Kb2) (fun _ _=>none)) RR=sh3 aA bA cA dA eA fA (fun y0 y1 y2 y3=>Kb2 (fr2 y0 y1 y2 y3)) (fun y0 y1 y2 y3 y4 y5=>Kb3 (fr3 y0 y1 y2 y3 y4 y5)):=(by kernel_rfl:_=sh3A aA bA cA dA eA fA (fun y0 y1 y2 y3=>Kb2 (fr2 y0 y1 y2 y3)) (fun y0 y1 y2 y3 y4 y5=>Kb3 (fr3 y0 y1 y2 y3 y4 y5))).trans (sh3E aA bA cA dA eA fA (fun y0 y1 y2 y3=>Kb2 (fr2 y0 y1 y2 y3)) (fun y0 y1 y2 y3 y4 y5=>Kb3 (fr3 y0 y1 y2 y3 y4 y5)))
noncomputable def f2 (cA:List Rule) (dA:Int) (eA:Int) (fA:Int):R:=sh2 cA dA eA fA
noncomputable def f3:Nat→Y3
 | 0=>fun _ _ _ _ _ _=>none
 | n+1=>fun aA bA cA dA eA fA=>sh3 aA bA cA dA eA fA f2 (f3 n)
noncomputable def f1 (aA:List Tok) (bA:Int) (cA:List Rule) (dA:Int) (eA:Int) (fA:Int):R:=sh1 aA bA cA dA eA fA (f3 100000)
noncomputable def f0 (ts:List Tok) (ln:Int) (cl:Int) (en:Int):R:=sh0 ts ln cl en f1
theorem T2 (cA dA eA fA):(hid ct2) (fr2 cA dA eA fA)=f2 cA dA eA fA:=by
 refine (congrFun (hid_eq _) _).trans <| (P2 cA dA eA fA).trans ?_
 show _=sh2 cA dA eA fA
 rfl
theorem T3:∀ (n:Nat),∀ aA bA cA dA eA fA,it3 (hid ct2) n (fr3 aA bA cA dA eA fA)=f3 n aA bA cA dA eA fA:=by
  intro n
  induction n with
  | zero=>intros; rfl
  | succ n ih =>
    intro aA bA cA dA eA fA
    refine (P3 aA bA cA dA eA fA (hid ct2) (it3 (hid ct2) n)).trans ?_
    show _=sh3 aA bA cA dA eA fA f2 (f3 n)
    simp only [T2,ih]
theorem H3 (aA bA cA dA eA fA):hid (it3 (hid ct2) 100000) (fr3 aA bA cA dA eA fA)=f3 100000 aA bA cA dA eA fA:=(congrFun (hid_eq _) _).trans (T3 100000 aA bA cA dA eA fA)
theorem T1 (aA bA cA dA eA fA):(hid ct1) (fr1 aA bA cA dA eA fA)=f1 aA bA cA dA eA fA:=by
 refine (congrFun (hid_eq _) _).trans <| (P1 aA bA cA dA eA fA).trans ?_
 show _=sh1 aA bA cA dA eA fA (f3 100000)
 simp only [H3]
theorem T0 (ts ln cl en):exec X bd (.seq (some nm1) .d (.seq (some nm2) (.block (.loop nm3 (.seq none .d (.block (.seq none .d .regionA))))) .d)) (fr0 ts ln cl en) RR (fun _ _=>none) RR=f0 ts ln cl en:=by
 refine (P0 ts ln cl en).trans ?_
 show _=sh0 ts ln cl en f1
 simp only [T1]
theorem run (ts ln cl en):exec X bd (.seq (some nm1) .d (.seq (some nm2) (.block (.loop nm3 (.seq none .d (.block (.seq none .d .regionA))))) .d)) (fr0 ts ln cl en) RR (fun _ _=>none) RR=f0 ts ln cl en:=T0 ts ln cl en
theorem f2_eq (v:List Rule) (a b c:Int) (ts:List Tok) (p:Int):f2 v a b c=outPR ts ⟨true,v,p⟩:=by
 show sh2 v a b c=_
 unfold sh2 outPR
 cases rulesB v<;>rfl
theorem loop (ts : List Tok) (ho : okT ts = true) (a b c : Int) : ∀ (m n : Nat) (p : Int) (acc : List Rule), At ts p → acc.length ≤ p.toNat → Int.ofNat ts.length < Int.ofNat m + p + 1 → m ≤ n → f3 n ts p acc a b c = outPR ts (parR ts m p acc) := by
  intro m
  induction m with
  | zero=>intro n p acc h _ hm _; obtain ⟨h1,h2⟩:=h; simp at hm h2; omega
  | succ m ih =>
    intro n p acc h hacc hm hn
    obtain ⟨n,rfl⟩:∃ n',n=n'+1:=⟨n - 1,by omega⟩
    have hl:=h.len ho
    show sh3 ts p acc a b c f2 (f3 n)=_
    unfold sh3 parR
    rw [inpT h ho]
    simp only [chkT]
    have hb:((tokAt ts p).kk != (5:Int)) = !((tokAt ts p).kk == 5):=rfl
    rw [hb]
    cases h5:(tokAt ts p).kk == 5
    · simp only [Bool.not_false, condT, cond_false]
      have hne:(tokAt ts p).kk≠5:=beq_eq_false_iff_ne.1 h5
      cases h4:(tokAt ts p).kk == 4
      · simp only [condF, cond_false]
        rw [oktT h ho]
        simp only [chkT]
        have hr:=rulR_fine ho h
        unfold Res.bd
        generalize rulR ts p=r at *
        cases e1:r.ok
        · rfl
        · simp only [condT, cond_true]
          have hs:=hr.step e1
          rw [nleT (by simp; omega),nleT (by simp; omega)]
          simp only [Bool.and_self,chkT]
          have hr0:=hr.at_.1
          exact ih n r.p (acc++[r.v]) hr.at_ (by simp; omega) (by simp only [Int.ofNat_eq_natCast] at hm ⊢; omega) (by omega)
      · simp only [condT, cond_true]
        rw [h.wrap hl.1]
        exact ih n (p+1) acc (h.more ho hne) (by omega) (by simp only [Int.ofNat_eq_natCast] at hm ⊢; omega) (by omega)
    · simp only [Bool.not_true, condF, cond_true]
      exact f2_eq acc a b c ts p
theorem f0_eq (ts:List Tok) (a b c:Int) (ho:okT ts=true):f0 ts a b c=some (.tup [.lst .rule (parL ts),.agg [.int .i64 (parP ts).pl,.int .i64 (parP ts).pc],.int .i64 (parE ts)],[]):=by
 have hlen:0 < ts.length:=by
  simp only [okT,Bool.and_eq_true,beq_iff_eq] at ho
  cases ts with
  | nil=>have:=ho.2.1; simp [tokAt,d_tok] at this
  | cons t ts=>simp
 have hl:ts.length≤90000:=by
  simp only [okT,Bool.and_eq_true] at ho
  exact nleI ho.1
 show f3 100000 ts 0 [] a b c=_
 rw [loop ts ho a b c (ts.length+1) 100000 0 [] ⟨by decide,by simp; exact hlen⟩ (by simp) (by simp; omega) (by omega)]
 show outPR ts (prgR ts)=_
 unfold outPR parL parP parE
 cases (prgR ts).ok
 ·rfl
 ·cases rulesB (prgR ts).v<;>rfl
end parseR
end Go.Proofs.YtlkfbblapimhoaaGreatDoor
