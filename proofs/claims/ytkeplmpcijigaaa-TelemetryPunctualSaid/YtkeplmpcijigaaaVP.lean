/- The law TelemetryPunctual: its own run. -/
import Derived.Test.YtkeplmpcijigaaaSR
import Derived.Test.YtkeplmpcijigaaaVE
import Derived.Test.YtkeplmpcijigaaaVS
import Derived.Test.YtkeplmpcijigaaaVF
namespace Go.Proofs.Ytkeplmpcijigaaa
variable [Drw]
set_option linter.unusedSectionVars false
set_option linter.unusedSimpArgs false
set_option linter.unusedVariables false
set_option maxRecDepth 100000
noncomputable def gotL (l:List Msg):List (Key×Bool):=l.map fun m=>(keyM m,true)
theorem put_fine {D mk ls:Int} {pre wt:List Msg} {m:Msg} (hR:rightB m=true) (h1:ls≤m.ar) (h2:hasB pre m.nd m.no=false) (hl:pre.length≤9000) (h3:mk≤m.at_) (hD0:0≤D) (hD1:D≤65535) :
    putE ⟨D,mk,ls,gotL pre,wt,[]⟩ m=0∧putS ⟨D,mk,ls,gotL pre,wt,[]⟩ m=⟨D,bif ilt mk (m.ar - D) then m.ar - D else mk,m.ar,gotL (pre++[m]),wt++[m],[]⟩:=by
  have e2:mfind kq_key (gotL pre) (keyM m)=none:=by
    have:=got_has m pre
    rw [h2] at this
    exact this
  have hE:putE ⟨D,mk,ls,gotL pre,wt,[]⟩ m=0:=by
    unfold putE mgetD
    dsimp only
    rw [hR,iltF (show ¬ m.ar < ls by omega),e2,show List.length (gotL pre)=pre.length from List.length_map _,ileF (show ¬ (10000:Int)≤Int.ofNat pre.length by simp; omega)]
    rfl
  refine ⟨hE,?_⟩
  have hu:upM ⟨D,mk,ls,gotL pre,wt,[]⟩ m=m.ar - D:=wrap_time (d:=D) (time_of hR) hD0 (by omega)
  unfold putS
  rw [hE,hu]
  dsimp only
  rw [iltF (show ¬ m.at_ < mk by omega),mput_new kq_key _ _ _ e2]
  simp only [beq_self_eq_true,cond_true,cond_false]
  unfold gotL
  rw [List.map_append]
  rfl
theorem fsOkT (D mk ls:Int) (g:List (Key×Bool)) (wt:List Msg) (h:wt.length≤80000):fsOk ⟨D,mk,ls,g,wt,[]⟩=true:=by
  unfold fsOk
  dsimp only
  rw [nleT h]
  rfl
structure Good (B:List Msg) (D:Int):Prop where
  d0:0≤D
  d1:D≤65535
  len:B.length≤30
  right:∀ m∈B,rightB m=true
  lo:∀ m∈B,-1073741824≤m.at_
  hi:∀ m∈B,m.at_≤1073741824
  punct:∀ m∈B,m.ar≤m.at_+D
  sorted:B.Pairwise fun a b=>a.ar≤b.ar
  dis:B.Pairwise fun a b=>¬ (a.nd=b.nd∧a.no=b.no)
  last:hasB B [108,97,115,116] 0=false
theorem has_take {B:List Msg} (h:B.Pairwise fun a b=>¬ (a.nd=b.nd∧a.no=b.no)) (i:Nat) (hi:i < B.length):hasB (B.take i) B[i].nd B[i].no=false:=by
  unfold hasB
  rw [List.any_eq_false]
  intro y hy
  obtain ⟨j,hj,rfl⟩:=List.mem_iff_getElem.1 hy
  have hj':j < i:=by simp at hj; omega
  have:=List.pairwise_iff_getElem.1 h j i (by omega) hi hj'
  rw [List.getElem_take]
  simp only [Bool.and_eq_true,beq_iff_eq]
  exact this
theorem validL_iff:∀ (l pre:List Msg),validL pre l=true↔(∀ m,m∈l→rightB m=true)∧(∀ m,m∈l→hasB pre m.nd m.no=false)∧l.Pairwise (fun a b=>¬ (a.nd=b.nd∧a.no=b.no)):=by
  intro l
  induction l with
  | nil=>intro pre; simp [validL]
  | cons x l ih =>
    intro pre
    simp only [validL,Bool.and_eq_true,Bool.not_eq_true',ih,List.pairwise_cons,List.mem_cons,forall_eq_or_imp]
    have hs:∀ m:Msg,hasB (pre++[x]) m.nd m.no=false↔hasB pre m.nd m.no=false∧¬ (x.nd=m.nd∧x.no=m.no):=fun m=>by
      unfold hasB
      rw [List.any_append,Bool.or_eq_false_iff]
      simp
    constructor
    · rintro ⟨h1, h2, h3, h4, h5⟩
      exact ⟨⟨h1,h3⟩,⟨h2,fun m hm=>((hs m).1 (h4 m hm)).1⟩,fun m hm=>((hs m).1 (h4 m hm)).2,h5⟩
    · rintro ⟨⟨h1, h3⟩, ⟨h2, h4⟩, h5, h6⟩
      exact ⟨h1,h2,h3,fun m hm=>(hs m).2 ⟨h4 m hm,h5 m hm⟩,h6⟩
theorem drop_mem {α:Type} {l:List α} {i:Nat} {x:α} (h:x∈l.drop i):x∈l:=List.mem_of_mem_drop h
namespace lawPunct
noncomputable def bd:Code:=(Try.f6.body).getD .skip
noncomputable def X:Ctx U El:=⟨E,tds,zeros,eqs,specOf [(9,awake.sp),(16,equalM.sp),(22,cloneM.sp),(23,rvalid.sp),(24,rhas.sp),(27,sortedM.sp)],100000,103,dspecOf [],mspecOf [(11,(mcSp newF.sp)),(13,(mcSp (orN fputN.sp fput.sp))),(17,(mcSp (orN flateN.sp flate.sp))),(19,(mcSp (orN freadyN.sp fready.sp))),(25,sortStSp)],fun _=>none⟩
noncomputable def nmR:Norm U:=⟨[],[4],[],[],[],[],[]⟩
noncomputable def RR:Kont U El:=fun st=>normK nmR st (retFin [4] [])
noncomputable def nm1:Norm U:=⟨[],[0,1],[],[],[],[],[]⟩
noncomputable def nm2:Norm U:=⟨[],[0,1],[],[],[],[],[]⟩
noncomputable def nm3:Norm U:=⟨[],[0,1,28,29,30],[],[],[],[],[]⟩
noncomputable def nm4:Norm U:=⟨[],[0,1,28,29,30],[],[],[],[],[]⟩
noncomputable def nm5:Norm U:=⟨[(7,.msg)],[1,7,8],[7,60000,506000003,506000004,506000005],[],[(60000,3,.key,506000003),(60000,4,.msg,506000004),(60000,5,.msg,506000005)],[],[]⟩
noncomputable def nm6:Norm U:=⟨[],[1,8],[60000,506000003,506000004,506000005],[],[(60000,3,.key,506000003),(60000,4,.msg,506000004),(60000,5,.msg,506000005)],[],[]⟩
noncomputable def nm7:Norm U:=⟨[(69,.msg)],[1,8,69,70,71],[69,60000,506000003,506000004,506000005],[],[(60000,3,.key,506000003),(60000,4,.msg,506000004),(60000,5,.msg,506000005)],[],[]⟩
abbrev Y1:=Int→(List Msg)→R
abbrev Y2:=Int→(List Msg)→R
abbrev Y3:=Int→(List Msg)→(List Msg)→Int→Int→R
abbrev Y4:=Int→(List Msg)→(List Msg)→Int→Int→R
abbrev Y5:=(List Msg)→(List Msg)→Int→Int→Int→(List (Key×Bool))→(List Msg)→(List Msg)→R
abbrev Y6:=(List Msg)→Int→Int→Int→(List (Key×Bool))→(List Msg)→(List Msg)→R
abbrev Y7:=(List Msg)→(List Msg)→Int→Int→Int→Int→Int→(List (Key×Bool))→(List Msg)→(List Msg)→R
noncomputable def fr0 (d:Int) (l:List Msg):St U El:=⟨[(0,(.int .u16 d)),(1,(.lst .msg l))],[]⟩
noncomputable def fr1 (gA:Int) (l1:List Msg):St U El:=⟨[(0,(.int .u16 gA)),(1,(.lst .msg l1))],[]⟩
noncomputable def fr2 (gA:Int) (l1:List Msg):St U El:=⟨[(0,(.int .u16 gA)),(1,(.lst .msg l1))],[]⟩
noncomputable def fr3 (gA:Int) (l1:List Msg) (iA:List Msg) (jA:Int) (hA:Int):St U El:=⟨[(0,(.int .u16 gA)),(1,(.lst .msg l1)),(28,(.lst .msg iA)),(29,(.int .i64 jA)),(30,(.int .i64 hA))],[]⟩
noncomputable def fr4 (gA:Int) (l1:List Msg) (iA:List Msg) (jA:Int) (hA:Int):St U El:=⟨[(0,(.int .u16 gA)),(1,(.lst .msg l1)),(28,(.lst .msg iA)),(29,(.int .i64 jA)),(30,(.int .i64 hA))],[]⟩
noncomputable def fr5 (l1:List Msg) (byArrival7:List Msg) (aA:Int) (bA:Int) (cA:Int) (dA:List (Key×Bool)) (eA:List Msg) (fA:List Msg):St U El:=⟨[(1,(.lst .msg l1)),(7,(.ful 7)),(8,(.ptr 60000 0))],[(7,(.rows .msg byArrival7)),(60000,(.box 0 [(.int .i64 aA),(.int .i64 bA),(.int .i64 cA),(.mp 506000003),(.ful 506000004),(.ful 506000005)])),(506000003,(.map .key .bool dA)),(506000004,(.rows .msg eA)),(506000005,(.rows .msg fA))]⟩
noncomputable def fr6 (l1:List Msg) (aA:Int) (bA:Int) (cA:Int) (dA:List (Key×Bool)) (eA:List Msg) (fA:List Msg):St U El:=⟨[(1,(.lst .msg l1)),(8,(.ptr 60000 0))],[(60000,(.box 0 [(.int .i64 aA),(.int .i64 bA),(.int .i64 cA),(.mp 506000003),(.ful 506000004),(.ful 506000005)])),(506000003,(.map .key .bool dA)),(506000004,(.rows .msg eA)),(506000005,(.rows .msg fA))]⟩
noncomputable def fr7 (l1:List Msg) (lA:List Msg) (mA:Int) (kA:Int) (aA:Int) (bA:Int) (cA:Int) (dA:List (Key×Bool)) (eA:List Msg) (fA:List Msg):St U El:=⟨[(1,(.lst .msg l1)),(8,(.ptr 60000 0)),(69,(.ful 69)),(70,(.int .i64 mA)),(71,(.int .i64 kA))],[(69,(.rows .msg lA)),(60000,(.box 0 [(.int .i64 aA),(.int .i64 bA),(.int .i64 cA),(.mp 506000003),(.ful 506000004),(.ful 506000005)])),(506000003,(.map .key .bool dA)),(506000004,(.rows .msg eA)),(506000005,(.rows .msg fA))]⟩
noncomputable def sh0 (d:Int) (l:List Msg) (k1:Y1):R :=
  condB (!(true)) (some ((.bool false),[])) (condB (ilt (30:Int) (Int.ofNat (List.length l))) (some ((.bool true),[])) (condB (!(validB l)) (some ((.bool true),[])) (chk (nle (List.length l) 90000) (condB (hasB l ([108,97,115,116]:List UInt8) (0:Int)) (some ((.bool true),[])) (k1 d l)))))
noncomputable def sh1 (gA:Int) (l1:List Msg) (k3:Y3):R :=
  k3 gA l1 l1 (Int.ofNat (List.length l1)) (0:Int)
noncomputable def sh2 (gA:Int) (l1:List Msg) (k5:Y5):R :=
  chk (nle (List.length l1) 100000) (chk (true&&nle (List.length (l1)) 30) (condB (ile 0 (IntKind.wrap .i64 gA)&&ile (IntKind.wrap .i64 gA) 68719476736) (k5 l1 (sortSt (l1)) ((IntKind.wrap .i64 gA)) (-137438953472:Int) (-68719476736:Int) ([]) ([]) ([])) (some ((.bool false),[]))))
noncomputable def sh3 (gA:Int) (l1:List Msg) (iA:List Msg) (jA:Int) (hA:Int) (k2:Y2) (k4:Y4):R :=
  condB (ilt hA jA) (chk (inb hA (List.length iA)) (condB (ilt ((List.getD iA (Int.toNat hA) d_msg).at_) (-1073741824:Int)) (some ((.bool true),[])) (condB (ilt (1073741824:Int) ((List.getD iA (Int.toNat hA) d_msg).at_)) (some ((.bool true),[])) (condB (ilt (IntKind.wrap .i64 ((List.getD iA (Int.toNat hA) d_msg).at_+(IntKind.wrap .i64 gA))) ((List.getD iA (Int.toNat hA) d_msg).ar)) (some ((.bool true),[])) (k4 gA l1 iA jA hA))))) (k2 gA l1)
noncomputable def sh4 (gA:Int) (l1:List Msg) (iA:List Msg) (jA:Int) (hA:Int) (k3:Y3):R :=
  k3 gA l1 iA jA (IntKind.wrap .i64 (hA+(1:Int)))
noncomputable def sh5 (l1:List Msg) (byArrival7:List Msg) (aA:Int) (bA:Int) (cA:Int) (dA:List (Key×Bool)) (eA:List Msg) (fA:List Msg) (k7:Y7):R :=
  k7 l1 byArrival7 (Int.ofNat (List.length byArrival7)) (0:Int) aA bA cA dA eA fA
noncomputable def sh6 (l1:List Msg) (aA:Int) (bA:Int) (cA:Int) (dA:List (Key×Bool)) (eA:List Msg) (fA:List Msg):R :=
  chk (fsOk ⟨aA,bA,cA,dA,eA,fA⟩) (condB ((putE ⟨aA,bA,cA,dA,eA,fA⟩ (⟨([108,97,115,116]:List UInt8),(0:Int),(2147483648:Int),(2147483648:Int),(0:Int)⟩:Msg)) != (0:Int)) (some ((.bool false),[])) (condB (((bif validB l1 then 0 else 1)) == (0:Int)) (chk (nle (List.length (FS.lt (putS ⟨aA,bA,cA,dA,eA,fA⟩ (⟨([108,97,115,116]:List UInt8),(0:Int),(2147483648:Int),(2147483648:Int),(0:Int)⟩:Msg)))) 90000) (condB ((Int.ofNat (List.length ((FS.lt (putS ⟨aA,bA,cA,dA,eA,fA⟩ (⟨([108,97,115,116]:List UInt8),(0:Int),(2147483648:Int),(2147483648:Int),(0:Int)⟩:Msg)))))) == (0:Int)) (chk ((keysB (FS.wt (putS ⟨aA,bA,cA,dA,eA,fA⟩ (⟨([108,97,115,116]:List UInt8),(0:Int),(2147483648:Int),(2147483648:Int),(0:Int)⟩:Msg)))&&nle (List.length (FS.wt (putS ⟨aA,bA,cA,dA,eA,fA⟩ (⟨([108,97,115,116]:List UInt8),(0:Int),(2147483648:Int),(2147483648:Int),(0:Int)⟩:Msg)))) 90000)) (chk (nle (List.length (sortM (List.filter (fun m=>ilt (Msg.at_ m) (FS.mk_ (putS ⟨aA,bA,cA,dA,eA,fA⟩ (⟨([108,97,115,116]:List UInt8),(0:Int),(2147483648:Int),(2147483648:Int),(0:Int)⟩:Msg)))) (FS.wt (putS ⟨aA,bA,cA,dA,eA,fA⟩ (⟨([108,97,115,116]:List UInt8),(0:Int),(2147483648:Int),(2147483648:Int),(0:Int)⟩:Msg)))))) 90000) (some ((.bool (eqL (sortM (List.filter (fun m=>ilt (Msg.at_ m) (FS.mk_ (putS ⟨aA,bA,cA,dA,eA,fA⟩ (⟨([108,97,115,116]:List UInt8),(0:Int),(2147483648:Int),(2147483648:Int),(0:Int)⟩:Msg)))) (FS.wt (putS ⟨aA,bA,cA,dA,eA,fA⟩ (⟨([108,97,115,116]:List UInt8),(0:Int),(2147483648:Int),(2147483648:Int),(0:Int)⟩:Msg))))) ((bif validB l1 then sortM l1 else [])))),[])))) (some ((.bool false),[])))) (some ((.bool false),[]))))
noncomputable def sh7 (l1:List Msg) (lA:List Msg) (mA:Int) (kA:Int) (aA:Int) (bA:Int) (cA:Int) (dA:List (Key×Bool)) (eA:List Msg) (fA:List Msg) (k6:Y6) (k7:Y7):R :=
  condB (ilt kA mA) (chk (inb kA (List.length lA)) (chk (nlt (Int.toNat kA) (List.length lA)) (chk (fsOk ⟨aA,bA,cA,dA,eA,fA⟩) (condB ((putE ⟨aA,bA,cA,dA,eA,fA⟩ (List.getD lA (Int.toNat kA) d_msg)) != (0:Int)) (some ((.bool false),[])) (k7 l1 lA mA (IntKind.wrap .i64 (kA+(1:Int))) aA (FS.mk_ (putS ⟨aA,bA,cA,dA,eA,fA⟩ (List.getD lA (Int.toNat kA) d_msg))) (FS.ls (putS ⟨aA,bA,cA,dA,eA,fA⟩ (List.getD lA (Int.toNat kA) d_msg))) (FS.got (putS ⟨aA,bA,cA,dA,eA,fA⟩ (List.getD lA (Int.toNat kA) d_msg))) (FS.wt (putS ⟨aA,bA,cA,dA,eA,fA⟩ (List.getD lA (Int.toNat kA) d_msg))) (FS.lt (putS ⟨aA,bA,cA,dA,eA,fA⟩ (List.getD lA (Int.toNat kA) d_msg)))))))) (k6 l1 aA bA cA dA eA fA)
noncomputable def it3 (Kb2:Kont U El) (n:Nat):Kont U El:=iter nm3 (fun st' K'=>exec X (cdp [1,1,1,0,1,0,0] bd) (.seq none .d (.seq none .d (.seq (some nm4) .d .d))) st' K' (Eblk 0 (cutK nm2 Kb2) (fun _ _=>none)) RR) n
noncomputable def it7 (Kb6:Kont U El) (n:Nat):Kont U El:=iter nm7 (fun st' K'=>exec X (cdp [1,1,1,1,1,1,1,1,0,1,0,0] bd) .d st' K' (Eblk 2 (cutK nm6 Kb6) (fun _ _=>none)) RR) n
noncomputable def ct1:Kont U El:=fun st=>exec X (cdp [1,1,1] bd) (.seq (some nm2) (.seq none .d (.block (.loop nm3 (.seq none .d (.seq none .d (.seq (some nm4) .d .d)))))) (.seq none .d (.seq none .d (.seq none .d (.seq (some nm5) .d (.seq (some nm6) (.seq none .d (.block (.loop nm7 .d))) .d)))))) st RR (fun _ _=>none) RR
noncomputable def ct2:Kont U El:=fun st=>exec X (cdp [1,1,1,1] bd) (.seq none .d (.seq none .d (.seq none .d (.seq (some nm5) .d (.seq (some nm6) (.seq none .d (.block (.loop nm7 .d))) .d))))) st RR (fun _ _=>none) RR
noncomputable def ct4 (Kb2 Kb3:Kont U El):Kont U El:=fun st=>exec X (cdp [1,1,1,0,1,0,0,1,1,1] bd) .d st (cutK nm3 Kb3) (Eblk 0 (cutK nm2 Kb2) (fun _ _=>none)) RR
noncomputable def ct5:Kont U El:=fun st=>exec X (cdp [1,1,1,1,1,1,1,1] bd) (.seq (some nm6) (.seq none .d (.block (.loop nm7 .d))) .d) st RR (fun _ _=>none) RR
noncomputable def ct6:Kont U El:=fun st=>exec X (cdp [1,1,1,1,1,1,1,1,1] bd) .d st RR (fun _ _=>none) RR
theorem P0 (d l):exec X (cdp [] bd) (.seq none .d (.seq none .d (.seq (some nm1) .d (.seq (some nm2) (.seq none .d (.block (.loop nm3 (.seq none .d (.seq none .d (.seq (some nm4) .d .d)))))) (.seq none .d (.seq none .d (.seq none .d (.seq (some nm5) .d (.seq (some nm6) (.seq none .d (.block (.loop nm7 .d))) .d))))))))) (fr0 d l) RR (fun _ _=>none) RR=sh0 d l (fun y0 y1=>(hid ct1) (fr1 y0 y1)):=by kernel_rfl
theorem P1 (gA l1):ct1 (fr1 gA l1)=sh1 gA l1 (fun y0 y1 y2 y3 y4=>(hid (it3 (hid ct2) 100000)) (fr3 y0 y1 y2 y3 y4)):=by kernel_rfl
theorem P2 (gA l1):ct2 (fr2 gA l1)=sh2 gA l1 (fun y0 y1 y2 y3 y4 y5 y6 y7=>(hid ct5) (fr5 y0 y1 y2 y3 y4 y5 y6 y7)):=by kernel_rfl
theorem P3 (gA l1 iA jA hA) (Kb2 Kb3:Kont U El):exec X (cdp [1,1,1,0,1,0,0] bd) (.seq none .d (.seq none .d (.seq (some nm4) .d .d))) (fr3 gA l1 iA jA hA) (cutK nm3 Kb3) (Eblk 0 (cutK nm2 Kb2) (fun _ _=>none)) RR=sh3 gA l1 iA jA hA (fun y0 y1=>Kb2 (fr2 y0 y1)) (fun y0 y1 y2 y3 y4=>(hid (ct4 Kb2 Kb3)) (fr4 y0 y1 y2 y3 y4)):=by kernel_rfl
theorem P4 (gA l1 iA jA hA) (Kb2 Kb3:Kont U El):ct4 Kb2 Kb3 (fr4 gA l1 iA jA hA)=sh4 gA l1 iA jA hA (fun y0 y1 y2 y3 y4=>Kb3 (fr3 y0 y1 y2 y3 y4)):=by kernel_rfl
theorem P5 (l1 byArrival7 aA bA cA dA eA fA):ct5 (fr5 l1 byArrival7 aA bA cA dA eA fA)=sh5 l1 byArrival7 aA bA cA dA eA fA (fun y0 y1 y2 y3 y4 y5 y6 y7 y8 y9=>(hid (it7 (hid ct6) 100000)) (fr7 y0 y1 y2 y3 y4 y5 y6 y7 y8 y9)):=by kernel_rfl
theorem P6 (l1 aA bA cA dA eA fA):ct6 (fr6 l1 aA bA cA dA eA fA)=sh6 l1 aA bA cA dA eA fA:=by kernel_rfl
theorem P7 (l1 lA mA kA aA bA cA dA eA fA) (Kb6 Kb7:Kont U El):exec X (cdp [1,1,1,1,1,1,1,1,0,1,0,0] bd) .d (fr7 l1 lA mA kA aA bA cA dA eA fA) (cutK nm7 Kb7) (Eblk 2 (cutK nm6 Kb6) (fun _ _=>none)) RR=sh7 l1 lA mA kA aA bA cA dA eA fA (fun y0 y1 y2 y3 y4 y5 y6=>Kb6 (fr6 y0 y1 y2 y3 y4 y5 y6)) (fun y0 y1 y2 y3 y4 y5 y6 y7 y8 y9=>Kb7 (fr7 y0 y1 y2 y3 y4 y5 y6 y7 y8 y9)):=by kernel_rfl
noncomputable def f6 (l1:List Msg) (aA:Int) (bA:Int) (cA:Int) (dA:List (Key×Bool)) (eA:List Msg) (fA:List Msg):R:=sh6 l1 aA bA cA dA eA fA
noncomputable def f7:Nat→Y7
  | 0=>fun _ _ _ _ _ _ _ _ _ _=>none
  | n+1=>fun l1 lA mA kA aA bA cA dA eA fA=>sh7 l1 lA mA kA aA bA cA dA eA fA f6 (f7 n)
noncomputable def f5 (l1:List Msg) (byArrival7:List Msg) (aA:Int) (bA:Int) (cA:Int) (dA:List (Key×Bool)) (eA:List Msg) (fA:List Msg):R:=sh5 l1 byArrival7 aA bA cA dA eA fA (f7 100000)
noncomputable def f2 (gA:Int) (l1:List Msg):R:=sh2 gA l1 f5
noncomputable def f4 (k3:Y3) (gA:Int) (l1:List Msg) (iA:List Msg) (jA:Int) (hA:Int):R:=sh4 gA l1 iA jA hA k3
noncomputable def f3:Nat→Y3
  | 0=>fun _ _ _ _ _=>none
  | n+1=>fun gA l1 iA jA hA=>sh3 gA l1 iA jA hA f2 (f4 (f3 n))
noncomputable def f1 (gA:Int) (l1:List Msg):R:=sh1 gA l1 (f3 100000)
noncomputable def f0 (d:Int) (l:List Msg):R:=sh0 d l f1
theorem T6 (l1 aA bA cA dA eA fA):(hid ct6) (fr6 l1 aA bA cA dA eA fA)=f6 l1 aA bA cA dA eA fA:=by
  refine (congrFun (hid_eq _) _).trans <| (P6 l1 aA bA cA dA eA fA).trans ?_
  show _=sh6 l1 aA bA cA dA eA fA
  rfl
theorem T7:∀ (n:Nat),∀ l1 lA mA kA aA bA cA dA eA fA,it7 (hid ct6) n (fr7 l1 lA mA kA aA bA cA dA eA fA)=f7 n l1 lA mA kA aA bA cA dA eA fA:=by
  intro n
  induction n with
  | zero=>intros; rfl
  | succ n ih =>
    intro l1 lA mA kA aA bA cA dA eA fA
    refine (P7 l1 lA mA kA aA bA cA dA eA fA (hid ct6) (it7 (hid ct6) n)).trans ?_
    show _=sh7 l1 lA mA kA aA bA cA dA eA fA f6 (f7 n)
    simp only [T6,ih]
theorem H7 (l1 lA mA kA aA bA cA dA eA fA):hid (it7 (hid ct6) 100000) (fr7 l1 lA mA kA aA bA cA dA eA fA)=f7 100000 l1 lA mA kA aA bA cA dA eA fA:=(congrFun (hid_eq _) _).trans (T7 100000 l1 lA mA kA aA bA cA dA eA fA)
theorem T5 (l1 byArrival7 aA bA cA dA eA fA):(hid ct5) (fr5 l1 byArrival7 aA bA cA dA eA fA)=f5 l1 byArrival7 aA bA cA dA eA fA:=by
  refine (congrFun (hid_eq _) _).trans <| (P5 l1 byArrival7 aA bA cA dA eA fA).trans ?_
  show _=sh5 l1 byArrival7 aA bA cA dA eA fA (f7 100000)
  simp only [H7]
theorem T2 (gA l1):(hid ct2) (fr2 gA l1)=f2 gA l1:=by
  refine (congrFun (hid_eq _) _).trans <| (P2 gA l1).trans ?_
  show _=sh2 gA l1 f5
  simp only [T5]
theorem T4 (KL3:Kont U El) (k3:Y3) (h3:∀ gA l1 iA jA hA,KL3 (fr3 gA l1 iA jA hA)=k3 gA l1 iA jA hA) (gA l1 iA jA hA):(hid (ct4 (hid ct2) KL3)) (fr4 gA l1 iA jA hA)=f4 k3 gA l1 iA jA hA:=by
  refine (congrFun (hid_eq _) _).trans <| (P4 gA l1 iA jA hA (hid ct2) KL3).trans ?_
  show _=sh4 gA l1 iA jA hA k3
  simp only [h3]
theorem T3:∀ (n:Nat),∀ gA l1 iA jA hA,it3 (hid ct2) n (fr3 gA l1 iA jA hA)=f3 n gA l1 iA jA hA:=by
  intro n
  induction n with
  | zero=>intros; rfl
  | succ n ih =>
    intro gA l1 iA jA hA
    refine (P3 gA l1 iA jA hA (hid ct2) (it3 (hid ct2) n)).trans ?_
    show _=sh3 gA l1 iA jA hA f2 (f4 (f3 n))
    simp only [T2,T4 (it3 (hid ct2) n) (f3 n) ih]
theorem H3 (gA l1 iA jA hA):hid (it3 (hid ct2) 100000) (fr3 gA l1 iA jA hA)=f3 100000 gA l1 iA jA hA:=(congrFun (hid_eq _) _).trans (T3 100000 gA l1 iA jA hA)
theorem T1 (gA l1):(hid ct1) (fr1 gA l1)=f1 gA l1:=by
  refine (congrFun (hid_eq _) _).trans <| (P1 gA l1).trans ?_
  show _=sh1 gA l1 (f3 100000)
  simp only [H3]
theorem T0 (d l):exec X bd (.seq none .d (.seq none .d (.seq (some nm1) .d (.seq (some nm2) (.seq none .d (.block (.loop nm3 (.seq none .d (.seq none .d (.seq (some nm4) .d .d)))))) (.seq none .d (.seq none .d (.seq none .d (.seq (some nm5) .d (.seq (some nm6) (.seq none .d (.block (.loop nm7 .d))) .d))))))))) (fr0 d l) RR (fun _ _=>none) RR=f0 d l:=by
  refine (P0 d l).trans ?_
  show _=sh0 d l f1
  simp only [T1]
theorem run (d l):runFn X bd (.seq none .d (.seq none .d (.seq (some nm1) .d (.seq (some nm2) (.seq none .d (.block (.loop nm3 (.seq none .d (.seq none .d (.seq (some nm4) .d .d)))))) (.seq none .d (.seq none .d (.seq none .d (.seq (some nm5) .d (.seq (some nm6) (.seq none .d (.block (.loop nm7 .d))) .d))))))))) nmR [4] [] [(.int .u16 d),(.lst .msg l)]=f0 d l:=T0 d l
theorem fin (l B:List Msg) (D mk ls:Int) (hB:Good B D) (hv:validB l=true) (hp:B.Perm l) (h1:mk≤1073741824) (h2:ls≤1073807359):f6 l D mk ls (gotL B) B []=outB true:=by
  obtain ⟨d0,d1,hl,hR,lo,hi,pu,so,di,la⟩:=hB
  have hlast:rightB (⟨[108,97,115,116],0,2147483648,2147483648,0⟩:Msg)=true:=by rfl
  obtain ⟨hE,hP⟩:=put_fine (D:=D) (mk:=mk) (ls:=ls) (pre:=B) (wt:=B) (m:=⟨[108,97,115,116],0,2147483648,2147483648,0⟩) hlast (by dsimp only; omega) la (by omega) (by dsimp only; omega) d0 d1
  dsimp only at hP
  rw [iltT (show mk < 2147483648 - D by omega)] at hP
  simp only [cond_true] at hP
  have hk:keysB (B++[⟨[108,97,115,116],0,2147483648,2147483648,0⟩])=true:=dis_keys (List.pairwise_append.2 ⟨di,List.pairwise_singleton _ _,fun a ha b hb e=>by
    rw [List.mem_singleton] at hb
    rw [hb] at e
    have:hasB B [108,97,115,116] 0=true:=List.any_eq_true.2 ⟨a,ha,by simp [e.1,e.2]⟩
    rw [la] at this
    cases this⟩)
  have hf:List.filter (fun m=>ilt (Msg.at_ m) (2147483648 - D)) (B++[⟨[108,97,115,116],0,2147483648,2147483648,0⟩])=B:=by
    rw [List.filter_append,List.filter_eq_self.2 (fun m hm=>iltT (by have:=hi m hm; omega))]
    rw [List.filter_cons_of_neg (by rw [iltF (by dsimp only; omega)]; simp)]
    simp
  have hs:sortM B=sortM l:=sortM_eq (dis_keys di) ((sortM_perm l).trans hp.symm) (sortM_sorted l)
  have hlen:(sortM l).length≤30:=by rw [(sortM_perm l).length_eq,← hp.length_eq]; exact hl
  show sh6 l D mk ls (gotL B) B []=_
  unfold sh6
  rw [fsOkT _ _ _ _ _ (by omega),hE,hP,hv]
  dsimp only
  rw [hk,hf,hs,nleT (show (B++[(⟨[108,97,115,116],0,2147483648,2147483648,0⟩:Msg)]).length≤90000 by simp; omega),nleT (show (sortM l).length≤90000 by omega),nleT (show ([]:List Msg).length≤90000 by simp)]
  simp only [cond_true]
  rw [eqL_self]
  rfl
theorem loop7 (l B : List Msg) (D : Int) (hB : Good B D) (hv : validB l = true) (hp : B.Perm l) : ∀ (n i : Nat) (mk ls : Int), B.length < n + i → i ≤ B.length → (∀ m ∈ B.drop i, ls ≤ m.ar) → (∀ m ∈ B.drop i, mk ≤ m.at_) → mk ≤ 1073741824 → ls ≤ 1073807359 →
    f7 n l B (Int.ofNat B.length) (i:Int) D mk ls (gotL (B.take i)) (B.take i) []=outB true:=by
  intro n
  induction n with
  | zero=>intro i mk ls h1 h2; omega
  | succ n ih =>
    intro i mk ls h1 h2 h3 h4 h5 h6
    show sh7 l B (Int.ofNat B.length) (i:Int) D mk ls (gotL (B.take i)) (B.take i) [] f6 (f7 n)=_
    unfold sh7
    by_cases hi:i < B.length
    · have hm : B[i] ∈ B := List.getElem_mem hi
      have hd:B[i]∈B.drop i:=by rw [drop_lt hi]; exact List.mem_cons_self
      have hlen:=hB.len
      obtain ⟨hE,hP⟩:=put_fine (D:=D) (mk:=mk) (ls:=ls) (pre:=B.take i) (wt:=B.take i) (hB.right _ hm) (h3 _ hd) (has_take hB.dis i hi) (by simp; omega) (h4 _ hd) hB.d0 hB.d1
      rw [iltT (show (i:Int) < Int.ofNat B.length by simp; omega),inbT hi,toNat_nat,nltT hi,getD_lt hi,fsOkT _ _ _ _ _ (by simp; omega),hE,hP,wrapS i (by omega)]
      simp only [chkT,condT,bne_self_eq_false,condF]
      have ht:B.take i++[B[i]]=B.take (i+1):=by rw [List.take_add_one,List.getElem?_eq_getElem hi]; rfl
      rw [ht]
      have hpu:=hB.punct _ hm
      have hhi:=hB.hi _ hm
      have hso:∀ m∈B.drop (i+1),B[i].ar≤m.ar:=fun m hm=>by
        have:=hB.sorted
        rw [← List.take_append_drop i B,drop_lt hi] at this
        exact (List.pairwise_cons.1 (List.pairwise_append.1 this).2.1).1 m hm
      have hmk:(bif ilt mk (B[i].ar - D) then B[i].ar - D else mk)=mk∨(bif ilt mk (B[i].ar - D) then B[i].ar - D else mk)=B[i].ar - D:=by
        cases ilt mk (B[i].ar - D)
        · exact .inl rfl
        · exact .inr rfl
      refine ih (i+1) _ _ (by omega) hi hso (fun m hm => ?_) ?_ (by have:=hB.d1; omega)
      · have a1 := hso m hm
        have a2:=hB.punct m (drop_mem hm)
        have a3:=h4 m (by rw [drop_lt hi]; exact List.mem_cons_of_mem _ hm)
        rcases hmk with e | e<;>rw [e]<;>omega
      · rcases hmk with e | e<;>rw [e]<;>omega
    · have : i = B.length := by omega
      subst this
      rw [iltF (by simp)]
      simp only [condF]
      rw [List.take_length]
      exact fin l B D mk ls hB hv hp h5 h6
theorem mid (l : List Msg) (D : Int) (d0 : 0 ≤ D) (d1 : D ≤ 65535) (hl : l.length ≤ 30) (hv : validB l = true) (la : hasB l [108, 97, 115, 116] 0 = false) (lo : ∀ m ∈ l, -1073741824 ≤ m.at_) (hi : ∀ m ∈ l, m.at_ ≤ 1073741824) (pu : ∀ m ∈ l, m.ar ≤ m.at_ + D) : f2 D l = outB true := by
  have hv2:=hv
  unfold validB at hv2
  rw [Bool.and_eq_true] at hv2
  obtain ⟨v1,v2,v3⟩:=(validL_iff l []).1 hv2.2
  have tb:∀ m∈l,-68719476736≤m.ar∧m.ar≤68719476736:=fun m hm=>by
    have:=time_of (v1 m hm)
    simp only [timeB,Bool.and_eq_true] at this
    exact ⟨ileI this.1,ileI this.2⟩
  obtain ⟨p,q⟩:=sortSt_holds l (fun m hm=>by have:=tb m hm; unfold arB; omega)
  have hlen:(sortSt l).length=l.length:=p.length_eq
  have hG:Good (sortSt l) D:=⟨d0,d1,by omega,fun m hm=>v1 m (p.mem_iff.1 hm),fun m hm=>lo m (p.mem_iff.1 hm),fun m hm=>hi m (p.mem_iff.1 hm),fun m hm=>pu m (p.mem_iff.1 hm),q,
    p.symm.pairwise v3 (fun h e=>h ⟨e.1.symm,e.2.symm⟩),by
      cases h:hasB (sortSt l) [108,97,115,116] 0 with
      | false=>rfl
      | true =>
        obtain ⟨a,ha,he⟩:=List.any_eq_true.1 h
        have:hasB l [108,97,115,116] 0=true:=List.any_eq_true.2 ⟨a,p.mem_iff.1 ha,he⟩
        rw [la] at this
        cases this⟩
  show sh2 D l f5=_
  unfold sh2
  rw [wrapI (by omega) (by omega),nleT (show l.length≤100000 by omega),nleT hl,ileT d0,ileT (by omega)]
  show f7 100000 l (sortSt l) (Int.ofNat (sortSt l).length) ((0:Nat):Int) D (-137438953472) (-68719476736) (gotL ((sortSt l).take 0)) ((sortSt l).take 0) []=_
  refine loop7 l (sortSt l) D hG hv p 100000 0 _ _ (by omega) (by omega) (fun m hm => ?_) (fun m hm => ?_) (by decide) (by decide)
  · exact (tb m (p.mem_iff.1 (drop_mem hm))).1
  · have:=lo m (p.mem_iff.1 (drop_mem hm)); omega
theorem loop3 (l : List Msg) (D : Int) (d0 : 0 ≤ D) (d1 : D ≤ 65535) (hl : l.length ≤ 30) (hv : validB l = true) (la : hasB l [108, 97, 115, 116] 0 = false) : ∀ (n i : Nat), l.length < n + i → i ≤ l.length → (∀ m ∈ l.take i, -1073741824 ≤ m.at_ ∧ m.at_ ≤ 1073741824 ∧ m.ar ≤ m.at_ + D) → f3 n D l l (Int.ofNat l.length) (i : Int) = outB true := by
  intro n
  induction n with
  | zero=>intro i h1 h2; omega
  | succ n ih =>
    intro i h1 h2 h3
    show sh3 D l l (Int.ofNat l.length) (i:Int) f2 (f4 (f3 n))=_
    unfold sh3
    by_cases hi:i < l.length
    · rw [iltT (show (i : Int) < Int.ofNat l.length by simp; omega), inbT hi, toNat_nat, getD_lt hi, wrapI (show -9223372036854775808 ≤ D by omega) (by omega)]
      simp only [condT,chkT]
      cases c1:ilt l[i].at_ (-1073741824:Int) with
      | true=>rfl
      | false =>
        cases c2:ilt (1073741824:Int) l[i].at_ with
        | true=>rfl
        | false =>
          have b1:=iltN c1
          have b2:=iltN c2
          rw [wrapI (by omega) (by omega)]
          cases c3:ilt (l[i].at_+D) l[i].ar with
          | true=>rfl
          | false =>
            have b3:=iltN c3
            show f3 n D l l (Int.ofNat l.length) (IntKind.wrap .i64 ((i:Int)+(1:Int)))=_
            rw [wrapS i (by omega)]
            refine ih (i+1) (by omega) hi fun m hm => ?_
            have ht:l.take (i+1)=l.take i++[l[i]]:=by rw [List.take_add_one,List.getElem?_eq_getElem hi]; rfl
            rw [ht] at hm
            rcases List.mem_append.1 hm with hm | hm
            · exact h3 m hm
            · rw [List.mem_singleton] at hm
              rw [hm]
              omega
    · have : i = l.length := by omega
      subst this
      rw [List.take_length] at h3
      rw [iltF (by simp)]
      exact mid l D d0 d1 hl hv la (fun m hm=>(h3 m hm).1) (fun m hm=>(h3 m hm).2.1) (fun m hm=>(h3 m hm).2.2)
theorem f0_eq (d:Int) (l:List Msg) (h:Lit.wf (.int .u16 d)=true):f0 d l=outB true:=by
  simp only [Lit.wf,Bool.and_eq_true,decide_eq_true_eq] at h
  have hd:0≤d∧d≤65535:=h
  show sh0 d l f1=_
  unfold sh0
  cases c1:ilt (30:Int) (Int.ofNat l.length) with
  | true=>rfl
  | false =>
    have hl:=iltN c1
    have hl:l.length≤30:=by simp at hl; omega
    cases hv:validB l with
    | false=>rfl
    | true =>
      rw [nleT (show l.length≤90000 by omega)]
      cases la:hasB l [108,97,115,116] 0 with
      | true=>rfl
      | false=>exact loop3 l d hd.1 hd.2 hl hv la 100000 0 (by omega) (by omega) (fun m hm=>by simp at hm)
theorem ok:CtxOk Try.prog X:=ctxOk tab (spC awake.spOk (spC equalM.spOk (spC cloneM.spOk (spC rvalid.spOk (spC rhas.spOk (spC sortedM.spOk spN)))))) dpN
theorem okM:MOk Try.prog X:=mspecOf_ok _ (mpC (mcSp_ok ok newF.spOk) (mpC (mcSp_ok ok (orN_ok fputN.spOk fput.spOk)) (mpC (mcSp_ok ok (orN_ok flateN.spOk flate.spOk)) (mpC (mcSp_ok ok (orN_ok freadyN.spOk fready.spOk)) (mpC (sortStOk rfl ok) mpN)))))
theorem spec (d:Int) (l:List Msg) (h:(Lit.wf (.int .u16 d))=true):CallSpec Try.prog E 6 [(.int .u16 d),(.lst .msg l)] (.bool (true)) [] :=
  runFn_sound ok okM Try.call6 Try.func6 (by kernel_rfl) (by kernel_rfl) (by kernel_rfl) (by show 2≤103; decide) (by decide) (by rfl) ((run d l).trans (f0_eq d l h))
noncomputable def sp:Sp U El:=fun args k=>match args with
  | [.int .u16 d,.lst .msg l]=>chk (Lit.wf (.int .u16 d)) (k (.bool (true)) [])
  | _=>none
theorem spOk:SpOk Try.prog E 6 sp where
  det:=fun vs=>by
    unfold sp
    split
    · exact det_c _ _ _
    · exact ⟨none,fun _=>rfl⟩
  ok:=fun vs k r h=>by
    unfold sp at h
    split at h
    · obtain ⟨h1, h2⟩ := chk_some h
      exact ⟨_,_,spec _ _ h1,h2⟩
    · cases h
end lawPunct
end Go.Proofs.Ytkeplmpcijigaaa
