/- A surface tP anew: the law's own shuffling. -/
import Derived.Test.YtnofdcckddfooaaGreatDoorRG
import Derived.Test.YtnofdcckddfooaaGreatDoorRI
namespace Go.Proofs.YtnofdcckddfooaaGreatDoor
set_option linter.unusedSectionVars false
set_option linter.unusedSimpArgs false
set_option linter.unusedVariables false
set_option maxRecDepth 100000
structure Nm (m b:Mesh):Prop where
  ins:∀ f∈b.mf,aF b f=true
  spots:b.ms.Perm m.ms
  faces:(b.mf.map (bH b)).Perm (m.mf.map (bH m))
def Ne3 (f:Face):Prop:=f.fa≠f.fb∧f.fb≠f.fc∧f.fc≠f.fa
theorem mw (i n:Nat):Int.tmod (i:Int) (Int.ofNat n)=((i%n:Nat):Int):=rfl
theorem uV (x:UInt8):IntKind.wrap .i64 (Int.ofNat (UInt8.toNat x))=((UInt8.toNat x:Nat):Int):=by
  have:=UInt8.toNat_lt x
  show IntKind.wrap .i64 ((UInt8.toNat x:Nat):Int)=_
  rw [gN (by omega) (by omega)]
theorem qV {n:Nat} (h:¬ 0 < n):ilt 0 (Int.ofNat n)=false:=bQ (by simp; omega)
theorem ne0 {n:Nat} (h:0 < n):((Int.ofNat n) != (0:Int))=true:=bne_iff_ne.2 (by simp; omega)
noncomputable def nmF (a:List Int) (f:Face):Face:=⟨List.getD a (Int.toNat f.fa) aS,List.getD a (Int.toNat f.fb) aS,List.getD a (Int.toNat f.fc) aS,f.fk⟩
theorem lB {a:List Int} {N:Nat} (ha:a.Perm (ixs N)) {i:Nat} (hi:i < N):∃ k:Nat,k < N∧List.getD a i aS=(k:Int):=by
  have hl:a.length=N:=by rw [ha.length_eq,cR]
  have hi':i < a.length:=by omega
  rw [aE hi']
  exact ixs_mem.1 (ha.mem_iff.1 (List.getElem_mem hi'))
theorem nl {a:List Int} {N:Nat} (ha:a.Perm (ixs N)) {i j:Nat} (hi:i < N) (hj:j < N) (e:List.getD a i aS=List.getD a j aS):i=j:=by
  have hl:a.length=N:=by rw [ha.length_eq,cR]
  have hi':i < a.length:=by omega
  have hj':j < a.length:=by omega
  rw [aE hi',aE hj'] at e
  have hn:a.Nodup:=ha.nodup_iff.2 (ju _)
  rcases Nat.lt_trichotomy i j with h | h | h
  · exact absurd e (List.pairwise_iff_getElem.1 hn i j hi' hj' h)
  · exact h
  · exact absurd e.symm (List.pairwise_iff_getElem.1 hn j i hj' hi' h)
theorem vK {b:Mesh} {f:Face} (h:aF b f=true):aF b (hY f)=true:=by
  simp only [aF,hY,Bool.and_eq_true] at h ⊢
  exact ⟨h.2.1,h.2.2,h.1⟩
namespace shuffled
noncomputable def bd:Code:=(Tryz.f29.body).getD .skip
noncomputable def X:Ctx U El:=⟨E,tds,zeros,eqs,aN [],100000,192,aG [],gy [(22,(rq rcopy.sp))]⟩
noncomputable def nmR:Norm U:=⟨[],[192],[500001200,500001201],[],[],[],[]⟩
noncomputable def RR:af U El:=fun st=>bD X 192 [(6,25)] 192 st fun st=>aX nmR st (iw [192])
noncomputable def nm1:Norm U:=⟨[(7,.int)],[1,2,3,6,7],[7,3,6,500000300,500000301],[],[(3,0,.spot,500000300),(3,1,.face,500000301)],[],[]⟩
noncomputable def nm2:Norm U:=⟨[(7,.int)],[1,2,3,6,7,28,29],[7,3,6,500000300,500000301],[],[(3,0,.spot,500000300),(3,1,.face,500000301)],[],[]⟩
noncomputable def nm3:Norm U:=⟨[(7,.int)],[2,3,6,7],[7,3,6,500000300,500000301],[],[(3,0,.spot,500000300),(3,1,.face,500000301)],[],[]⟩
noncomputable def nm4:Norm U:=⟨[(7,.int)],[2,3,6,7,37,38,39],[7,3,6,500000300,500000301],[],[(3,0,.spot,500000300),(3,1,.face,500000301)],[],[]⟩
noncomputable def nm5:Norm U:=⟨[(7,.int)],[2,3,6,7,37,38,39],[7,3,6,500000300,500000301],[],[(3,0,.spot,500000300),(3,1,.face,500000301)],[],[]⟩
noncomputable def nm6:Norm U:=⟨[(7,.int)],[2,6,7,12],[7,6,12,500001200,500001201],[],[(12,0,.spot,500001200),(12,1,.face,500001201)],[],[]⟩
noncomputable def nm7:Norm U:=⟨[(7,.int)],[2,3,6,7,12,80,81,82],[7,3,6,12,500000300,500000301,500001200],[],[(3,0,.spot,500000300),(3,1,.face,500000301),(12,0,.spot,500001200)],[],[]⟩
noncomputable def nm8:Norm U:=⟨[],[2,6,12],[6,12,500001200,500001201],[],[(12,0,.spot,500001200),(12,1,.face,500001201)],[],[]⟩
noncomputable def nm9:Norm U:=⟨[(7,.int)],[2,6,7,12,98,99,100],[7,6,12,500001200,500001201],[],[(12,0,.spot,500001200),(12,1,.face,500001201)],[],[]⟩
noncomputable def nm10:Norm U:=⟨[],[6,12],[6,12,500001200,500001201],[],[(12,0,.spot,500001200),(12,1,.face,500001201)],[],[]⟩
noncomputable def nm11:Norm U:=⟨[],[6,12,128,129,130],[6,12,500001200,500001201],[],[(12,0,.spot,500001200),(12,1,.face,500001201)],[],[]⟩
noncomputable def nm12:Norm U:=⟨[],[6,12,128,129,130],[6,12,500001200,500001201],[],[(12,0,.spot,500001200),(12,1,.face,500001201)],[],[]⟩
abbrev Y1:=(List UInt8)→(List UInt8)→(List Int)→(List Spot)→(List Face)→R
abbrev Y2:=(List UInt8)→(List UInt8)→(List Int)→Int→Int→(List Spot)→(List Face)→R
abbrev Y3:=(List UInt8)→(List Int)→(List Spot)→(List Face)→R
abbrev Y4:=(List UInt8)→(List Int)→(List UInt8)→Int→Int→(List Spot)→(List Face)→R
abbrev Y5:=(List UInt8)→(List Int)→(List UInt8)→Int→Int→(List Spot)→(List Face)→R
abbrev Y6:=(List UInt8)→(List Int)→(List Spot)→(List Face)→R
abbrev Y7:=(List UInt8)→(List Int)→Int→Int→(List Spot)→(List Face)→(List Spot)→R
abbrev Y8:=(List UInt8)→(List Spot)→(List Face)→R
abbrev Y9:=(List UInt8)→(List Int)→Int→Int→(List Spot)→(List Face)→R
abbrev Y10:=(List Spot)→(List Face)→R
abbrev Y11:=(List UInt8)→Int→Int→(List Spot)→(List Face)→R
abbrev Y12:=(List UInt8)→Int→Int→(List Spot)→(List Face)→R
noncomputable def fr0 (m:Mesh) (ps:List UInt8) (pf:List UInt8):St U El:=⟨[(0,(.agg [(.lst .spot m.ms),(.lst .face m.mf)])),(1,(.lst .u8 ps)),(2,(.lst .u8 pf))],[]⟩
noncomputable def fr1 (iA:List UInt8) (bA:List UInt8) (gA:List Int) (eA:List Spot) (fA:List Face):St U El:=⟨[(1,(.lst .u8 iA)),(2,(.lst .u8 bA)),(3,(.ptr 3 0)),(6,(.ptr 6 0)),(7,(.ful 7))],[(7,(.rows .int gA)),(3,(.box 0 [(.ful 500000300),(.ful 500000301)])),(6,(.box 0 [.nils,.nils])),(500000300,(.rows .spot eA)),(500000301,(.rows .face fA))]⟩
noncomputable def fr2 (iA:List UInt8) (bA:List UInt8) (gA:List Int) (rA:Int) (qA:Int) (eA:List Spot) (fA:List Face):St U El:=⟨[(1,(.lst .u8 iA)),(2,(.lst .u8 bA)),(3,(.ptr 3 0)),(6,(.ptr 6 0)),(7,(.ful 7)),(28,(.int .i64 rA)),(29,(.int .i64 qA))],[(7,(.rows .int gA)),(3,(.box 0 [(.ful 500000300),(.ful 500000301)])),(6,(.box 0 [.nils,.nils])),(500000300,(.rows .spot eA)),(500000301,(.rows .face fA))]⟩
noncomputable def fr3 (bA:List UInt8) (gA:List Int) (eA:List Spot) (fA:List Face):St U El:=⟨[(2,(.lst .u8 bA)),(3,(.ptr 3 0)),(6,(.ptr 6 0)),(7,(.ful 7))],[(7,(.rows .int gA)),(3,(.box 0 [(.ful 500000300),(.ful 500000301)])),(6,(.box 0 [.nils,.nils])),(500000300,(.rows .spot eA)),(500000301,(.rows .face fA))]⟩
noncomputable def fr4 (bA:List UInt8) (gA:List Int) (nA:List UInt8) (oA:Int) (mA:Int) (eA:List Spot) (fA:List Face):St U El:=⟨[(2,(.lst .u8 bA)),(3,(.ptr 3 0)),(6,(.ptr 6 0)),(7,(.ful 7)),(37,(.lst .u8 nA)),(38,(.int .i64 oA)),(39,(.int .i64 mA))],[(7,(.rows .int gA)),(3,(.box 0 [(.ful 500000300),(.ful 500000301)])),(6,(.box 0 [.nils,.nils])),(500000300,(.rows .spot eA)),(500000301,(.rows .face fA))]⟩
noncomputable def fr5 (bA:List UInt8) (gA:List Int) (nA:List UInt8) (oA:Int) (mA:Int) (eA:List Spot) (fA:List Face):St U El:=⟨[(2,(.lst .u8 bA)),(3,(.ptr 3 0)),(6,(.ptr 6 0)),(7,(.ful 7)),(37,(.lst .u8 nA)),(38,(.int .i64 oA)),(39,(.int .i64 mA))],[(7,(.rows .int gA)),(3,(.box 0 [(.ful 500000300),(.ful 500000301)])),(6,(.box 0 [.nils,.nils])),(500000300,(.rows .spot eA)),(500000301,(.rows .face fA))]⟩
noncomputable def fr6 (bA:List UInt8) (gA:List Int) (cA:List Spot) (aA:List Face):St U El:=⟨[(2,(.lst .u8 bA)),(6,(.ptr 6 0)),(7,(.ful 7)),(12,(.ptr 12 0))],[(7,(.rows .int gA)),(6,(.box 0 [.nils,.nils])),(12,(.box 0 [(.ful 500001200),(.ful 500001201)])),(500001200,(.rows .spot cA)),(500001201,(.rows .face aA))]⟩
noncomputable def fr7 (bA:List UInt8) (gA:List Int) (sA:Int) (pA:Int) (eA:List Spot) (fA:List Face) (cA:List Spot):St U El:=⟨[(2,(.lst .u8 bA)),(3,(.ptr 3 0)),(6,(.ptr 6 0)),(7,(.ful 7)),(12,(.ptr 12 0)),(80,(.ful 7)),(81,(.int .i64 sA)),(82,(.int .i64 pA))],[(7,(.rows .int gA)),(3,(.box 0 [(.ful 500000300),(.ful 500000301)])),(6,(.box 0 [.nils,.nils])),(12,(.box 0 [(.ful 500001200),(.ful 500000301)])),(500000300,(.rows .spot eA)),(500000301,(.rows .face fA)),(500001200,(.rows .spot cA))]⟩
noncomputable def fr8 (bA:List UInt8) (cA:List Spot) (aA:List Face):St U El:=⟨[(2,(.lst .u8 bA)),(6,(.ptr 6 0)),(12,(.ptr 12 0))],[(6,(.box 0 [.nils,.nils])),(12,(.box 0 [(.ful 500001200),(.ful 500001201)])),(500001200,(.rows .spot cA)),(500001201,(.rows .face aA))]⟩
noncomputable def fr9 (bA:List UInt8) (gA:List Int) (tA:Int) (lA:Int) (cA:List Spot) (aA:List Face):St U El:=⟨[(2,(.lst .u8 bA)),(6,(.ptr 6 0)),(7,(.ful 7)),(12,(.ptr 12 0)),(98,(.ful 500001201)),(99,(.int .i64 tA)),(100,(.int .i64 lA))],[(7,(.rows .int gA)),(6,(.box 0 [.nils,.nils])),(12,(.box 0 [(.ful 500001200),(.ful 500001201)])),(500001200,(.rows .spot cA)),(500001201,(.rows .face aA))]⟩
noncomputable def fr10 (cA:List Spot) (aA:List Face):St U El:=⟨[(6,(.ptr 6 0)),(12,(.ptr 12 0))],[(6,(.box 0 [.nils,.nils])),(12,(.box 0 [(.ful 500001200),(.ful 500001201)])),(500001200,(.rows .spot cA)),(500001201,(.rows .face aA))]⟩
noncomputable def fr11 (jA:List UInt8) (kA:Int) (dA:Int) (cA:List Spot) (aA:List Face):St U El:=⟨[(6,(.ptr 6 0)),(12,(.ptr 12 0)),(128,(.lst .u8 jA)),(129,(.int .i64 kA)),(130,(.int .i64 dA))],[(6,(.box 0 [.nils,.nils])),(12,(.box 0 [(.ful 500001200),(.ful 500001201)])),(500001200,(.rows .spot cA)),(500001201,(.rows .face aA))]⟩
noncomputable def fr12 (jA:List UInt8) (kA:Int) (dA:Int) (cA:List Spot) (aA:List Face):St U El:=⟨[(6,(.ptr 6 0)),(12,(.ptr 12 0)),(128,(.lst .u8 jA)),(129,(.int .i64 kA)),(130,(.int .i64 dA))],[(6,(.box 0 [.nils,.nils])),(12,(.box 0 [(.ful 500001200),(.ful 500001201)])),(500001200,(.rows .spot cA)),(500001201,(.rows .face aA))]⟩
noncomputable def sh0 (m:Mesh) (ps:List UInt8) (pf:List UInt8) (k2:Y2):R :=
  chk (ap m) (chk (ile 0 (Int.ofNat (List.length (Mesh.ms m)))&&ile (Int.ofNat (List.length (Mesh.ms m))) (Int.ofNat (List.length (Mesh.ms m)))&&ile ((Int.ofNat (List.length (Mesh.ms m))) * 8) 140737488355328) (k2 ps pf (List.replicate (Int.toNat (Int.ofNat (List.length (Mesh.ms m)))) aS) (Int.ofNat (List.length (List.replicate (Int.toNat (Int.ofNat (List.length (Mesh.ms m)))) aS))) (0:Int) (Mesh.ms m) (Mesh.mf m)))
noncomputable def sh1 (iA:List UInt8) (bA:List UInt8) (gA:List Int) (eA:List Spot) (fA:List Face) (k4:Y4):R :=
  k4 bA gA iA (Int.ofNat (List.length iA)) (0:Int) eA fA
noncomputable def sh2 (iA:List UInt8) (bA:List UInt8) (gA:List Int) (rA:Int) (qA:Int) (eA:List Spot) (fA:List Face) (k1:Y1) (k2:Y2):R :=
  aa (ilt qA rA) (chk (inb qA (List.length gA)) (chk (nlt (Int.toNat qA) (List.length gA)&&true) (k2 iA bA (List.set gA (Int.toNat qA) qA) rA (IntKind.wrap .i64 (qA+(1:Int))) eA fA))) (k1 iA bA gA eA fA)
noncomputable def sh3 (bA:List UInt8) (gA:List Int) (eA:List Spot) (fA:List Face) (k7:Y7):R :=
  chk (ile 0 (Int.ofNat (List.length eA))&&ile (Int.ofNat (List.length eA)) (Int.ofNat (List.length eA))&&ile ((Int.ofNat (List.length eA)) * 24) 140737488355328) (k7 bA gA (Int.ofNat (List.length gA)) (0:Int) eA fA (List.replicate (Int.toNat (Int.ofNat (List.length eA))) d_spot))
noncomputable def sh4 (bA:List UInt8) (gA:List Int) (nA:List UInt8) (oA:Int) (mA:Int) (eA:List Spot) (fA:List Face) (k3:Y3) (k5:Y5):R :=
  aa (ilt mA oA) (chk (inb mA (List.length nA)) (aa (ilt (0:Int) (Int.ofNat (List.length gA))) (chk ((Int.ofNat (List.length gA)) != 0) (chk ((Int.ofNat (List.length gA)) != 0) (chk ((Int.ofNat (List.length gA)) != 0) (chk (inb (Int.tmod (IntKind.wrap .i64 (Int.ofNat (UInt8.toNat (List.getD nA (Int.toNat mA) eP)))) (Int.ofNat (List.length gA))) (List.length gA)) (chk (nlt (Int.toNat (Int.tmod (IntKind.wrap .i64 (Int.ofNat (UInt8.toNat (List.getD nA (Int.toNat mA) eP)))) (Int.ofNat (List.length gA)))) (List.length gA)) (chk ((Int.ofNat (List.length gA)) != 0) (chk (inb (Int.tmod mA (Int.ofNat (List.length gA))) (List.length gA)) (chk (nlt (Int.toNat (Int.tmod mA (Int.ofNat (List.length gA)))) (List.length gA)) (chk (inb (Int.tmod mA (Int.ofNat (List.length gA))) (List.length gA)) (chk (nlt (Int.toNat (Int.tmod mA (Int.ofNat (List.length gA)))) (List.length gA)&&true) (chk (inb (Int.tmod (IntKind.wrap .i64 (Int.ofNat (UInt8.toNat (List.getD nA (Int.toNat mA) eP)))) (Int.ofNat (List.length gA))) (List.length (List.set gA (Int.toNat (Int.tmod mA (Int.ofNat (List.length gA)))) (List.getD gA (Int.toNat (Int.tmod (IntKind.wrap .i64 (Int.ofNat (UInt8.toNat (List.getD nA (Int.toNat mA) eP)))) (Int.ofNat (List.length gA)))) aS)))) (chk (nlt (Int.toNat (Int.tmod (IntKind.wrap .i64 (Int.ofNat (UInt8.toNat (List.getD nA (Int.toNat mA) eP)))) (Int.ofNat (List.length gA)))) (List.length (List.set gA (Int.toNat (Int.tmod mA (Int.ofNat (List.length gA)))) (List.getD gA (Int.toNat (Int.tmod (IntKind.wrap .i64 (Int.ofNat (UInt8.toNat (List.getD nA (Int.toNat mA) eP)))) (Int.ofNat (List.length gA)))) aS)))&&true) (k5 bA (List.set (List.set gA (Int.toNat (Int.tmod mA (Int.ofNat (List.length gA)))) (List.getD gA (Int.toNat (Int.tmod (IntKind.wrap .i64 (Int.ofNat (UInt8.toNat (List.getD nA (Int.toNat mA) eP)))) (Int.ofNat (List.length gA)))) aS)) (Int.toNat (Int.tmod (IntKind.wrap .i64 (Int.ofNat (UInt8.toNat (List.getD nA (Int.toNat mA) eP)))) (Int.ofNat (List.length gA)))) (List.getD gA (Int.toNat (Int.tmod mA (Int.ofNat (List.length gA)))) aS)) nA oA mA eA fA))))))))))))) (k5 bA gA nA oA mA eA fA))) (k3 bA gA eA fA)
noncomputable def sh5 (bA:List UInt8) (gA:List Int) (nA:List UInt8) (oA:Int) (mA:Int) (eA:List Spot) (fA:List Face) (k4:Y4):R :=
  k4 bA gA nA oA (IntKind.wrap .i64 (mA+(1:Int))) eA fA
noncomputable def sh6 (bA:List UInt8) (gA:List Int) (cA:List Spot) (aA:List Face) (k9:Y9):R :=
  k9 bA gA (Int.ofNat (List.length aA)) (0:Int) cA aA
noncomputable def sh7 (bA:List UInt8) (gA:List Int) (sA:Int) (pA:Int) (eA:List Spot) (fA:List Face) (cA:List Spot) (k6:Y6) (k7:Y7):R :=
  aa (ilt pA sA) (chk (inb pA (List.length gA)) (chk (nlt (Int.toNat pA) (List.length gA)) (chk (inb pA (List.length eA)) (chk (nlt (Int.toNat pA) (List.length eA)) (chk (inb (List.getD gA (Int.toNat pA) aS) (List.length cA)) (chk (nlt (Int.toNat (List.getD gA (Int.toNat pA) aS)) (List.length cA)&&true) (k7 bA gA sA (IntKind.wrap .i64 (pA+(1:Int))) eA fA (List.set cA (Int.toNat (List.getD gA (Int.toNat pA) aS)) (List.getD eA (Int.toNat pA) d_spot))))))))) (k6 bA gA cA fA)
noncomputable def sh8 (bA:List UInt8) (cA:List Spot) (aA:List Face) (uA:Y11):R :=
  uA bA (Int.ofNat (List.length bA)) (0:Int) cA aA
noncomputable def sh9 (bA:List UInt8) (gA:List Int) (tA:Int) (lA:Int) (cA:List Spot) (aA:List Face) (k8:Y8) (k9:Y9):R :=
  aa (ilt lA tA) (chk (inb lA (List.length aA)) (chk (nlt (Int.toNat lA) (List.length aA)) (chk (inb ((List.getD aA (Int.toNat lA) ab).fa) (List.length gA)) (chk (nlt (Int.toNat ((List.getD aA (Int.toNat lA) ab).fa)) (List.length gA)) (chk (inb ((List.getD aA (Int.toNat lA) ab).fb) (List.length gA)) (chk (nlt (Int.toNat ((List.getD aA (Int.toNat lA) ab).fb)) (List.length gA)) (chk (inb ((List.getD aA (Int.toNat lA) ab).fc) (List.length gA)) (chk (nlt (Int.toNat ((List.getD aA (Int.toNat lA) ab).fc)) (List.length gA)) (chk (inb lA (List.length aA)) (chk (nlt (Int.toNat lA) (List.length aA)&&true) (k9 bA gA tA (IntKind.wrap .i64 (lA+(1:Int))) cA (List.set aA (Int.toNat lA) (⟨(List.getD gA (Int.toNat ((List.getD aA (Int.toNat lA) ab).fa)) aS),(List.getD gA (Int.toNat ((List.getD aA (Int.toNat lA) ab).fb)) aS),(List.getD gA (Int.toNat ((List.getD aA (Int.toNat lA) ab).fc)) aS),(List.getD aA (Int.toNat lA) ab).fk⟩:Face))))))))))))) (k8 bA cA aA)
noncomputable def sh10 (cA:List Spot) (aA:List Face):R :=
  some ((.agg [(.ful 500001200),(.ful 500001201)]),[(500001200,(.rows .spot cA)),(500001201,(.rows .face aA))])
noncomputable def sh11 (jA:List UInt8) (kA:Int) (dA:Int) (cA:List Spot) (aA:List Face) (k10:Y10) (k12:Y12):R :=
  aa (ilt dA kA) (chk (inb dA (List.length jA)) (aa (ilt (0:Int) (Int.ofNat (List.length aA))) (chk ((Int.ofNat (List.length aA)) != 0) (chk (inb (Int.tmod dA (Int.ofNat (List.length aA))) (List.length aA)) (chk (nlt (Int.toNat (Int.tmod dA (Int.ofNat (List.length aA)))) (List.length aA)) (chk ((Int.ofNat (List.length aA)) != 0) (chk (inb (Int.tmod dA (Int.ofNat (List.length aA))) (List.length aA)) (chk (nlt (Int.toNat (Int.tmod dA (Int.ofNat (List.length aA)))) (List.length aA)&&true) (chk ((Int.ofNat (List.length aA)) != 0) (chk ((Int.ofNat (List.length aA)) != 0) (chk ((Int.ofNat (List.length aA)) != 0) (chk (inb (Int.tmod (IntKind.wrap .i64 (Int.ofNat (UInt8.toNat (List.getD jA (Int.toNat dA) eP)))) (Int.ofNat (List.length aA))) (List.length (List.set aA (Int.toNat (Int.tmod dA (Int.ofNat (List.length aA)))) (⟨(List.getD aA (Int.toNat (Int.tmod dA (Int.ofNat (List.length aA)))) ab).fb,(List.getD aA (Int.toNat (Int.tmod dA (Int.ofNat (List.length aA)))) ab).fc,(List.getD aA (Int.toNat (Int.tmod dA (Int.ofNat (List.length aA)))) ab).fa,(List.getD aA (Int.toNat (Int.tmod dA (Int.ofNat (List.length aA)))) ab).fk⟩:Face)))) (chk (nlt (Int.toNat (Int.tmod (IntKind.wrap .i64 (Int.ofNat (UInt8.toNat (List.getD jA (Int.toNat dA) eP)))) (Int.ofNat (List.length aA)))) (List.length (List.set aA (Int.toNat (Int.tmod dA (Int.ofNat (List.length aA)))) (⟨(List.getD aA (Int.toNat (Int.tmod dA (Int.ofNat (List.length aA)))) ab).fb,(List.getD aA (Int.toNat (Int.tmod dA (Int.ofNat (List.length aA)))) ab).fc,(List.getD aA (Int.toNat (Int.tmod dA (Int.ofNat (List.length aA)))) ab).fa,(List.getD aA (Int.toNat (Int.tmod dA (Int.ofNat (List.length aA)))) ab).fk⟩:Face)))) (chk ((Int.ofNat (List.length aA)) != 0) (chk (inb (Int.tmod dA (Int.ofNat (List.length aA))) (List.length (List.set aA (Int.toNat (Int.tmod dA (Int.ofNat (List.length aA)))) (⟨(List.getD aA (Int.toNat (Int.tmod dA (Int.ofNat (List.length aA)))) ab).fb,(List.getD aA (Int.toNat (Int.tmod dA (Int.ofNat (List.length aA)))) ab).fc,(List.getD aA (Int.toNat (Int.tmod dA (Int.ofNat (List.length aA)))) ab).fa,(List.getD aA (Int.toNat (Int.tmod dA (Int.ofNat (List.length aA)))) ab).fk⟩:Face)))) (chk (nlt (Int.toNat (Int.tmod dA (Int.ofNat (List.length aA)))) (List.length (List.set aA (Int.toNat (Int.tmod dA (Int.ofNat (List.length aA)))) (⟨(List.getD aA (Int.toNat (Int.tmod dA (Int.ofNat (List.length aA)))) ab).fb,(List.getD aA (Int.toNat (Int.tmod dA (Int.ofNat (List.length aA)))) ab).fc,(List.getD aA (Int.toNat (Int.tmod dA (Int.ofNat (List.length aA)))) ab).fa,(List.getD aA (Int.toNat (Int.tmod dA (Int.ofNat (List.length aA)))) ab).fk⟩:Face)))) (chk (inb (Int.tmod dA (Int.ofNat (List.length aA))) (List.length (List.set aA (Int.toNat (Int.tmod dA (Int.ofNat (List.length aA)))) (⟨(List.getD aA (Int.toNat (Int.tmod dA (Int.ofNat (List.length aA)))) ab).fb,(List.getD aA (Int.toNat (Int.tmod dA (Int.ofNat (List.length aA)))) ab).fc,(List.getD aA (Int.toNat (Int.tmod dA (Int.ofNat (List.length aA)))) ab).fa,(List.getD aA (Int.toNat (Int.tmod dA (Int.ofNat (List.length aA)))) ab).fk⟩:Face)))) (chk (nlt (Int.toNat (Int.tmod dA (Int.ofNat (List.length aA)))) (List.length (List.set aA (Int.toNat (Int.tmod dA (Int.ofNat (List.length aA)))) (⟨(List.getD aA (Int.toNat (Int.tmod dA (Int.ofNat (List.length aA)))) ab).fb,(List.getD aA (Int.toNat (Int.tmod dA (Int.ofNat (List.length aA)))) ab).fc,(List.getD aA (Int.toNat (Int.tmod dA (Int.ofNat (List.length aA)))) ab).fa,(List.getD aA (Int.toNat (Int.tmod dA (Int.ofNat (List.length aA)))) ab).fk⟩:Face)))&&true) (chk (inb (Int.tmod (IntKind.wrap .i64 (Int.ofNat (UInt8.toNat (List.getD jA (Int.toNat dA) eP)))) (Int.ofNat (List.length aA))) (List.length (List.set (List.set aA (Int.toNat (Int.tmod dA (Int.ofNat (List.length aA)))) (⟨(List.getD aA (Int.toNat (Int.tmod dA (Int.ofNat (List.length aA)))) ab).fb,(List.getD aA (Int.toNat (Int.tmod dA (Int.ofNat (List.length aA)))) ab).fc,(List.getD aA (Int.toNat (Int.tmod dA (Int.ofNat (List.length aA)))) ab).fa,(List.getD aA (Int.toNat (Int.tmod dA (Int.ofNat (List.length aA)))) ab).fk⟩:Face)) (Int.toNat (Int.tmod dA (Int.ofNat (List.length aA)))) (List.getD (List.set aA (Int.toNat (Int.tmod dA (Int.ofNat (List.length aA)))) (⟨(List.getD aA (Int.toNat (Int.tmod dA (Int.ofNat (List.length aA)))) ab).fb,(List.getD aA (Int.toNat (Int.tmod dA (Int.ofNat (List.length aA)))) ab).fc,(List.getD aA (Int.toNat (Int.tmod dA (Int.ofNat (List.length aA)))) ab).fa,(List.getD aA (Int.toNat (Int.tmod dA (Int.ofNat (List.length aA)))) ab).fk⟩:Face)) (Int.toNat (Int.tmod (IntKind.wrap .i64 (Int.ofNat (UInt8.toNat (List.getD jA (Int.toNat dA) eP)))) (Int.ofNat (List.length aA)))) ab)))) (chk (nlt (Int.toNat (Int.tmod (IntKind.wrap .i64 (Int.ofNat (UInt8.toNat (List.getD jA (Int.toNat dA) eP)))) (Int.ofNat (List.length aA)))) (List.length (List.set (List.set aA (Int.toNat (Int.tmod dA (Int.ofNat (List.length aA)))) (⟨(List.getD aA (Int.toNat (Int.tmod dA (Int.ofNat (List.length aA)))) ab).fb,(List.getD aA (Int.toNat (Int.tmod dA (Int.ofNat (List.length aA)))) ab).fc,(List.getD aA (Int.toNat (Int.tmod dA (Int.ofNat (List.length aA)))) ab).fa,(List.getD aA (Int.toNat (Int.tmod dA (Int.ofNat (List.length aA)))) ab).fk⟩:Face)) (Int.toNat (Int.tmod dA (Int.ofNat (List.length aA)))) (List.getD (List.set aA (Int.toNat (Int.tmod dA (Int.ofNat (List.length aA)))) (⟨(List.getD aA (Int.toNat (Int.tmod dA (Int.ofNat (List.length aA)))) ab).fb,(List.getD aA (Int.toNat (Int.tmod dA (Int.ofNat (List.length aA)))) ab).fc,(List.getD aA (Int.toNat (Int.tmod dA (Int.ofNat (List.length aA)))) ab).fa,(List.getD aA (Int.toNat (Int.tmod dA (Int.ofNat (List.length aA)))) ab).fk⟩:Face)) (Int.toNat (Int.tmod (IntKind.wrap .i64 (Int.ofNat (UInt8.toNat (List.getD jA (Int.toNat dA) eP)))) (Int.ofNat (List.length aA)))) ab)))&&true) (k12 jA kA dA cA (List.set (List.set (List.set aA (Int.toNat (Int.tmod dA (Int.ofNat (List.length aA)))) (⟨(List.getD aA (Int.toNat (Int.tmod dA (Int.ofNat (List.length aA)))) ab).fb,(List.getD aA (Int.toNat (Int.tmod dA (Int.ofNat (List.length aA)))) ab).fc,(List.getD aA (Int.toNat (Int.tmod dA (Int.ofNat (List.length aA)))) ab).fa,(List.getD aA (Int.toNat (Int.tmod dA (Int.ofNat (List.length aA)))) ab).fk⟩:Face)) (Int.toNat (Int.tmod dA (Int.ofNat (List.length aA)))) (List.getD (List.set aA (Int.toNat (Int.tmod dA (Int.ofNat (List.length aA)))) (⟨(List.getD aA (Int.toNat (Int.tmod dA (Int.ofNat (List.length aA)))) ab).fb,(List.getD aA (Int.toNat (Int.tmod dA (Int.ofNat (List.length aA)))) ab).fc,(List.getD aA (Int.toNat (Int.tmod dA (Int.ofNat (List.length aA)))) ab).fa,(List.getD aA (Int.toNat (Int.tmod dA (Int.ofNat (List.length aA)))) ab).fk⟩:Face)) (Int.toNat (Int.tmod (IntKind.wrap .i64 (Int.ofNat (UInt8.toNat (List.getD jA (Int.toNat dA) eP)))) (Int.ofNat (List.length aA)))) ab)) (Int.toNat (Int.tmod (IntKind.wrap .i64 (Int.ofNat (UInt8.toNat (List.getD jA (Int.toNat dA) eP)))) (Int.ofNat (List.length aA)))) (List.getD (List.set aA (Int.toNat (Int.tmod dA (Int.ofNat (List.length aA)))) (⟨(List.getD aA (Int.toNat (Int.tmod dA (Int.ofNat (List.length aA)))) ab).fb,(List.getD aA (Int.toNat (Int.tmod dA (Int.ofNat (List.length aA)))) ab).fc,(List.getD aA (Int.toNat (Int.tmod dA (Int.ofNat (List.length aA)))) ab).fa,(List.getD aA (Int.toNat (Int.tmod dA (Int.ofNat (List.length aA)))) ab).fk⟩:Face)) (Int.toNat (Int.tmod dA (Int.ofNat (List.length aA)))) ab))))))))))))))))))))) (k12 jA kA dA cA aA))) (k10 cA aA)
noncomputable def sh12 (jA:List UInt8) (kA:Int) (dA:Int) (cA:List Spot) (aA:List Face) (uA:Y11):R :=
  uA jA kA (IntKind.wrap .i64 (dA+(1:Int))) cA aA
noncomputable def it2 (Kb1:af U El) (n:Nat):af U El:=ca nm2 (fun st' K'=>aj X (cdp [1,1,1,0,1,0,0] bd) .d st' K' (aC 0 (ak nm1 Kb1) (fun _ _=>none)) RR) n
noncomputable def it4 (Kb3:af U El) (n:Nat):af U El:=ca nm4 (fun st' K'=>aj X (cdp [1,1,1,1,0,1,0,0] bd) (.seq none .d (.seq none .d (.seq (some nm5) (.block (.seq none .d (.seq none .d (.seq none .d (.cond (.region [(23,7),(25,7)]) .d))))) .d))) st' K' (aC 2 (ak nm3 Kb3) (fun _ _=>none)) RR) n
noncomputable def it7 (Kb6:af U El) (n:Nat):af U El:=ca nm7 (fun st' K'=>aj X (cdp [1,1,1,1,1,1,0,1,0,0] bd) (.seq none .d (.seq none .d (.seq none (.block (.seq none .d (.region [(9,500001200)]))) .d))) st' K' (aC 4 (ak nm6 Kb6) (fun _ _=>none)) RR) n
noncomputable def it9 (Kb8:af U El) (n:Nat):af U El:=ca nm9 (fun st' K'=>aj X (cdp [1,1,1,1,1,1,1,0,1,0,0] bd) (.seq none .d (.seq none .d (.seq none (.block (.seq none .d (.region [(22,500001201)]))) .d))) st' K' (aC 6 (ak nm8 Kb8) (fun _ _=>none)) RR) n
noncomputable def it11 (Kb10:af U El) (n:Nat):af U El:=ca nm11 (fun st' K'=>aj X (cdp [1,1,1,1,1,1,1,1,0,1,0,0] bd) (.seq none .d (.seq none .d (.seq (some nm12) (.block (.seq none .d (.seq none .d (.seq none .d (.cond (.seq none (.region [(8,20)]) (.seq none (.region [(15,500001201)]) (.region [(27,500001201),(29,500001201)]))) .d))))) .d))) st' K' (aC 8 (ak nm10 Kb10) (fun _ _=>none)) RR) n
noncomputable def ct1:af U El:=fun st=>aj X (cdp [1,1,1,1] bd) (.seq (some nm3) (.seq none .d (.block (.loop nm4 (.seq none .d (.seq none .d (.seq (some nm5) (.block (.seq none .d (.seq none .d (.seq none .d (.cond (.region [(23,7),(25,7)]) .d))))) .d)))))) (.seq none (.region [(8,12)]) (.seq (some nm6) (.seq none .d (.block (.loop nm7 (.seq none .d (.seq none .d (.seq none (.block (.seq none .d (.region [(9,500001200)]))) .d)))))) (.seq (some nm8) (.seq none .d (.block (.loop nm9 (.seq none .d (.seq none .d (.seq none (.block (.seq none .d (.region [(22,500001201)]))) .d)))))) (.seq (some nm10) (.seq none .d (.block (.loop nm11 (.seq none .d (.seq none .d (.seq (some nm12) (.block (.seq none .d (.seq none .d (.seq none .d (.cond (.seq none (.region [(8,20)]) (.seq none (.region [(15,500001201)]) (.region [(27,500001201),(29,500001201)]))) .d))))) .d)))))) .d))))) st RR (fun _ _=>none) RR
noncomputable def ct3:af U El:=fun st=>aj X (cdp [1,1,1,1,1] bd) (.seq none (.region [(8,12)]) (.seq (some nm6) (.seq none .d (.block (.loop nm7 (.seq none .d (.seq none .d (.seq none (.block (.seq none .d (.region [(9,500001200)]))) .d)))))) (.seq (some nm8) (.seq none .d (.block (.loop nm9 (.seq none .d (.seq none .d (.seq none (.block (.seq none .d (.region [(22,500001201)]))) .d)))))) (.seq (some nm10) (.seq none .d (.block (.loop nm11 (.seq none .d (.seq none .d (.seq (some nm12) (.block (.seq none .d (.seq none .d (.seq none .d (.cond (.seq none (.region [(8,20)]) (.seq none (.region [(15,500001201)]) (.region [(27,500001201),(29,500001201)]))) .d))))) .d)))))) .d)))) st RR (fun _ _=>none) RR
noncomputable def ct5 (Kb3 Kb4:af U El):af U El:=fun st=>aj X (cdp [1,1,1,1,0,1,0,0,1,1,1] bd) .d st (ak nm4 Kb4) (aC 2 (ak nm3 Kb3) (fun _ _=>none)) RR
noncomputable def ct6:af U El:=fun st=>aj X (cdp [1,1,1,1,1,1,1] bd) (.seq (some nm8) (.seq none .d (.block (.loop nm9 (.seq none .d (.seq none .d (.seq none (.block (.seq none .d (.region [(22,500001201)]))) .d)))))) (.seq (some nm10) (.seq none .d (.block (.loop nm11 (.seq none .d (.seq none .d (.seq (some nm12) (.block (.seq none .d (.seq none .d (.seq none .d (.cond (.seq none (.region [(8,20)]) (.seq none (.region [(15,500001201)]) (.region [(27,500001201),(29,500001201)]))) .d))))) .d)))))) .d)) st RR (fun _ _=>none) RR
noncomputable def ct8:af U El:=fun st=>aj X (cdp [1,1,1,1,1,1,1,1] bd) (.seq (some nm10) (.seq none .d (.block (.loop nm11 (.seq none .d (.seq none .d (.seq (some nm12) (.block (.seq none .d (.seq none .d (.seq none .d (.cond (.seq none (.region [(8,20)]) (.seq none (.region [(15,500001201)]) (.region [(27,500001201),(29,500001201)]))) .d))))) .d)))))) .d) st RR (fun _ _=>none) RR
noncomputable def ct10:af U El:=fun st=>aj X (cdp [1,1,1,1,1,1,1,1,1] bd) .d st RR (fun _ _=>none) RR
noncomputable def ct12 (Kb10 Kb11:af U El):af U El:=fun st=>aj X (cdp [1,1,1,1,1,1,1,1,0,1,0,0,1,1,1] bd) .d st (ak nm11 Kb11) (aC 8 (ak nm10 Kb10) (fun _ _=>none)) RR
theorem P0 (m ps pf):aj X (cdp [] bd) (.seq none .d (.seq none .d (.seq none .d (.seq (some nm1) (.seq none .d (.block (.loop nm2 .d))) (.seq (some nm3) (.seq none .d (.block (.loop nm4 (.seq none .d (.seq none .d (.seq (some nm5) (.block (.seq none .d (.seq none .d (.seq none .d (.cond (.region [(23,7),(25,7)]) .d))))) .d)))))) (.seq none (.region [(8,12)]) (.seq (some nm6) (.seq none .d (.block (.loop nm7 (.seq none .d (.seq none .d (.seq none (.block (.seq none .d (.region [(9,500001200)]))) .d)))))) (.seq (some nm8) (.seq none .d (.block (.loop nm9 (.seq none .d (.seq none .d (.seq none (.block (.seq none .d (.region [(22,500001201)]))) .d)))))) (.seq (some nm10) (.seq none .d (.block (.loop nm11 (.seq none .d (.seq none .d (.seq (some nm12) (.block (.seq none .d (.seq none .d (.seq none .d (.cond (.seq none (.region [(8,20)]) (.seq none (.region [(15,500001201)]) (.region [(27,500001201),(29,500001201)]))) .d))))) .d)))))) .d))))))))) (fr0 m ps pf) RR (fun _ _=>none) RR=sh0 m ps pf (fun y0 y1 y2 y3 y4 y5 y6=>(hid (it2 (hid ct1) 100000)) (fr2 y0 y1 y2 y3 y4 y5 y6)):=by kernel_rfl
theorem P1 (iA bA gA eA fA):ct1 (fr1 iA bA gA eA fA)=sh1 iA bA gA eA fA (fun y0 y1 y2 y3 y4 y5 y6=>(hid (it4 (hid ct3) 100000)) (fr4 y0 y1 y2 y3 y4 y5 y6)):=by kernel_rfl
theorem P2 (iA bA gA rA qA eA fA) (Kb1 Kb2:af U El):aj X (cdp [1,1,1,0,1,0,0] bd) .d (fr2 iA bA gA rA qA eA fA) (ak nm2 Kb2) (aC 0 (ak nm1 Kb1) (fun _ _=>none)) RR=sh2 iA bA gA rA qA eA fA (fun y0 y1 y2 y3 y4=>Kb1 (fr1 y0 y1 y2 y3 y4)) (fun y0 y1 y2 y3 y4 y5 y6=>Kb2 (fr2 y0 y1 y2 y3 y4 y5 y6)):=by kernel_rfl
theorem P3 (bA gA eA fA):ct3 (fr3 bA gA eA fA)=sh3 bA gA eA fA (fun y0 y1 y2 y3 y4 y5 y6=>(hid (it7 (hid ct6) 100000)) (fr7 y0 y1 y2 y3 y4 y5 y6)):=by kernel_rfl
theorem P4 (bA gA nA oA mA eA fA) (Kb3 Kb4:af U El):aj X (cdp [1,1,1,1,0,1,0,0] bd) (.seq none .d (.seq none .d (.seq (some nm5) (.block (.seq none .d (.seq none .d (.seq none .d (.cond (.region [(23,7),(25,7)]) .d))))) .d))) (fr4 bA gA nA oA mA eA fA) (ak nm4 Kb4) (aC 2 (ak nm3 Kb3) (fun _ _=>none)) RR=sh4 bA gA nA oA mA eA fA (fun y0 y1 y2 y3=>Kb3 (fr3 y0 y1 y2 y3)) (fun y0 y1 y2 y3 y4 y5 y6=>(hid (ct5 Kb3 Kb4)) (fr5 y0 y1 y2 y3 y4 y5 y6)):=by kernel_rfl
theorem P5 (bA gA nA oA mA eA fA) (Kb3 Kb4:af U El):ct5 Kb3 Kb4 (fr5 bA gA nA oA mA eA fA)=sh5 bA gA nA oA mA eA fA (fun y0 y1 y2 y3 y4 y5 y6=>Kb4 (fr4 y0 y1 y2 y3 y4 y5 y6)):=by kernel_rfl
theorem P6 (bA gA cA aA):ct6 (fr6 bA gA cA aA)=sh6 bA gA cA aA (fun y0 y1 y2 y3 y4 y5=>(hid (it9 (hid ct8) 100000)) (fr9 y0 y1 y2 y3 y4 y5)):=by kernel_rfl
theorem P7 (bA gA sA pA eA fA cA) (Kb6 Kb7:af U El):aj X (cdp [1,1,1,1,1,1,0,1,0,0] bd) (.seq none .d (.seq none .d (.seq none (.block (.seq none .d (.region [(9,500001200)]))) .d))) (fr7 bA gA sA pA eA fA cA) (ak nm7 Kb7) (aC 4 (ak nm6 Kb6) (fun _ _=>none)) RR=sh7 bA gA sA pA eA fA cA (fun y0 y1 y2 y3=>Kb6 (fr6 y0 y1 y2 y3)) (fun y0 y1 y2 y3 y4 y5 y6=>Kb7 (fr7 y0 y1 y2 y3 y4 y5 y6)):=by kernel_rfl
theorem P8 (bA cA aA):ct8 (fr8 bA cA aA)=sh8 bA cA aA (fun y0 y1 y2 y3 y4=>(hid (it11 (hid ct10) 100000)) (fr11 y0 y1 y2 y3 y4)):=by kernel_rfl
theorem P9 (bA gA tA lA cA aA) (Kb8 Kb9:af U El):aj X (cdp [1,1,1,1,1,1,1,0,1,0,0] bd) (.seq none .d (.seq none .d (.seq none (.block (.seq none .d (.region [(22,500001201)]))) .d))) (fr9 bA gA tA lA cA aA) (ak nm9 Kb9) (aC 6 (ak nm8 Kb8) (fun _ _=>none)) RR=sh9 bA gA tA lA cA aA (fun y0 y1 y2=>Kb8 (fr8 y0 y1 y2)) (fun y0 y1 y2 y3 y4 y5=>Kb9 (fr9 y0 y1 y2 y3 y4 y5)):=by kernel_rfl
theorem P10 (cA aA):ct10 (fr10 cA aA)=sh10 cA aA:=by kernel_rfl
theorem P11 (jA kA dA cA aA) (Kb10 Kb11:af U El):aj X (cdp [1,1,1,1,1,1,1,1,0,1,0,0] bd) (.seq none .d (.seq none .d (.seq (some nm12) (.block (.seq none .d (.seq none .d (.seq none .d (.cond (.seq none (.region [(8,20)]) (.seq none (.region [(15,500001201)]) (.region [(27,500001201),(29,500001201)]))) .d))))) .d))) (fr11 jA kA dA cA aA) (ak nm11 Kb11) (aC 8 (ak nm10 Kb10) (fun _ _=>none)) RR=sh11 jA kA dA cA aA (fun y0 y1=>Kb10 (fr10 y0 y1)) (fun y0 y1 y2 y3 y4=>(hid (ct12 Kb10 Kb11)) (fr12 y0 y1 y2 y3 y4)):=by kernel_rfl
theorem P12 (jA kA dA cA aA) (Kb10 Kb11:af U El):ct12 Kb10 Kb11 (fr12 jA kA dA cA aA)=sh12 jA kA dA cA aA (fun y0 y1 y2 y3 y4=>Kb11 (fr11 y0 y1 y2 y3 y4)):=by kernel_rfl
noncomputable def f10 (cA:List Spot) (aA:List Face):R:=sh10 cA aA
noncomputable def f12 (uA:Y11) (jA:List UInt8) (kA:Int) (dA:Int) (cA:List Spot) (aA:List Face):R:=sh12 jA kA dA cA aA uA
noncomputable def f11:Nat→Y11
  | 0=>fun _ _ _ _ _=>none
  | n+1=>fun jA kA dA cA aA=>sh11 jA kA dA cA aA f10 (f12 (f11 n))
noncomputable def f8 (bA:List UInt8) (cA:List Spot) (aA:List Face):R:=sh8 bA cA aA (f11 100000)
noncomputable def f9:Nat→Y9
  | 0=>fun _ _ _ _ _ _=>none
  | n+1=>fun bA gA tA lA cA aA=>sh9 bA gA tA lA cA aA f8 (f9 n)
noncomputable def f6 (bA:List UInt8) (gA:List Int) (cA:List Spot) (aA:List Face):R:=sh6 bA gA cA aA (f9 100000)
noncomputable def f7:Nat→Y7
  | 0=>fun _ _ _ _ _ _ _=>none
  | n+1=>fun bA gA sA pA eA fA cA=>sh7 bA gA sA pA eA fA cA f6 (f7 n)
noncomputable def f3 (bA:List UInt8) (gA:List Int) (eA:List Spot) (fA:List Face):R:=sh3 bA gA eA fA (f7 100000)
noncomputable def f5 (k4:Y4) (bA:List UInt8) (gA:List Int) (nA:List UInt8) (oA:Int) (mA:Int) (eA:List Spot) (fA:List Face):R:=sh5 bA gA nA oA mA eA fA k4
noncomputable def f4:Nat→Y4
  | 0=>fun _ _ _ _ _ _ _=>none
  | n+1=>fun bA gA nA oA mA eA fA=>sh4 bA gA nA oA mA eA fA f3 (f5 (f4 n))
noncomputable def f1 (iA:List UInt8) (bA:List UInt8) (gA:List Int) (eA:List Spot) (fA:List Face):R:=sh1 iA bA gA eA fA (f4 100000)
noncomputable def f2:Nat→Y2
  | 0=>fun _ _ _ _ _ _ _=>none
  | n+1=>fun iA bA gA rA qA eA fA=>sh2 iA bA gA rA qA eA fA f1 (f2 n)
noncomputable def f0 (m:Mesh) (ps:List UInt8) (pf:List UInt8):R:=sh0 m ps pf (f2 100000)
theorem T10 (cA aA):(hid ct10) (fr10 cA aA)=f10 cA aA:=by
  refine (congrFun (al _) _).trans <| (P10 cA aA).trans ?_
  show _=sh10 cA aA
  rfl
theorem T12 (KL11:af U El) (uA:Y11) (h11:∀ jA kA dA cA aA,KL11 (fr11 jA kA dA cA aA)=uA jA kA dA cA aA) (jA kA dA cA aA):(hid (ct12 (hid ct10) KL11)) (fr12 jA kA dA cA aA)=f12 uA jA kA dA cA aA:=by
  refine (congrFun (al _) _).trans <| (P12 jA kA dA cA aA (hid ct10) KL11).trans ?_
  show _=sh12 jA kA dA cA aA uA
  simp only [h11]
theorem T11:∀ (n:Nat),∀ jA kA dA cA aA,it11 (hid ct10) n (fr11 jA kA dA cA aA)=f11 n jA kA dA cA aA:=by
  intro n
  induction n with
  | zero=>intros; rfl
  | succ n ih =>
    intro jA kA dA cA aA
    refine (P11 jA kA dA cA aA (hid ct10) (it11 (hid ct10) n)).trans ?_
    show _=sh11 jA kA dA cA aA f10 (f12 (f11 n))
    simp only [T10,T12 (it11 (hid ct10) n) (f11 n) ih]
theorem H11 (jA kA dA cA aA):hid (it11 (hid ct10) 100000) (fr11 jA kA dA cA aA)=f11 100000 jA kA dA cA aA:=(congrFun (al _) _).trans (T11 100000 jA kA dA cA aA)
theorem T8 (bA cA aA):(hid ct8) (fr8 bA cA aA)=f8 bA cA aA:=by
  refine (congrFun (al _) _).trans <| (P8 bA cA aA).trans ?_
  show _=sh8 bA cA aA (f11 100000)
  simp only [H11]
theorem T9:∀ (n:Nat),∀ bA gA tA lA cA aA,it9 (hid ct8) n (fr9 bA gA tA lA cA aA)=f9 n bA gA tA lA cA aA:=by
  intro n
  induction n with
  | zero=>intros; rfl
  | succ n ih =>
    intro bA gA tA lA cA aA
    refine (P9 bA gA tA lA cA aA (hid ct8) (it9 (hid ct8) n)).trans ?_
    show _=sh9 bA gA tA lA cA aA f8 (f9 n)
    simp only [T8,ih]
theorem H9 (bA gA tA lA cA aA):hid (it9 (hid ct8) 100000) (fr9 bA gA tA lA cA aA)=f9 100000 bA gA tA lA cA aA:=(congrFun (al _) _).trans (T9 100000 bA gA tA lA cA aA)
theorem T6 (bA gA cA aA):(hid ct6) (fr6 bA gA cA aA)=f6 bA gA cA aA:=by
  refine (congrFun (al _) _).trans <| (P6 bA gA cA aA).trans ?_
  show _=sh6 bA gA cA aA (f9 100000)
  simp only [H9]
theorem T7:∀ (n:Nat),∀ bA gA sA pA eA fA cA,it7 (hid ct6) n (fr7 bA gA sA pA eA fA cA)=f7 n bA gA sA pA eA fA cA:=by
  intro n
  induction n with
  | zero=>intros; rfl
  | succ n ih =>
    intro bA gA sA pA eA fA cA
    refine (P7 bA gA sA pA eA fA cA (hid ct6) (it7 (hid ct6) n)).trans ?_
    show _=sh7 bA gA sA pA eA fA cA f6 (f7 n)
    simp only [T6,ih]
theorem H7 (bA gA sA pA eA fA cA):hid (it7 (hid ct6) 100000) (fr7 bA gA sA pA eA fA cA)=f7 100000 bA gA sA pA eA fA cA:=(congrFun (al _) _).trans (T7 100000 bA gA sA pA eA fA cA)
theorem T3 (bA gA eA fA):(hid ct3) (fr3 bA gA eA fA)=f3 bA gA eA fA:=by
  refine (congrFun (al _) _).trans <| (P3 bA gA eA fA).trans ?_
  show _=sh3 bA gA eA fA (f7 100000)
  simp only [H7]
theorem T5 (KL4:af U El) (k4:Y4) (h4:∀ bA gA nA oA mA eA fA,KL4 (fr4 bA gA nA oA mA eA fA)=k4 bA gA nA oA mA eA fA) (bA gA nA oA mA eA fA):(hid (ct5 (hid ct3) KL4)) (fr5 bA gA nA oA mA eA fA)=f5 k4 bA gA nA oA mA eA fA:=by
  refine (congrFun (al _) _).trans <| (P5 bA gA nA oA mA eA fA (hid ct3) KL4).trans ?_
  show _=sh5 bA gA nA oA mA eA fA k4
  simp only [h4]
theorem T4:∀ (n:Nat),∀ bA gA nA oA mA eA fA,it4 (hid ct3) n (fr4 bA gA nA oA mA eA fA)=f4 n bA gA nA oA mA eA fA:=by
  intro n
  induction n with
  | zero=>intros; rfl
  | succ n ih =>
    intro bA gA nA oA mA eA fA
    refine (P4 bA gA nA oA mA eA fA (hid ct3) (it4 (hid ct3) n)).trans ?_
    show _=sh4 bA gA nA oA mA eA fA f3 (f5 (f4 n))
    simp only [T3,T5 (it4 (hid ct3) n) (f4 n) ih]
theorem H4 (bA gA nA oA mA eA fA):hid (it4 (hid ct3) 100000) (fr4 bA gA nA oA mA eA fA)=f4 100000 bA gA nA oA mA eA fA:=(congrFun (al _) _).trans (T4 100000 bA gA nA oA mA eA fA)
theorem T1 (iA bA gA eA fA):(hid ct1) (fr1 iA bA gA eA fA)=f1 iA bA gA eA fA:=by
  refine (congrFun (al _) _).trans <| (P1 iA bA gA eA fA).trans ?_
  show _=sh1 iA bA gA eA fA (f4 100000)
  simp only [H4]
theorem T2:∀ (n:Nat),∀ iA bA gA rA qA eA fA,it2 (hid ct1) n (fr2 iA bA gA rA qA eA fA)=f2 n iA bA gA rA qA eA fA:=by
  intro n
  induction n with
  | zero=>intros; rfl
  | succ n ih =>
    intro iA bA gA rA qA eA fA
    refine (P2 iA bA gA rA qA eA fA (hid ct1) (it2 (hid ct1) n)).trans ?_
    show _=sh2 iA bA gA rA qA eA fA f1 (f2 n)
    simp only [T1,ih]
theorem H2 (iA bA gA rA qA eA fA):hid (it2 (hid ct1) 100000) (fr2 iA bA gA rA qA eA fA)=f2 100000 iA bA gA rA qA eA fA:=(congrFun (al _) _).trans (T2 100000 iA bA gA rA qA eA fA)
theorem T0 (m ps pf):aj X bd (.seq none .d (.seq none .d (.seq none .d (.seq (some nm1) (.seq none .d (.block (.loop nm2 .d))) (.seq (some nm3) (.seq none .d (.block (.loop nm4 (.seq none .d (.seq none .d (.seq (some nm5) (.block (.seq none .d (.seq none .d (.seq none .d (.cond (.region [(23,7),(25,7)]) .d))))) .d)))))) (.seq none (.region [(8,12)]) (.seq (some nm6) (.seq none .d (.block (.loop nm7 (.seq none .d (.seq none .d (.seq none (.block (.seq none .d (.region [(9,500001200)]))) .d)))))) (.seq (some nm8) (.seq none .d (.block (.loop nm9 (.seq none .d (.seq none .d (.seq none (.block (.seq none .d (.region [(22,500001201)]))) .d)))))) (.seq (some nm10) (.seq none .d (.block (.loop nm11 (.seq none .d (.seq none .d (.seq (some nm12) (.block (.seq none .d (.seq none .d (.seq none .d (.cond (.seq none (.region [(8,20)]) (.seq none (.region [(15,500001201)]) (.region [(27,500001201),(29,500001201)]))) .d))))) .d)))))) .d))))))))) (fr0 m ps pf) RR (fun _ _=>none) RR=f0 m ps pf:=by
  refine (P0 m ps pf).trans ?_
  show _=sh0 m ps pf (f2 100000)
  simp only [H2]
theorem run (m ps pf):n4 X bd (.seq none .d (.seq none .d (.seq none .d (.seq (some nm1) (.seq none .d (.block (.loop nm2 .d))) (.seq (some nm3) (.seq none .d (.block (.loop nm4 (.seq none .d (.seq none .d (.seq (some nm5) (.block (.seq none .d (.seq none .d (.seq none .d (.cond (.region [(23,7),(25,7)]) .d))))) .d)))))) (.seq none (.region [(8,12)]) (.seq (some nm6) (.seq none .d (.block (.loop nm7 (.seq none .d (.seq none .d (.seq none (.block (.seq none .d (.region [(9,500001200)]))) .d)))))) (.seq (some nm8) (.seq none .d (.block (.loop nm9 (.seq none .d (.seq none .d (.seq none (.block (.seq none .d (.region [(22,500001201)]))) .d)))))) (.seq (some nm10) (.seq none .d (.block (.loop nm11 (.seq none .d (.seq none .d (.seq (some nm12) (.block (.seq none .d (.seq none .d (.seq none .d (.cond (.seq none (.region [(8,20)]) (.seq none (.region [(15,500001201)]) (.region [(27,500001201),(29,500001201)]))) .d))))) .d)))))) .d))))))))) nmR [(6,25)] [192] [] [(.agg [(.lst .spot m.ms),(.lst .face m.mf)]),(.lst .u8 ps),(.lst .u8 pf)]=f0 m ps pf:=T0 m ps pf
theorem fill (ps pf : List UInt8) (m : Mesh) (hn : m.ms.length ≤ 2000) : ∀ (n i : Nat) (o : List Int), m.ms.length < n + i → i ≤ m.ms.length → o.length = m.ms.length → (∀ j (h : j < o.length), j < i → o[j] = (j : Int)) →
    f2 n ps pf o (Int.ofNat m.ms.length) (i:Int) m.ms m.mf=f1 ps pf (ixs m.ms.length) m.ms m.mf:=by
  intro n
  induction n with
  | zero=>intro i o h1 h2; omega
  | succ n ih =>
    intro i o h1 h2 h3 h4
    show sh2 ps pf o (Int.ofNat m.ms.length) (i:Int) m.ms m.mf f1 (f2 n)=_
    unfold sh2
    by_cases hi:i < m.ms.length
    · rw [bW (by simp; omega), bx, bF (show i < o.length by omega), aL, aw, en (show i < o.length by omega), Bool.and_self, aL, bw i (by omega)]
      refine ih (i+1) _ (by omega) hi (by rw [List.length_set]; exact h3) fun j h hj => ?_
      rw [List.getElem_set]
      split
      · rename_i e; rw [e]
      · exact h4 j (by rw [List.length_set] at h; exact h) (by omega)
    · have : i = m.ms.length := by omega
      subst this
      rw [bQ (by simp),bq]
      congr 1
      apply List.ext_getElem
      · rw [h3,cR]
      · intro j k1 k2
        rw [h4 j k1 (by omega),nc (by rw [cR] at k2; exact k2)]
theorem wg (pf : List UInt8) (m : Mesh) (N : Nat) (ps : List UInt8) (hps : ps.length ≤ 1000) : ∀ (n i : Nat) (a : List Int), ps.length < n + i → i ≤ ps.length → a.Perm (ixs N) →
    ∃ a':List Int,a'.Perm (ixs N)∧f4 n pf a ps (Int.ofNat ps.length) (i:Int) m.ms m.mf=f3 pf a' m.ms m.mf:=by
  intro n
  induction n with
  | zero=>intro i a h1 h2; omega
  | succ n ih =>
    intro i a h1 h2 hp
    have step:∀ a',f5 (f4 n) pf a' ps (Int.ofNat ps.length) (i:Int) m.ms m.mf=f4 n pf a' ps (Int.ofNat ps.length) ((i+1:Nat):Int) m.ms m.mf:=fun a'=>by
      show f4 n pf a' ps _ (IntKind.wrap .i64 ((i:Int)+1)) m.ms m.mf=_
      rw [bw i (by omega)]
    show ∃ a':List Int,_∧sh4 pf a ps (Int.ofNat ps.length) (i:Int) m.ms m.mf f3 (f5 (f4 n))=_
    unfold sh4
    by_cases hi:i < ps.length
    · rw [bW (by simp; omega), bx, bF hi, aL]
      by_cases h0:0 < a.length
      · rw [bW (by simp; omega), bx]
        have q1:=Nat.mod_lt i h0
        have q2:=Nat.mod_lt (UInt8.toNat (List.getD ps (Int.toNat (i:Int)) eP)) h0
        rw [aw] at q2
        simp only [uV,mw,ne0 h0,aL,aw,bF q1,bF q2,en q1,en q2,List.length_set,Bool.and_true]
        rw [step]
        refine ih (i+1) _ (by omega) hi ?_
        rw [aE q2,aE q1]
        exact (List.set_set_perm q1 q2).trans hp
      · rw [qV h0, bq, step]
        exact ih (i+1) a (by omega) hi hp
    · have : i = ps.length := by omega
      subst this
      rw [bQ (by simp),bq]
      exact ⟨a,hp,rfl⟩
theorem place (pf : List UInt8) (m : Mesh) (a : List Int) (hn : m.ms.length ≤ 2000) (ha : a.Perm (ixs m.ms.length)) : ∀ (n i : Nat) (o : List Spot), m.ms.length < n + i → i ≤ m.ms.length → o.length = m.ms.length →
    (∀ j,j < i→List.getD o (Int.toNat (List.getD a j aS)) d_spot=List.getD m.ms j d_spot) →
    ∃ o':List Spot,o'.length=m.ms.length∧(∀ j,j < m.ms.length→List.getD o' (Int.toNat (List.getD a j aS)) d_spot=List.getD m.ms j d_spot)∧f7 n pf a (Int.ofNat m.ms.length) (i:Int) m.ms m.mf o=f6 pf a o' m.mf:=by
  have hl:a.length=m.ms.length:=by rw [ha.length_eq,cR]
  intro n
  induction n with
  | zero=>intro i o h1 h2; omega
  | succ n ih =>
    intro i o h1 h2 h3 h4
    show ∃ o':List Spot,_∧_∧sh7 pf a (Int.ofNat m.ms.length) (i:Int) m.ms m.mf o f6 (f7 n)=_
    unfold sh7
    by_cases hi:i < m.ms.length
    · obtain ⟨k, hk, ek⟩ := lB ha hi
      have hk':k < o.length:=by omega
      have hia:i < a.length:=by omega
      rw [bW (by simp; omega),bx]
      simp only [aw,bF hi,bF hia,en hi,en hia,ek,bF hk',en hk',aL,Bool.and_true]
      rw [bw i (by omega)]
      refine ih (i+1) _ (by omega) hi (by rw [List.length_set]; exact h3) fun j hj => ?_
      obtain ⟨q,hq,eq⟩:=lB ha (show j < m.ms.length by omega)
      rw [eq,aw,aE (by rw [List.length_set]; omega),List.getElem_set]
      split
      · rename_i e
        subst e
        rw [nl ha (show j < m.ms.length by omega) hi (by rw [eq,ek])]
      · rename_i e
        have hji:j≠i:=fun e'=>e (by subst e'; rw [ek] at eq; omega)
        have:=h4 j (by omega)
        rw [eq,aw,aE (by omega)] at this
        exact this
    · have : i = m.ms.length := by omega
      subst this
      rw [bQ (by simp),bq]
      exact ⟨o,h3,h4,rfl⟩
theorem faces (pf : List UInt8) (m : Mesh) (a : List Int) (s : List Spot) (hn : m.mf.length ≤ 4000) (hl : a.length = m.ms.length) (hin : ∀ f ∈ m.mf, aF m f = true) : ∀ (n i : Nat) (c : List Face), m.mf.length < n + i → i ≤ m.mf.length → c.length = m.mf.length →
    (∀ j (h:j < m.mf.length),j < i→List.getD c j ab=nmF a m.mf[j])→(∀ j (h:j < m.mf.length),i≤j→List.getD c j ab=m.mf[j])→f9 n pf a (Int.ofNat m.mf.length) (i:Int) s c=f8 pf s (m.mf.map (nmF a)):=by
  intro n
  induction n with
  | zero=>intro i c h1 h2; omega
  | succ n ih =>
    intro i c h1 h2 h3 h4 h5
    show sh9 pf a (Int.ofNat m.mf.length) (i:Int) s c f8 (f9 n)=_
    unfold sh9
    by_cases hi:i < m.mf.length
    · have hic : i < c.length := by omega
      have hf:=hin _ (List.getElem_mem hi)
      simp only [aF,Bool.and_eq_true] at hf
      obtain ⟨x,hx,ex⟩:=jD hf.1
      obtain ⟨y,hy,ey⟩:=jD hf.2.1
      obtain ⟨z,hz,ez⟩:=jD hf.2.2
      rw [← hl] at hx hy hz
      rw [bW (by simp; omega),bx]
      have hnm:(⟨List.getD a x aS,List.getD a y aS,List.getD a z aS,(m.mf[i]).fk⟩:Face)=nmF a m.mf[i]:=by
        unfold nmF
        rw [ex,ey,ez]
        rfl
      simp only [aw,h5 i hi (Nat.le_refl _),ex,ey,ez,bF hx,bF hy,bF hz,en hx,en hy,en hz,bF hic,en hic,aL,Bool.and_true,hnm]
      rw [bw i (by omega)]
      refine ih (i+1) _ (by omega) hi (by rw [List.length_set]; exact h3) (fun j h hj => ?_) (fun j h hj => ?_)
      · rw [aE (by rw [List.length_set]; omega), List.getElem_set]
        split
        · rename_i e; subst e; rfl
        · have := h4 j h (by omega)
          rw [aE (by omega)] at this
          exact this
      · have := h5 j h (by omega)
        rw [aE (by omega)] at this
        rw [aE (by rw [List.length_set]; omega),List.getElem_set,if_neg (by omega)]
        exact this
    · have : i = m.mf.length := by omega
      subst this
      rw [bQ (by simp),bq]
      congr 1
      apply List.ext_getElem
      · rw [h3,List.length_map]
      · intro j k1 k2
        have:=h4 j (by omega) (by omega)
        rw [aE k1] at this
        rw [this,List.getElem_map]
theorem uW (m B : Mesh) (hS : SOk B) (pf : List UInt8) (hpf : pf.length ≤ 1000) : ∀ (n i : Nat) (c : List Face), pf.length < n + i → i ≤ pf.length → (∀ f ∈ c, aF B f = true ∧ Ne3 f) → (c.map (bH B)).Perm (m.mf.map (bH m)) →
    ∃ c':List Face,(∀ f∈c',aF B f=true)∧(c'.map (bH B)).Perm (m.mf.map (bH m))∧f11 n pf (Int.ofNat pf.length) (i:Int) B.ms c=f10 B.ms c':=by
  intro n
  induction n with
  | zero=>intro i c h1 h2; omega
  | succ n ih =>
    intro i c h1 h2 h3 h4
    have step:∀ c',f12 (f11 n) pf (Int.ofNat pf.length) (i:Int) B.ms c'=f11 n pf (Int.ofNat pf.length) ((i+1:Nat):Int) B.ms c':=fun c'=>by
      show f11 n pf _ (IntKind.wrap .i64 ((i:Int)+1)) B.ms c'=_
      rw [bw i (by omega)]
    show ∃ c':List Face,_∧_∧sh11 pf (Int.ofNat pf.length) (i:Int) B.ms c f10 (f12 (f11 n))=_
    unfold sh11
    by_cases hi:i < pf.length
    · rw [bW (by simp; omega), bx, bF hi, aL]
      by_cases h0:0 < c.length
      · rw [bW (by simp; omega), bx]
        have q1:=Nat.mod_lt i h0
        have q2:=Nat.mod_lt (UInt8.toNat (List.getD pf (Int.toNat (i:Int)) eP)) h0
        rw [aw] at q2
        simp only [uV,mw,ne0 h0,aL,aw,bF q1,bF q2,en q1,en q2,List.length_set,Bool.and_true]
        rw [step]
        have hF:=h3 _ (List.getElem_mem q1)
        have hm:∀ c1:List Face,c1=List.set c (i%c.length) (hY c[i%c.length])→c1.length=c.length∧(∀ f∈c1,aF B f=true∧Ne3 f)∧c1.map (bH B)=c.map (bH B):=fun c1 e=>by
          subst e
          refine ⟨List.length_set,fun f hf => ?_,?_⟩
          · rcases List.mem_or_eq_of_mem_set hf with h | h
            · exact h3 f h
            · rw [h]
              exact ⟨vK hF.1,⟨hF.2.2.1,hF.2.2.2,hF.2.1⟩⟩
          · rw [List.map_set, uJ hS hF.1 hF.2]
            have:=@List.set_getElem_self _ (c.map (bH B)) (i%c.length) (by rw [List.length_map]; exact q1)
            rw [List.getElem_map] at this
            exact this
        rw [aE q1]
        obtain ⟨k1,k2,k3⟩:=hm _ rfl
        revert k1 k2 k3
        show (List.set c (i%c.length) (⟨(c[i%c.length]).fb,(c[i%c.length]).fc,(c[i%c.length]).fa,(c[i%c.length]).fk⟩:Face)).length=c.length→(∀ f∈List.set c (i%c.length) (⟨(c[i%c.length]).fb,(c[i%c.length]).fc,(c[i%c.length]).fa,(c[i%c.length]).fk⟩:Face),aF B f=true∧Ne3 f)→(List.set c (i%c.length) (⟨(c[i%c.length]).fb,(c[i%c.length]).fc,(c[i%c.length]).fa,(c[i%c.length]).fk⟩:Face)).map (bH B)=c.map (bH B)→_
        generalize List.set c (i%c.length) (⟨(c[i%c.length]).fb,(c[i%c.length]).fc,(c[i%c.length]).fa,(c[i%c.length]).fk⟩:Face)=c1
        intro k1 k2 k3
        have p1:i%c.length < c1.length:=by rw [k1]; exact q1
        have p2:UInt8.toNat (List.getD pf i eP)%c.length < c1.length:=by rw [k1]; exact q2
        have hp:((c1.set (i%c.length) (List.getD c1 (UInt8.toNat (List.getD pf i eP)%c.length) ab)).set (UInt8.toNat (List.getD pf i eP)%c.length) (List.getD c1 (i%c.length) ab)).Perm c1:=by
          rw [aE p1,aE p2]
          exact List.set_set_perm p1 p2
        refine ih (i+1) _ (by omega) hi (fun f hf=>k2 f (hp.mem_iff.1 hf)) ?_
        refine (hp.map (bH B)).trans ?_
        rw [k3]
        exact h4
      · rw [qV h0, bq, step]
        exact ih (i+1) c (by omega) hi h3 h4
    · have : i = pf.length := by omega
      subst this
      rw [bQ (by simp),bq]
      exact ⟨c,fun f hf=>(h3 f hf).1,h4,rfl⟩
theorem run_ex (m : Mesh) (ps pf : List UInt8) (hv : am m = true) (h1 : ps.length ≤ 1000) (h2 : pf.length ≤ 1000) : ∃ b : Mesh, f0 m ps pf = some ((.agg [(.ful 500001200), (.ful 500001201)]), [(500001200, (.rows .spot b.ms)), (500001201, (.rows .face b.mf))]) ∧ Nm m b := by
  have hs:=cj hv
  have hin:=cO hv
  have hS:=((bT m).1 hv).1
  show ∃ b:Mesh,sh0 m ps pf (f2 100000)=_∧_
  unfold sh0
  rw [show ap m=true by unfold ap; rw [cq (by omega),cq (by omega)]; rfl,aL,cI (show (0:Int)≤Int.ofNat m.ms.length by simp),cI (Int.le_refl _),cI (show Int.ofNat m.ms.length * 8≤140737488355328 by simp; omega),dM]
  show ∃ b:Mesh,f2 100000 ps pf (List.replicate m.ms.length aS) (Int.ofNat (List.replicate m.ms.length aS).length) ((0:Nat):Int) m.ms m.mf=_∧_
  rw [List.length_replicate,fill ps pf m hs.1 100000 0 _ (by omega) (by omega) (by simp) (fun j h hj=>(by omega))]
  obtain ⟨a,ha,e1⟩:=wg pf m m.ms.length ps h1 100000 0 (ixs m.ms.length) (by omega) (by omega) (List.Perm.refl _)
  have hl:a.length=m.ms.length:=by rw [ha.length_eq,cR]
  show ∃ b:Mesh,f4 100000 pf (ixs m.ms.length) ps (Int.ofNat ps.length) ((0:Nat):Int) m.ms m.mf=_∧_
  rw [e1]
  show ∃ b:Mesh,sh3 pf a m.ms m.mf (f7 100000)=_∧_
  unfold sh3
  rw [cI (show (0:Int)≤Int.ofNat m.ms.length by simp),cI (Int.le_refl _),cI (show Int.ofNat m.ms.length * 24≤140737488355328 by simp; omega),dM,hl]
  obtain ⟨o,ho,hpl,e2⟩:=place pf m a hs.1 ha 100000 0 (List.replicate m.ms.length d_spot) (by omega) (by omega) (by simp) (fun j hj=>(by omega))
  show ∃ b:Mesh,f7 100000 pf a (Int.ofNat m.ms.length) ((0:Nat):Int) m.ms m.mf (List.replicate m.ms.length d_spot)=_∧_
  rw [e2]
  show ∃ b:Mesh,f9 100000 pf a (Int.ofNat m.mf.length) ((0:Nat):Int) o m.mf=_∧_
  rw [faces pf m a o hs.2 hl hin 100000 0 m.mf (by omega) (by omega) rfl (fun j h hj=>(by omega)) (fun j h hj=>aE h ab)]
  show ∃ b:Mesh,f11 100000 pf (Int.ofNat pf.length) ((0:Nat):Int) o (m.mf.map (nmF a))=_∧_
  obtain ⟨B,hB⟩:∃ B:Mesh,B=⟨o,[]⟩:=⟨_,rfl⟩
  have hBo:B.ms=o:=by rw [hB]
  have hsA:∀ x,dz B x=List.getD o (Int.toNat x) d_spot:=fun x=>by
    unfold dz
    rw [hBo]
  have hsp:B.ms.Perm m.ms:=by
    have g1:(ixs m.ms.length).map (dz B)=B.ms:=by
      have:=jv B
      rw [hBo,ho] at this
      rw [hBo]
      exact this
    have g2:a.map (dz B)=m.ms:=by
      apply List.ext_getElem
      · rw [List.length_map,hl]
      · intro j k1 k2
        have:=hpl j k2
        rw [aE (by omega:j < a.length),aE k2] at this
        rw [List.getElem_map,← this]
        exact hsA _
    have:=(ha.symm.map (dz B))
    rw [g1,g2] at this
    exact this
  have hSB:SOk B:=by
    have h0:=((bT _).1 (eC hS)).1
    exact h0.of_perm (b:=B) hsp (by rw [hB]; rfl)
  have hst:∀ i:Nat,i < m.ms.length→dz B (List.getD a i aS)=dz m (i:Int):=fun i hi=>by
    have:=hpl i hi
    unfold dz
    rw [hBo,this,aw]
  have hrk:∀ i:Nat,i < m.ms.length→a8 B (List.getD a i aS)=a8 m (i:Int):=fun i hi=>mq hsp (hst i hi)
  have hc0:∀ f∈m.mf.map (nmF a),aF B f=true∧Ne3 f:=fun f hf=>by
    obtain ⟨g,hg,rfl⟩:=List.mem_map.1 hf
    have hne:=oO hv hg
    obtain ⟨i,j,l,hi,hj,hl',e⟩:=dN (hin g hg)
    obtain ⟨x,hx,ex⟩:=lB ha hi
    obtain ⟨y,hy,ey⟩:=lB ha hj
    obtain ⟨z,hz,ez⟩:=lB ha hl'
    rw [e] at hne
    dsimp only at hne
    have hnm:nmF a g=⟨List.getD a i aS,List.getD a j aS,List.getD a l aS,g.fk⟩:=by rw [e]; rfl
    rw [hnm]
    refine ⟨?_,fun e=>hne.1 ?_,fun e=>hne.2.1 ?_,fun e=>hne.2.2 ?_⟩
    · unfold aF
      dsimp only
      rw [ex,ey,ez,hBo,ho,bF hx,bF hy,bF hz]
      rfl
    · rw [nl ha hi hj e]
    · rw [nl ha hj hl' e]
    · rw [nl ha hl' hi e]
  have hr0:(m.mf.map (nmF a)).map (bH B)=m.mf.map (bH m):=by
    rw [List.map_map]
    refine List.map_congr_left fun g hg => ?_
    obtain ⟨i,j,l,hi,hj,hl',e⟩:=dN (hin g hg)
    rw [e]
    show cw (a8 B (List.getD a i aS)) (a8 B (List.getD a j aS)) (a8 B (List.getD a l aS)) g.fk=cw (a8 m (i:Int)) (a8 m (j:Int)) (a8 m (l:Int)) g.fk
    rw [hrk i hi,hrk j hj,hrk l hl']
  obtain ⟨c,c1,c2,c3⟩:=uW m B hSB pf h2 100000 0 (m.mf.map (nmF a)) (by omega) (by omega) hc0 (List.Perm.of_eq hr0)
  rw [hBo] at c3
  rw [c3]
  refine ⟨⟨o,c⟩,rfl,⟨fun f hf => ?_,?_,?_⟩⟩
  · have := c1 f hf
    rw [hB] at this
    exact this
  · rw [hBo] at hsp
    exact hsp
  · rw [hB] at c2
    exact c2
end shuffled
theorem qW (m:Mesh) (ps pf:List UInt8):∃ b:Mesh,(am m&&(nle (List.length ps) 1000&&nle (List.length pf) 1000))=true→shuffled.f0 m ps pf=some ((.agg [(.ful 500001200),(.ful 500001201)]),[(500001200,(.rows .spot b.ms)),(500001201,(.rows .face b.mf))])∧Nm m b:=by
  cases h:(am m&&(nle (List.length ps) 1000&&nle (List.length pf) 1000)) with
  | false=>exact ⟨m,fun h=>by cases h⟩
  | true =>
    simp only [Bool.and_eq_true] at h
    obtain ⟨b,hb⟩:=shuffled.run_ex m ps pf h.1 (hC h.2.1) (hC h.2.2)
    exact ⟨b,fun _=>hb⟩
noncomputable def qX (m:Mesh) (ps pf:List UInt8):Mesh:=Classical.choose (qW m ps pf)
noncomputable def dh (m:Mesh) (ps pf:List UInt8):List Spot:=(qX m ps pf).ms
noncomputable def di (m:Mesh) (ps pf:List UInt8):List Face:=(qX m ps pf).mf
theorem my (m:Mesh) (ps pf:List UInt8) (h:(am m&&(nle (List.length ps) 1000&&nle (List.length pf) 1000))=true):shuffled.f0 m ps pf=some ((.agg [(.ful 500001200),(.ful 500001201)]),[(500001200,(.rows .spot (dh m ps pf))),(500001201,(.rows .face (di m ps pf)))])∧Nm m (qX m ps pf):=Classical.choose_spec (qW m ps pf) h
namespace shuffled
theorem f0_eq (m:Mesh) (ps pf:List UInt8) (h:(am m&&(nle (List.length ps) 1000&&nle (List.length pf) 1000))=true):f0 m ps pf=some ((.agg [(.ful 500001200),(.ful 500001201)]),[(500001200,(.rows .spot (dh m ps pf))),(500001201,(.rows .face (di m ps pf)))]):=(my m ps pf h).1
theorem ok:CtxOk Tryz.prog X:=bc tab spN dpN
theorem okM:MOk Tryz.prog X:=g8 _ (mpC (mW ok rcopy.spOk) mpN)
theorem spec (m:Mesh) (ps:List UInt8) (pf:List UInt8) (h:((am m&&(nle (List.length ps) 1000&&nle (List.length pf) 1000)))=true):MCall Tryz.prog E 29 [(.agg [(.lst .spot m.ms),(.lst .face m.mf)]),(.lst .u8 ps),(.lst .u8 pf)] [] (.agg [(.ful 500001200),(.ful 500001201)]) [(500001200,(.rows .spot (dh m ps pf))),(500001201,(.rows .face (di m ps pf)))] :=
  eJ ok okM Tryz.func29 (by kernel_rfl) (by kernel_rfl) (by kernel_rfl) (by show 3≤192; decide) ((run m ps pf).trans (f0_eq m ps pf h))
noncomputable def sp:MSp U El:=fun args hs k=>match args,hs with
  | [.agg [.lst .spot m_ms,.lst .face m_mf],.lst .u8 ps,.lst .u8 pf],[]=>chk true (chk ((am (⟨m_ms,m_mf⟩:Mesh)&&(nle (List.length ps) 1000&&nle (List.length pf) 1000))) (k (.agg [(.ful 500001200),(.ful 500001201)]) [(500001200,(.rows .spot (dh (⟨m_ms,m_mf⟩:Mesh) ps pf))),(500001201,(.rows .face (di (⟨m_ms,m_mf⟩:Mesh) ps pf)))]))
  | _,_=>none
theorem spOk:lU Tryz.prog E 29 sp:=⟨Tryz.call29,fun args hs k r h=>by
  unfold sp at h
  split at h
  · obtain ⟨_, hA⟩ := ae h
    obtain ⟨h1,hB⟩:=ae hA
    exact ⟨_,_,spec ⟨_,_⟩ _ _ h1,hB⟩
  · cases h⟩
theorem spDet:∀ args hs,∃ oo:Option (AV U El×az U El),∀ k,sp args hs k=oo.bind fun p=>k p.1 p.2:=fun args hs=>by
  unfold sp
  split
  · exact cN (cN ⟨some (_,_),fun _=>rfl⟩)
  · exact ⟨none,fun _=>rfl⟩
end shuffled
end Go.Proofs.YtnofdcckddfooaaGreatDoor
