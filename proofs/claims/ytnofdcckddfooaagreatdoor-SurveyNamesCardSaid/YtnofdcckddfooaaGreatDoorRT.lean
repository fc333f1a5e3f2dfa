/- Names do not matter: the law. -/
import Derived.Test.YtnofdcckddfooaaGreatDoorRS
namespace Go.Proofs.YtnofdcckddfooaaGreatDoor
set_option linter.unusedSectionVars false
set_option linter.unusedSimpArgs false
set_option linter.unusedVariables false
set_option maxRecDepth 100000
theorem rX {α:Type} {x y:α} {l:List α} (h:(x :: l).Perm (y :: l)):x=y:=by
  classical
  have:=h.countP_eq (fun z=>decide (z=x))
  rw [List.countP_cons,List.countP_cons] at this
  by_cases e:y=x
  · exact e.symm
  · simp [e] at this
theorem oP {α:Type} {l:List α} {i:Nat} (hi:i < l.length) {x:α} (h:(l.set i x).Perm l):x=l[i]:=by
  have e1:l=l.take i++l[i] :: l.drop (i+1):=by rw [← List.drop_eq_getElem_cons hi,List.take_append_drop]
  have e2:l.set i x=l.take i++x :: l.drop (i+1):=by rw [List.set_eq_take_append_cons_drop,if_pos hi]
  rw [e2] at h
  have h2:(l.take i++x :: l.drop (i+1)).Perm (l.take i++l[i] :: l.drop (i+1)):=h.trans (List.Perm.of_eq e1)
  exact rX ((List.perm_append_left_iff _).1 h2)
theorem iU (x:Int):(x != x)=false:=by simp
theorem qY {m b:Mesh} (h:cZ m b=true):aJ m=aJ b:=by
  unfold cZ at h
  cases hv:(am m&&am b) with
  | false=>rw [hv] at h; cases h
  | true=>rw [hv] at h; exact tp h
theorem qg {m b:Mesh} (hc:aJ b=aJ m) {i:Nat} (hi:i < b.mf.length) (x:Face) (hx:x.fk≠(b.mf[i]).fk):cZ m ⟨b.ms,b.mf.set i x⟩=false:=by
  cases h:cZ m ⟨b.ms,b.mf.set i x⟩ with
  | false=>rfl
  | true =>
    exfalso
    have h1:=qY h
    rw [← hc] at h1
    have h2:(aJ (⟨b.ms,b.mf.set i x⟩:Mesh)).mf=(aJ b).mf:=by rw [h1]
    have h3:((b.mf.set i x).map (bH b)).Perm (b.mf.map (bH b)):=by
      have p1:=fe (⟨b.ms,b.mf.set i x⟩:Mesh)
      rw [h2] at p1
      exact p1.symm.trans (fe b)
    rw [List.map_set] at h3
    have h4:=oP (by rw [List.length_map]; exact hi) h3
    rw [List.getElem_map] at h4
    obtain ⟨_,_,_,_,k1⟩:=iQ b x
    obtain ⟨_,_,_,_,k2⟩:=iQ b b.mf[i]
    rw [← h4,k1] at k2
    exact hx k2
theorem qh {m b:Mesh} (hc:aJ b=aJ m) {i:Nat} (hi:i < b.ms.length) (x:Spot) (hx:x.pz≠(b.ms[i]).pz):cZ m ⟨b.ms.set i x,b.mf⟩=false:=by
  cases h:cZ m ⟨b.ms.set i x,b.mf⟩ with
  | false=>rfl
  | true =>
    exfalso
    have h1:=qY h
    rw [← hc] at h1
    have h2:srt (⟨b.ms.set i x,b.mf⟩:Mesh)=srt b:=congrArg Mesh.ms h1.symm
    have h3:(b.ms.set i x).Perm b.ms:=by
      have p1:=de (⟨b.ms.set i x,b.mf⟩:Mesh)
      rw [h2] at p1
      exact p1.symm.trans (de b)
    exact hx (by rw [oP hi h3])
theorem cl {m:Mesh} (hv:am m=true):ap m=true:=by
  have hs:=cj hv
  unfold ap
  rw [cq (by omega),cq (by omega)]
  rfl
theorem uX (q:Nat) (h:q < 1000):IntKind.wrap .i64 (q:Int)=(q:Int):=gN (by omega) (by omega)
namespace lawNames
noncomputable def bd:Code:=(Tryz.f7.body).getD .skip
noncomputable def X:Ctx U El:=⟨E,tds,zeros,eqs,aN [(8,awake.sp),(9,large.sp),(12,rsameN.sp),(14,rvalid.sp),(25,CanonBP.sp),(26,same.sp),(30,total.sp)],100000,223,aG [],gy [(29,(rq shuffled.sp))]⟩
noncomputable def nmR:Norm U:=⟨[],[8],[],[],[],[],[]⟩
noncomputable def RR:af U El:=fun st=>aX nmR st (aQ [8] [])
noncomputable def nm1:Norm U:=⟨[],[1,2,3,4],[4],[],[],[],[(4,0,.spot),(4,1,.face)]⟩
noncomputable def nm2:Norm U:=⟨[],[3,4,9,10],[4,9,10,500000900,500000901,500001000,500001001],[],[(9,0,.spot,500000900),(9,1,.face,500000901),(10,0,.spot,500001000),(10,1,.face,500001001)],[],[(4,0,.spot),(4,1,.face)]⟩
noncomputable def nm3:Norm U:=⟨[],[3,4,9],[4,9,500000900,500000901],[],[(9,0,.spot,500000900),(9,1,.face,500000901)],[],[(4,0,.spot),(4,1,.face)]⟩
noncomputable def nm4:Norm U:=⟨[],[3,4,9],[4,9,500000900,500000901],[],[(9,0,.spot,500000900),(9,1,.face,500000901)],[],[(4,0,.spot),(4,1,.face)]⟩
noncomputable def nm5:Norm U:=⟨[],[],[],[],[],[],[]⟩
abbrev Y1:=(List UInt8)→(List UInt8)→Int→(List Spot)→(List Face)→R
abbrev Y2:=Int→(List Spot)→(List Face)→(List Spot)→(List Face)→(List Spot)→(List Face)→R
abbrev Y3:=Int→(List Spot)→(List Face)→(List Spot)→(List Face)→R
abbrev Y4:=Int→(List Spot)→(List Face)→(List Spot)→(List Face)→R
abbrev Y5:=R
noncomputable def fr0 (m:Mesh) (ps:List UInt8) (pf:List UInt8) (qt:Int):St U El:=⟨[(0,(.agg [(.lst .spot m.ms),(.lst .face m.mf)])),(1,(.lst .u8 ps)),(2,(.lst .u8 pf)),(3,(.int .u8 qt))],[]⟩
noncomputable def fr1 (gA:List UInt8) (fA:List UInt8) (dA:Int) (bA:List Spot) (cA:List Face):St U El:=⟨[(1,(.lst .u8 gA)),(2,(.lst .u8 fA)),(3,(.int .u8 dA)),(4,(.ptr 4 0))],[(4,(.box 0 [(.lst .spot bA),(.lst .face cA)]))]⟩
noncomputable def fr2 (dA:Int) (bA:List Spot) (cA:List Face) (eA:List Spot) (aA:List Face) (hA:List Spot) (iA:List Face):St U El:=⟨[(3,(.int .u8 dA)),(4,(.ptr 4 0)),(9,(.ptr 9 0)),(10,(.ptr 10 0))],[(4,(.box 0 [(.lst .spot bA),(.lst .face cA)])),(9,(.box 0 [(.ful 500000900),(.ful 500000901)])),(10,(.box 0 [(.ful 500001000),(.ful 500001001)])),(500000900,(.rows .spot eA)),(500000901,(.rows .face aA)),(500001000,(.rows .spot hA)),(500001001,(.rows .face iA))]⟩
noncomputable def fr3 (dA:Int) (bA:List Spot) (cA:List Face) (eA:List Spot) (aA:List Face):St U El:=⟨[(3,(.int .u8 dA)),(4,(.ptr 4 0)),(9,(.ptr 9 0))],[(4,(.box 0 [(.lst .spot bA),(.lst .face cA)])),(9,(.box 0 [(.ful 500000900),(.ful 500000901)])),(500000900,(.rows .spot eA)),(500000901,(.rows .face aA))]⟩
noncomputable def fr4 (dA:Int) (bA:List Spot) (cA:List Face) (eA:List Spot) (aA:List Face):St U El:=⟨[(3,(.int .u8 dA)),(4,(.ptr 4 0)),(9,(.ptr 9 0))],[(4,(.box 0 [(.lst .spot bA),(.lst .face cA)])),(9,(.box 0 [(.ful 500000900),(.ful 500000901)])),(500000900,(.rows .spot eA)),(500000901,(.rows .face aA))]⟩
noncomputable def fr5:St U El:=⟨[],[]⟩
noncomputable def sh0 (m:Mesh) (ps:List UInt8) (pf:List UInt8) (qt:Int) (k1:Y1):R :=
  aa (!(true)) (some ((.bool false),[])) (aa (gd m) (some ((.bool true),[])) (aa (ilt (60:Int) (Int.ofNat (List.length ps))) (some ((.bool true),[])) (aa (ilt (60:Int) (Int.ofNat (List.length pf))) (some ((.bool true),[])) (chk (ap m) (aa (!(am m)) (some ((.bool true),[])) (k1 ps pf qt m.ms m.mf))))))
noncomputable def sh1 (gA:List UInt8) (fA:List UInt8) (dA:Int) (bA:List Spot) (cA:List Face) (k2:Y2):R :=
  chk ((am (⟨bA,cA⟩:Mesh)&&(nle (List.length gA) 1000&&nle (List.length fA) 1000))) (chk (am (⟨bA,cA⟩:Mesh)) (chk (am (⟨(dh (⟨bA,cA⟩:Mesh) gA fA),(di (⟨bA,cA⟩:Mesh) gA fA)⟩:Mesh)) (chk ((ap (⟨(Mesh.ms (aJ (⟨bA,cA⟩:Mesh))),(Mesh.mf (aJ (⟨bA,cA⟩:Mesh)))⟩:Mesh)&&ap (⟨(Mesh.ms (aJ (⟨(dh (⟨bA,cA⟩:Mesh) gA fA),(di (⟨bA,cA⟩:Mesh) gA fA)⟩:Mesh))),(Mesh.mf (aJ (⟨(dh (⟨bA,cA⟩:Mesh) gA fA),(di (⟨bA,cA⟩:Mesh) gA fA)⟩:Mesh)))⟩:Mesh))) (aa (!(eB (⟨(Mesh.ms (aJ (⟨bA,cA⟩:Mesh))),(Mesh.mf (aJ (⟨bA,cA⟩:Mesh)))⟩:Mesh) (⟨(Mesh.ms (aJ (⟨(dh (⟨bA,cA⟩:Mesh) gA fA),(di (⟨bA,cA⟩:Mesh) gA fA)⟩:Mesh))),(Mesh.mf (aJ (⟨(dh (⟨bA,cA⟩:Mesh) gA fA),(di (⟨bA,cA⟩:Mesh) gA fA)⟩:Mesh)))⟩:Mesh))) (some ((.bool false),[])) (chk ((ap (⟨bA,cA⟩:Mesh)&&ap (⟨(dh (⟨bA,cA⟩:Mesh) gA fA),(di (⟨bA,cA⟩:Mesh) gA fA)⟩:Mesh))) (aa (!(cZ (⟨bA,cA⟩:Mesh) (⟨(dh (⟨bA,cA⟩:Mesh) gA fA),(di (⟨bA,cA⟩:Mesh) gA fA)⟩:Mesh))) (some ((.bool false),[])) (chk (ap (⟨(Mesh.ms (aJ (⟨bA,cA⟩:Mesh))),(Mesh.mf (aJ (⟨bA,cA⟩:Mesh)))⟩:Mesh)) (aa (!(am (⟨(Mesh.ms (aJ (⟨bA,cA⟩:Mesh))),(Mesh.mf (aJ (⟨bA,cA⟩:Mesh)))⟩:Mesh))) (some ((.bool false),[])) (aa ((Int.ofNat (List.length (Mesh.ms (aJ (⟨bA,cA⟩:Mesh))))) != (Int.ofNat (List.length bA))) (some ((.bool false),[])) (aa ((Int.ofNat (List.length (Mesh.mf (aJ (⟨bA,cA⟩:Mesh))))) != (Int.ofNat (List.length cA))) (some ((.bool false),[])) (k2 dA bA cA (dh (⟨bA,cA⟩:Mesh) gA fA) (di (⟨bA,cA⟩:Mesh) gA fA) (Mesh.ms (aJ (⟨bA,cA⟩:Mesh))) (Mesh.mf (aJ (⟨bA,cA⟩:Mesh))))))))))))))
noncomputable def sh2 (dA:Int) (bA:List Spot) (cA:List Face) (eA:List Spot) (aA:List Face) (hA:List Spot) (iA:List Face) (k3:Y3):R :=
  chk (am (⟨hA,iA⟩:Mesh)) (chk (ap (⟨bA,cA⟩:Mesh)) (chk (ap (⟨hA,iA⟩:Mesh)) (chk ((ap (⟨hA,iA⟩:Mesh)&&ap (⟨(Mesh.ms (aJ (⟨hA,iA⟩:Mesh))),(Mesh.mf (aJ (⟨hA,iA⟩:Mesh)))⟩:Mesh))) (aa (!(eB (⟨hA,iA⟩:Mesh) (⟨(Mesh.ms (aJ (⟨hA,iA⟩:Mesh))),(Mesh.mf (aJ (⟨hA,iA⟩:Mesh)))⟩:Mesh))) (some ((.bool false),[])) (aa ((lR (⟨bA,cA⟩:Mesh)) != (0:Int)) (some ((.bool false),[])) (aa ((lR (⟨hA,iA⟩:Mesh)) != (0:Int)) (some ((.bool false),[])) (aa ((dy (⟨bA,cA⟩:Mesh)) != (dy (⟨hA,iA⟩:Mesh))) (some ((.bool false),[])) (k3 dA bA cA eA aA))))))))
noncomputable def sh3 (dA:Int) (bA:List Spot) (cA:List Face) (eA:List Spot) (aA:List Face) (k4:Y4):R :=
  aa (ilt (0:Int) (Int.ofNat (List.length aA))) (chk ((Int.ofNat (List.length aA)) != 0) (chk (inb (Int.tmod (IntKind.wrap .i64 dA) (Int.ofNat (List.length aA))) (List.length aA)) (chk (nlt (Int.toNat (Int.tmod (IntKind.wrap .i64 dA) (Int.ofNat (List.length aA)))) (List.length aA)) (chk (inb (Int.tmod (IntKind.wrap .i64 dA) (Int.ofNat (List.length aA))) (List.length aA)) (chk (nlt (Int.toNat (Int.tmod (IntKind.wrap .i64 dA) (Int.ofNat (List.length aA)))) (List.length aA)&&true) (chk ((ap (⟨bA,cA⟩:Mesh)&&ap (⟨eA,(List.set aA (Int.toNat (Int.tmod (IntKind.wrap .i64 dA) (Int.ofNat (List.length aA)))) (⟨(List.getD aA (Int.toNat (Int.tmod (IntKind.wrap .i64 dA) (Int.ofNat (List.length aA)))) ab).fa,(List.getD aA (Int.toNat (Int.tmod (IntKind.wrap .i64 dA) (Int.ofNat (List.length aA)))) ab).fb,(List.getD aA (Int.toNat (Int.tmod (IntKind.wrap .i64 dA) (Int.ofNat (List.length aA)))) ab).fc,(Int.tmod (IntKind.wrap .i64 ((List.getD aA (Int.toNat (Int.tmod (IntKind.wrap .i64 dA) (Int.ofNat (List.length aA)))) ab).fk+(1:Int))) (16:Int))⟩:Face))⟩:Mesh))) (aa (cZ (⟨bA,cA⟩:Mesh) (⟨eA,(List.set aA (Int.toNat (Int.tmod (IntKind.wrap .i64 dA) (Int.ofNat (List.length aA)))) (⟨(List.getD aA (Int.toNat (Int.tmod (IntKind.wrap .i64 dA) (Int.ofNat (List.length aA)))) ab).fa,(List.getD aA (Int.toNat (Int.tmod (IntKind.wrap .i64 dA) (Int.ofNat (List.length aA)))) ab).fb,(List.getD aA (Int.toNat (Int.tmod (IntKind.wrap .i64 dA) (Int.ofNat (List.length aA)))) ab).fc,(Int.tmod (IntKind.wrap .i64 ((List.getD aA (Int.toNat (Int.tmod (IntKind.wrap .i64 dA) (Int.ofNat (List.length aA)))) ab).fk+(1:Int))) (16:Int))⟩:Face))⟩:Mesh)) (some ((.bool false),[])) (chk (inb (Int.tmod (IntKind.wrap .i64 dA) (Int.ofNat (List.length aA))) (List.length (List.set aA (Int.toNat (Int.tmod (IntKind.wrap .i64 dA) (Int.ofNat (List.length aA)))) (⟨(List.getD aA (Int.toNat (Int.tmod (IntKind.wrap .i64 dA) (Int.ofNat (List.length aA)))) ab).fa,(List.getD aA (Int.toNat (Int.tmod (IntKind.wrap .i64 dA) (Int.ofNat (List.length aA)))) ab).fb,(List.getD aA (Int.toNat (Int.tmod (IntKind.wrap .i64 dA) (Int.ofNat (List.length aA)))) ab).fc,(Int.tmod (IntKind.wrap .i64 ((List.getD aA (Int.toNat (Int.tmod (IntKind.wrap .i64 dA) (Int.ofNat (List.length aA)))) ab).fk+(1:Int))) (16:Int))⟩:Face)))) (chk (nlt (Int.toNat (Int.tmod (IntKind.wrap .i64 dA) (Int.ofNat (List.length aA)))) (List.length (List.set aA (Int.toNat (Int.tmod (IntKind.wrap .i64 dA) (Int.ofNat (List.length aA)))) (⟨(List.getD aA (Int.toNat (Int.tmod (IntKind.wrap .i64 dA) (Int.ofNat (List.length aA)))) ab).fa,(List.getD aA (Int.toNat (Int.tmod (IntKind.wrap .i64 dA) (Int.ofNat (List.length aA)))) ab).fb,(List.getD aA (Int.toNat (Int.tmod (IntKind.wrap .i64 dA) (Int.ofNat (List.length aA)))) ab).fc,(Int.tmod (IntKind.wrap .i64 ((List.getD aA (Int.toNat (Int.tmod (IntKind.wrap .i64 dA) (Int.ofNat (List.length aA)))) ab).fk+(1:Int))) (16:Int))⟩:Face)))) (chk (inb (Int.tmod (IntKind.wrap .i64 dA) (Int.ofNat (List.length aA))) (List.length (List.set aA (Int.toNat (Int.tmod (IntKind.wrap .i64 dA) (Int.ofNat (List.length aA)))) (⟨(List.getD aA (Int.toNat (Int.tmod (IntKind.wrap .i64 dA) (Int.ofNat (List.length aA)))) ab).fa,(List.getD aA (Int.toNat (Int.tmod (IntKind.wrap .i64 dA) (Int.ofNat (List.length aA)))) ab).fb,(List.getD aA (Int.toNat (Int.tmod (IntKind.wrap .i64 dA) (Int.ofNat (List.length aA)))) ab).fc,(Int.tmod (IntKind.wrap .i64 ((List.getD aA (Int.toNat (Int.tmod (IntKind.wrap .i64 dA) (Int.ofNat (List.length aA)))) ab).fk+(1:Int))) (16:Int))⟩:Face)))) (chk (nlt (Int.toNat (Int.tmod (IntKind.wrap .i64 dA) (Int.ofNat (List.length aA)))) (List.length (List.set aA (Int.toNat (Int.tmod (IntKind.wrap .i64 dA) (Int.ofNat (List.length aA)))) (⟨(List.getD aA (Int.toNat (Int.tmod (IntKind.wrap .i64 dA) (Int.ofNat (List.length aA)))) ab).fa,(List.getD aA (Int.toNat (Int.tmod (IntKind.wrap .i64 dA) (Int.ofNat (List.length aA)))) ab).fb,(List.getD aA (Int.toNat (Int.tmod (IntKind.wrap .i64 dA) (Int.ofNat (List.length aA)))) ab).fc,(Int.tmod (IntKind.wrap .i64 ((List.getD aA (Int.toNat (Int.tmod (IntKind.wrap .i64 dA) (Int.ofNat (List.length aA)))) ab).fk+(1:Int))) (16:Int))⟩:Face)))) (chk (inb (Int.tmod (IntKind.wrap .i64 dA) (Int.ofNat (List.length aA))) (List.length (List.set aA (Int.toNat (Int.tmod (IntKind.wrap .i64 dA) (Int.ofNat (List.length aA)))) (⟨(List.getD aA (Int.toNat (Int.tmod (IntKind.wrap .i64 dA) (Int.ofNat (List.length aA)))) ab).fa,(List.getD aA (Int.toNat (Int.tmod (IntKind.wrap .i64 dA) (Int.ofNat (List.length aA)))) ab).fb,(List.getD aA (Int.toNat (Int.tmod (IntKind.wrap .i64 dA) (Int.ofNat (List.length aA)))) ab).fc,(Int.tmod (IntKind.wrap .i64 ((List.getD aA (Int.toNat (Int.tmod (IntKind.wrap .i64 dA) (Int.ofNat (List.length aA)))) ab).fk+(1:Int))) (16:Int))⟩:Face)))) (chk (nlt (Int.toNat (Int.tmod (IntKind.wrap .i64 dA) (Int.ofNat (List.length aA)))) (List.length (List.set aA (Int.toNat (Int.tmod (IntKind.wrap .i64 dA) (Int.ofNat (List.length aA)))) (⟨(List.getD aA (Int.toNat (Int.tmod (IntKind.wrap .i64 dA) (Int.ofNat (List.length aA)))) ab).fa,(List.getD aA (Int.toNat (Int.tmod (IntKind.wrap .i64 dA) (Int.ofNat (List.length aA)))) ab).fb,(List.getD aA (Int.toNat (Int.tmod (IntKind.wrap .i64 dA) (Int.ofNat (List.length aA)))) ab).fc,(Int.tmod (IntKind.wrap .i64 ((List.getD aA (Int.toNat (Int.tmod (IntKind.wrap .i64 dA) (Int.ofNat (List.length aA)))) ab).fk+(1:Int))) (16:Int))⟩:Face)))) (chk (inb (Int.tmod (IntKind.wrap .i64 dA) (Int.ofNat (List.length aA))) (List.length (List.set aA (Int.toNat (Int.tmod (IntKind.wrap .i64 dA) (Int.ofNat (List.length aA)))) (⟨(List.getD aA (Int.toNat (Int.tmod (IntKind.wrap .i64 dA) (Int.ofNat (List.length aA)))) ab).fa,(List.getD aA (Int.toNat (Int.tmod (IntKind.wrap .i64 dA) (Int.ofNat (List.length aA)))) ab).fb,(List.getD aA (Int.toNat (Int.tmod (IntKind.wrap .i64 dA) (Int.ofNat (List.length aA)))) ab).fc,(Int.tmod (IntKind.wrap .i64 ((List.getD aA (Int.toNat (Int.tmod (IntKind.wrap .i64 dA) (Int.ofNat (List.length aA)))) ab).fk+(1:Int))) (16:Int))⟩:Face)))) (chk (nlt (Int.toNat (Int.tmod (IntKind.wrap .i64 dA) (Int.ofNat (List.length aA)))) (List.length (List.set aA (Int.toNat (Int.tmod (IntKind.wrap .i64 dA) (Int.ofNat (List.length aA)))) (⟨(List.getD aA (Int.toNat (Int.tmod (IntKind.wrap .i64 dA) (Int.ofNat (List.length aA)))) ab).fa,(List.getD aA (Int.toNat (Int.tmod (IntKind.wrap .i64 dA) (Int.ofNat (List.length aA)))) ab).fb,(List.getD aA (Int.toNat (Int.tmod (IntKind.wrap .i64 dA) (Int.ofNat (List.length aA)))) ab).fc,(Int.tmod (IntKind.wrap .i64 ((List.getD aA (Int.toNat (Int.tmod (IntKind.wrap .i64 dA) (Int.ofNat (List.length aA)))) ab).fk+(1:Int))) (16:Int))⟩:Face)))) (chk (inb (Int.tmod (IntKind.wrap .i64 dA) (Int.ofNat (List.length aA))) (List.length (List.set aA (Int.toNat (Int.tmod (IntKind.wrap .i64 dA) (Int.ofNat (List.length aA)))) (⟨(List.getD aA (Int.toNat (Int.tmod (IntKind.wrap .i64 dA) (Int.ofNat (List.length aA)))) ab).fa,(List.getD aA (Int.toNat (Int.tmod (IntKind.wrap .i64 dA) (Int.ofNat (List.length aA)))) ab).fb,(List.getD aA (Int.toNat (Int.tmod (IntKind.wrap .i64 dA) (Int.ofNat (List.length aA)))) ab).fc,(Int.tmod (IntKind.wrap .i64 ((List.getD aA (Int.toNat (Int.tmod (IntKind.wrap .i64 dA) (Int.ofNat (List.length aA)))) ab).fk+(1:Int))) (16:Int))⟩:Face)))) (chk (nlt (Int.toNat (Int.tmod (IntKind.wrap .i64 dA) (Int.ofNat (List.length aA)))) (List.length (List.set aA (Int.toNat (Int.tmod (IntKind.wrap .i64 dA) (Int.ofNat (List.length aA)))) (⟨(List.getD aA (Int.toNat (Int.tmod (IntKind.wrap .i64 dA) (Int.ofNat (List.length aA)))) ab).fa,(List.getD aA (Int.toNat (Int.tmod (IntKind.wrap .i64 dA) (Int.ofNat (List.length aA)))) ab).fb,(List.getD aA (Int.toNat (Int.tmod (IntKind.wrap .i64 dA) (Int.ofNat (List.length aA)))) ab).fc,(Int.tmod (IntKind.wrap .i64 ((List.getD aA (Int.toNat (Int.tmod (IntKind.wrap .i64 dA) (Int.ofNat (List.length aA)))) ab).fk+(1:Int))) (16:Int))⟩:Face)))&&true) (k4 dA bA cA eA (List.set (List.set aA (Int.toNat (Int.tmod (IntKind.wrap .i64 dA) (Int.ofNat (List.length aA)))) (⟨(List.getD aA (Int.toNat (Int.tmod (IntKind.wrap .i64 dA) (Int.ofNat (List.length aA)))) ab).fa,(List.getD aA (Int.toNat (Int.tmod (IntKind.wrap .i64 dA) (Int.ofNat (List.length aA)))) ab).fb,(List.getD aA (Int.toNat (Int.tmod (IntKind.wrap .i64 dA) (Int.ofNat (List.length aA)))) ab).fc,(Int.tmod (IntKind.wrap .i64 ((List.getD aA (Int.toNat (Int.tmod (IntKind.wrap .i64 dA) (Int.ofNat (List.length aA)))) ab).fk+(1:Int))) (16:Int))⟩:Face)) (Int.toNat (Int.tmod (IntKind.wrap .i64 dA) (Int.ofNat (List.length aA)))) (⟨(List.getD (List.set aA (Int.toNat (Int.tmod (IntKind.wrap .i64 dA) (Int.ofNat (List.length aA)))) (⟨(List.getD aA (Int.toNat (Int.tmod (IntKind.wrap .i64 dA) (Int.ofNat (List.length aA)))) ab).fa,(List.getD aA (Int.toNat (Int.tmod (IntKind.wrap .i64 dA) (Int.ofNat (List.length aA)))) ab).fb,(List.getD aA (Int.toNat (Int.tmod (IntKind.wrap .i64 dA) (Int.ofNat (List.length aA)))) ab).fc,(Int.tmod (IntKind.wrap .i64 ((List.getD aA (Int.toNat (Int.tmod (IntKind.wrap .i64 dA) (Int.ofNat (List.length aA)))) ab).fk+(1:Int))) (16:Int))⟩:Face)) (Int.toNat (Int.tmod (IntKind.wrap .i64 dA) (Int.ofNat (List.length aA)))) ab).fa,(List.getD (List.set aA (Int.toNat (Int.tmod (IntKind.wrap .i64 dA) (Int.ofNat (List.length aA)))) (⟨(List.getD aA (Int.toNat (Int.tmod (IntKind.wrap .i64 dA) (Int.ofNat (List.length aA)))) ab).fa,(List.getD aA (Int.toNat (Int.tmod (IntKind.wrap .i64 dA) (Int.ofNat (List.length aA)))) ab).fb,(List.getD aA (Int.toNat (Int.tmod (IntKind.wrap .i64 dA) (Int.ofNat (List.length aA)))) ab).fc,(Int.tmod (IntKind.wrap .i64 ((List.getD aA (Int.toNat (Int.tmod (IntKind.wrap .i64 dA) (Int.ofNat (List.length aA)))) ab).fk+(1:Int))) (16:Int))⟩:Face)) (Int.toNat (Int.tmod (IntKind.wrap .i64 dA) (Int.ofNat (List.length aA)))) ab).fb,(List.getD (List.set aA (Int.toNat (Int.tmod (IntKind.wrap .i64 dA) (Int.ofNat (List.length aA)))) (⟨(List.getD aA (Int.toNat (Int.tmod (IntKind.wrap .i64 dA) (Int.ofNat (List.length aA)))) ab).fa,(List.getD aA (Int.toNat (Int.tmod (IntKind.wrap .i64 dA) (Int.ofNat (List.length aA)))) ab).fb,(List.getD aA (Int.toNat (Int.tmod (IntKind.wrap .i64 dA) (Int.ofNat (List.length aA)))) ab).fc,(Int.tmod (IntKind.wrap .i64 ((List.getD aA (Int.toNat (Int.tmod (IntKind.wrap .i64 dA) (Int.ofNat (List.length aA)))) ab).fk+(1:Int))) (16:Int))⟩:Face)) (Int.toNat (Int.tmod (IntKind.wrap .i64 dA) (Int.ofNat (List.length aA)))) ab).fc,(Int.tmod (IntKind.wrap .i64 ((IntKind.wrap .i64 ((List.getD (List.set aA (Int.toNat (Int.tmod (IntKind.wrap .i64 dA) (Int.ofNat (List.length aA)))) (⟨(List.getD aA (Int.toNat (Int.tmod (IntKind.wrap .i64 dA) (Int.ofNat (List.length aA)))) ab).fa,(List.getD aA (Int.toNat (Int.tmod (IntKind.wrap .i64 dA) (Int.ofNat (List.length aA)))) ab).fb,(List.getD aA (Int.toNat (Int.tmod (IntKind.wrap .i64 dA) (Int.ofNat (List.length aA)))) ab).fc,(Int.tmod (IntKind.wrap .i64 ((List.getD aA (Int.toNat (Int.tmod (IntKind.wrap .i64 dA) (Int.ofNat (List.length aA)))) ab).fk+(1:Int))) (16:Int))⟩:Face)) (Int.toNat (Int.tmod (IntKind.wrap .i64 dA) (Int.ofNat (List.length aA)))) ab).fk+(16:Int))) - (1:Int))) (16:Int))⟩:Face)))))))))))))))))))) (k4 dA bA cA eA aA)
noncomputable def sh4 (dA:Int) (bA:List Spot) (cA:List Face) (eA:List Spot) (aA:List Face) (k5:Y5):R :=
  aa (ilt (0:Int) (Int.ofNat (List.length eA))) (chk ((Int.ofNat (List.length eA)) != 0) (chk (inb (Int.tmod (IntKind.wrap .i64 dA) (Int.ofNat (List.length eA))) (List.length eA)) (chk (nlt (Int.toNat (Int.tmod (IntKind.wrap .i64 dA) (Int.ofNat (List.length eA)))) (List.length eA)) (aa (ilt ((List.getD eA (Int.toNat (Int.tmod (IntKind.wrap .i64 dA) (Int.ofNat (List.length eA)))) d_spot).pz) (4194304:Int)) (chk ((Int.ofNat (List.length eA)) != 0) (chk (inb (Int.tmod (IntKind.wrap .i64 dA) (Int.ofNat (List.length eA))) (List.length eA)) (chk (nlt (Int.toNat (Int.tmod (IntKind.wrap .i64 dA) (Int.ofNat (List.length eA)))) (List.length eA)) (chk (inb (Int.tmod (IntKind.wrap .i64 dA) (Int.ofNat (List.length eA))) (List.length eA)) (chk (nlt (Int.toNat (Int.tmod (IntKind.wrap .i64 dA) (Int.ofNat (List.length eA)))) (List.length eA)&&true) (chk ((ap (⟨bA,cA⟩:Mesh)&&ap (⟨(List.set eA (Int.toNat (Int.tmod (IntKind.wrap .i64 dA) (Int.ofNat (List.length eA)))) (⟨(List.getD eA (Int.toNat (Int.tmod (IntKind.wrap .i64 dA) (Int.ofNat (List.length eA)))) d_spot).px,(List.getD eA (Int.toNat (Int.tmod (IntKind.wrap .i64 dA) (Int.ofNat (List.length eA)))) d_spot).py,(IntKind.wrap .i64 ((List.getD eA (Int.toNat (Int.tmod (IntKind.wrap .i64 dA) (Int.ofNat (List.length eA)))) d_spot).pz+(1:Int)))⟩:Spot)),aA⟩:Mesh))) (some ((.bool (!(cZ (⟨bA,cA⟩:Mesh) (⟨(List.set eA (Int.toNat (Int.tmod (IntKind.wrap .i64 dA) (Int.ofNat (List.length eA)))) (⟨(List.getD eA (Int.toNat (Int.tmod (IntKind.wrap .i64 dA) (Int.ofNat (List.length eA)))) d_spot).px,(List.getD eA (Int.toNat (Int.tmod (IntKind.wrap .i64 dA) (Int.ofNat (List.length eA)))) d_spot).py,(IntKind.wrap .i64 ((List.getD eA (Int.toNat (Int.tmod (IntKind.wrap .i64 dA) (Int.ofNat (List.length eA)))) d_spot).pz+(1:Int)))⟩:Spot)),aA⟩:Mesh)))),[])))))))) (k5))))) (k5)
noncomputable def sh5:R :=
  some ((.bool true),[])
noncomputable def ct1:af U El:=fun st=>aj X (cdp [1,1,1] bd) (.seq none .d (.seq none .d (.seq none .d (.seq (some nm2) .d (.seq none .d (.seq none .d (.seq none .d (.seq (some nm3) .d (.seq (some nm4) (.seq none .d (.seq none .d (.cond (.seq none .d (.seq none (.region [(13,500000901)]) (.seq none .d (.region [(32,500000901)])))) .d))) (.seq (some nm5) (.seq none .d (.seq none .d (.cond (.seq none (.region [(12,500000900)]) .d) .d))) .d)))))))))) st RR (fun _ _=>none) RR
noncomputable def ct2:af U El:=fun st=>aj X (cdp [1,1,1,1,1,1,1] bd) (.seq none .d (.seq none .d (.seq none .d (.seq (some nm3) .d (.seq (some nm4) (.seq none .d (.seq none .d (.cond (.seq none .d (.seq none (.region [(13,500000901)]) (.seq none .d (.region [(32,500000901)])))) .d))) (.seq (some nm5) (.seq none .d (.seq none .d (.cond (.seq none (.region [(12,500000900)]) .d) .d))) .d)))))) st RR (fun _ _=>none) RR
noncomputable def ct3:af U El:=fun st=>aj X (cdp [1,1,1,1,1,1,1,1,1,1,1] bd) (.seq (some nm4) (.seq none .d (.seq none .d (.cond (.seq none .d (.seq none (.region [(13,500000901)]) (.seq none .d (.region [(32,500000901)])))) .d))) (.seq (some nm5) (.seq none .d (.seq none .d (.cond (.seq none (.region [(12,500000900)]) .d) .d))) .d)) st RR (fun _ _=>none) RR
noncomputable def ct4:af U El:=fun st=>aj X (cdp [1,1,1,1,1,1,1,1,1,1,1,1] bd) (.seq (some nm5) (.seq none .d (.seq none .d (.cond (.seq none (.region [(12,500000900)]) .d) .d))) .d) st RR (fun _ _=>none) RR
noncomputable def ct5:af U El:=fun st=>aj X (cdp [1,1,1,1,1,1,1,1,1,1,1,1,1] bd) .d st RR (fun _ _=>none) RR
theorem P0 (m ps pf qt):aj X (cdp [] bd) (.seq none .d (.seq none .d (.seq (some nm1) .d (.seq none .d (.seq none .d (.seq none .d (.seq (some nm2) .d (.seq none .d (.seq none .d (.seq none .d (.seq (some nm3) .d (.seq (some nm4) (.seq none .d (.seq none .d (.cond (.seq none .d (.seq none (.region [(13,500000901)]) (.seq none .d (.region [(32,500000901)])))) .d))) (.seq (some nm5) (.seq none .d (.seq none .d (.cond (.seq none (.region [(12,500000900)]) .d) .d))) .d))))))))))))) (fr0 m ps pf qt) RR (fun _ _=>none) RR=sh0 m ps pf qt (fun y0 y1 y2 y3 y4=>(hid ct1) (fr1 y0 y1 y2 y3 y4)):=by kernel_rfl
theorem P1 (gA fA dA bA cA):ct1 (fr1 gA fA dA bA cA)=sh1 gA fA dA bA cA (fun y0 y1 y2 y3 y4 y5 y6=>(hid ct2) (fr2 y0 y1 y2 y3 y4 y5 y6)):=by kernel_rfl
theorem P2 (dA bA cA eA aA hA iA):ct2 (fr2 dA bA cA eA aA hA iA)=sh2 dA bA cA eA aA hA iA (fun y0 y1 y2 y3 y4=>(hid ct3) (fr3 y0 y1 y2 y3 y4)):=by kernel_rfl
theorem P3 (dA bA cA eA aA):ct3 (fr3 dA bA cA eA aA)=sh3 dA bA cA eA aA (fun y0 y1 y2 y3 y4=>(hid ct4) (fr4 y0 y1 y2 y3 y4)):=by kernel_rfl
theorem P4 (dA bA cA eA aA):ct4 (fr4 dA bA cA eA aA)=sh4 dA bA cA eA aA ((hid ct5) (fr5)):=by kernel_rfl
theorem P5:ct5 (fr5)=sh5:=by kernel_rfl
noncomputable def f5:R:=sh5
noncomputable def f4 (dA:Int) (bA:List Spot) (cA:List Face) (eA:List Spot) (aA:List Face):R:=sh4 dA bA cA eA aA f5
noncomputable def f3 (dA:Int) (bA:List Spot) (cA:List Face) (eA:List Spot) (aA:List Face):R:=sh3 dA bA cA eA aA f4
noncomputable def f2 (dA:Int) (bA:List Spot) (cA:List Face) (eA:List Spot) (aA:List Face) (hA:List Spot) (iA:List Face):R:=sh2 dA bA cA eA aA hA iA f3
noncomputable def f1 (gA:List UInt8) (fA:List UInt8) (dA:Int) (bA:List Spot) (cA:List Face):R:=sh1 gA fA dA bA cA f2
noncomputable def f0 (m:Mesh) (ps:List UInt8) (pf:List UInt8) (qt:Int):R:=sh0 m ps pf qt f1
theorem T5:(hid ct5) (fr5)=f5:=by
  refine (congrFun (al _) _).trans <| (P5).trans ?_
  show _=sh5
  rfl
theorem T4 (dA bA cA eA aA):(hid ct4) (fr4 dA bA cA eA aA)=f4 dA bA cA eA aA:=by
  refine (congrFun (al _) _).trans <| (P4 dA bA cA eA aA).trans ?_
  show _=sh4 dA bA cA eA aA f5
  simp only [T5]
theorem T3 (dA bA cA eA aA):(hid ct3) (fr3 dA bA cA eA aA)=f3 dA bA cA eA aA:=by
  refine (congrFun (al _) _).trans <| (P3 dA bA cA eA aA).trans ?_
  show _=sh3 dA bA cA eA aA f4
  simp only [T4]
theorem T2 (dA bA cA eA aA hA iA):(hid ct2) (fr2 dA bA cA eA aA hA iA)=f2 dA bA cA eA aA hA iA:=by
  refine (congrFun (al _) _).trans <| (P2 dA bA cA eA aA hA iA).trans ?_
  show _=sh2 dA bA cA eA aA hA iA f3
  simp only [T3]
theorem T1 (gA fA dA bA cA):(hid ct1) (fr1 gA fA dA bA cA)=f1 gA fA dA bA cA:=by
  refine (congrFun (al _) _).trans <| (P1 gA fA dA bA cA).trans ?_
  show _=sh1 gA fA dA bA cA f2
  simp only [T2]
theorem T0 (m ps pf qt):aj X bd (.seq none .d (.seq none .d (.seq (some nm1) .d (.seq none .d (.seq none .d (.seq none .d (.seq (some nm2) .d (.seq none .d (.seq none .d (.seq none .d (.seq (some nm3) .d (.seq (some nm4) (.seq none .d (.seq none .d (.cond (.seq none .d (.seq none (.region [(13,500000901)]) (.seq none .d (.region [(32,500000901)])))) .d))) (.seq (some nm5) (.seq none .d (.seq none .d (.cond (.seq none (.region [(12,500000900)]) .d) .d))) .d))))))))))))) (fr0 m ps pf qt) RR (fun _ _=>none) RR=f0 m ps pf qt:=by
  refine (P0 m ps pf qt).trans ?_
  show _=sh0 m ps pf qt f1
  simp only [T1]
theorem run (m ps pf qt):bl X bd (.seq none .d (.seq none .d (.seq (some nm1) .d (.seq none .d (.seq none .d (.seq none .d (.seq (some nm2) .d (.seq none .d (.seq none .d (.seq none .d (.seq (some nm3) .d (.seq (some nm4) (.seq none .d (.seq none .d (.cond (.seq none .d (.seq none (.region [(13,500000901)]) (.seq none .d (.region [(32,500000901)])))) .d))) (.seq (some nm5) (.seq none .d (.seq none .d (.cond (.seq none (.region [(12,500000900)]) .d) .d))) .d))))))))))))) nmR [8] [] [(.agg [(.lst .spot m.ms),(.lst .face m.mf)]),(.lst .u8 ps),(.lst .u8 pf),(.int .u8 qt)]=f0 m ps pf qt:=T0 m ps pf qt
theorem last (m b : Mesh) (q : Nat) (hq : q < 256) (hv : am m = true) (hvb : am b = true) (hc : aJ b = aJ m) : f4 (q : Int) m.ms m.mf b.ms b.mf = aI true := by
  show sh4 (q:Int) m.ms m.mf b.ms b.mf f5=_
  unfold sh4
  by_cases h0:0 < b.ms.length
  · rw [bW (by simp; omega), bx, uX q (by omega)]
    have p:=Nat.mod_lt q h0
    have hr:=((bT b).1 hvb).1.right _ (List.getElem_mem p)
    simp only [mw,ne0 h0,aw,bF p,en p,aL,Bool.and_true,aE p]
    by_cases hz:(b.ms[q%b.ms.length]).pz < 4194304
    · rw [bW hz, bx]
      have hlo : -4194304≤(b.ms[q%b.ms.length]).pz:=by
        simp only [aW,Bool.and_eq_true] at hr
        exact g9 hr.2.1
      rw [gN (by omega) (by omega)]
      have hs:ap (⟨b.ms.set (q%b.ms.length) ⟨(b.ms[q%b.ms.length]).px,(b.ms[q%b.ms.length]).py,(b.ms[q%b.ms.length]).pz+1⟩,b.mf⟩:Mesh)=true:=by
        have:=cl hvb
        unfold ap at this ⊢
        rw [List.length_set]
        exact this
      rw [hs,show ap (⟨m.ms,m.mf⟩:Mesh)=true from cl hv,Bool.and_self,aL]
      rw [show cZ (⟨m.ms,m.mf⟩:Mesh) ⟨b.ms.set (q%b.ms.length) ⟨(b.ms[q%b.ms.length]).px,(b.ms[q%b.ms.length]).py,(b.ms[q%b.ms.length]).pz+1⟩,b.mf⟩=false from qh (m:=m) hc p _ (by dsimp only; omega)]
      rfl
    · rw [bQ hz]
      rfl
  · rw [qV h0]
    rfl
theorem qi {k:Int} (h0:0≤k) (h1:k < 16):∃ k1:Int,Int.tmod (IntKind.wrap .i64 (k+1)) 16=k1∧k1≠k∧Int.tmod (IntKind.wrap .i64 (IntKind.wrap .i64 (k1+16) - 1)) 16=k:=by
  obtain ⟨n,rfl⟩:=Int.eq_ofNat_of_zero_le h0
  have e1:Int.tmod (IntKind.wrap .i64 ((n:Int)+1)) 16=(((n+1)%16:Nat):Int):=by
    rw [bw n (by omega)]
    exact mw (n+1) 16
  refine ⟨_,e1,by omega,?_⟩
  have e2:IntKind.wrap .i64 ((((n+1)%16:Nat):Int)+16)=(((n+1)%16+16:Nat):Int):=by
    rw [gN (by omega) (by omega)]
    omega
  rw [e2,show IntKind.wrap .i64 ((((n+1)%16+16:Nat):Int) - 1)=(((n+1)%16+15:Nat):Int) by rw [gN (by omega) (by omega)]; omega]
  refine (mw ((n+1)%16+15) 16).trans ?_
  omega
theorem wh (m b:Mesh) (q:Nat) (hq:q < 256) (hv:am m=true) (hvb:am b=true) (hc:aJ b=aJ m):f3 (q:Int) m.ms m.mf b.ms b.mf=aI true:=by
  show sh3 (q:Int) m.ms m.mf b.ms b.mf f4=_
  unfold sh3
  by_cases h0:0 < b.mf.length
  · rw [bW (by simp; omega), bx, uX q (by omega)]
    have p:=Nat.mod_lt q h0
    have hg:=(((bT b).1 hvb).2.1 _ (List.getElem_mem p)).1
    simp only [co,Bool.and_eq_true] at hg
    obtain ⟨k1,e1,e2,e3⟩:=qi (g9 hg.2.2.2.1) (wn hg.2.2.2.2)
    have g:∀ X:Face,List.getD (List.set b.mf (q%b.mf.length) X) (q%b.mf.length) ab=X:=fun X=>by
      rw [aE (by rw [List.length_set]; exact p),List.getElem_set_self]
    simp only [mw,ne0 h0,aw,List.length_set,bF p,en p,aL,Bool.and_true,aE p,e1,g,e3,List.set_set]
    rw [show (⟨(b.mf[q%b.mf.length]).fa,(b.mf[q%b.mf.length]).fb,(b.mf[q%b.mf.length]).fc,(b.mf[q%b.mf.length]).fk⟩:Face)=b.mf[q%b.mf.length] from rfl,List.set_getElem_self]
    have hs:ap (⟨b.ms,b.mf.set (q%b.mf.length) ⟨(b.mf[q%b.mf.length]).fa,(b.mf[q%b.mf.length]).fb,(b.mf[q%b.mf.length]).fc,k1⟩⟩:Mesh)=true:=by
      have:=cl hvb
      unfold ap at this ⊢
      rw [List.length_set]
      exact this
    rw [hs,show ap (⟨m.ms,m.mf⟩:Mesh)=true from cl hv,Bool.and_self,aL]
    rw [show cZ (⟨m.ms,m.mf⟩:Mesh) ⟨b.ms,b.mf.set (q%b.mf.length) ⟨(b.mf[q%b.mf.length]).fa,(b.mf[q%b.mf.length]).fb,(b.mf[q%b.mf.length]).fc,k1⟩⟩=false from qg (m:=m) hc p _ e2,bq]
    exact last m b q hq hv hvb hc
  · rw [qV h0]
    exact last m b q hq hv hvb hc
theorem vL (m b c:Mesh) (q:Int) (hv:am m=true) (hc:c=aJ m) (h3:f3 q m.ms m.mf b.ms b.mf=aI true):f2 q m.ms m.mf b.ms b.mf c.ms c.mf=aI true:=by
  show (chk (am c) (chk (ap m) (chk (ap c) (chk (ap c&&ap (aJ c)) (aa (!(eB c (aJ c))) (aI false) (aa (lR m != (0:Int)) (aI false) (aa (lR c != (0:Int)) (aI false) (aa (dy m != dy c) (aI false) (f3 q m.ms m.mf b.ms b.mf)))))))))=_
  have vc:am c=true:=by rw [hc]; exact ff hv
  have cc:aJ c=c:=by rw [hc]; exact uL hv
  have tc:dy c=dy m:=by rw [hc]; exact rW hv
  have a0:∀ x:Mesh,am x=true→lR x=0:=fun x h=>by unfold lR; rw [h]; rfl
  rw [cc,vc,cl hv,cl vc,fD,a0 m hv,a0 c vc,tc,iU,iU,h3]
  rfl
theorem f0_eq (m:Mesh) (ps pf:List UInt8) (qt:Int) (h:Lit.wf (.int .u8 qt)=true):f0 m ps pf qt=aI true:=by
  show sh0 m ps pf qt f1=_
  unfold sh0
  cases hl:gd m with
  | true=>rfl
  | false =>
  cases h1:ilt (60:Int) (Int.ofNat ps.length) with
  | true=>rfl
  | false =>
  cases h2:ilt (60:Int) (Int.ofNat pf.length) with
  | true=>rfl
  | false =>
  rw [pO hl]
  cases hv:am m with
  | false=>rfl
  | true =>
  have l1:=ol h1; have l2:=ol h2
  have hp1:ps.length≤1000:=by simp at l1; omega
  have hp2:pf.length≤1000:=by simp at l2; omega
  have hw:∃ q:Nat,q < 256∧qt=(q:Int):=by
    simp [Lit.wf,IntKind.min,IntKind.max,IntKind.signed,IntKind.bits] at h
    exact ⟨qt.toNat,by omega,by omega⟩
  obtain ⟨q,hq,rfl⟩:=hw
  have hpre:(am m&&(nle (List.length ps) 1000&&nle (List.length pf) 1000))=true:=by rw [hv,cq hp1,cq hp2]; rfl
  have hN:=(my m ps pf hpre).2
  obtain ⟨b,hb⟩:∃ b,b=qX m ps pf:=⟨_,rfl⟩
  rw [← hb] at hN
  obtain ⟨hvb,hcb⟩:=tP hv hN.ins hN.spots hN.faces
  have e0:dh m ps pf=b.ms:=by rw [hb]; rfl
  have e1:di m ps pf=b.mf:=by rw [hb]; rfl
  show (chk (am m&&(nle (List.length ps) 1000&&nle (List.length pf) 1000)) (chk (am m) (chk (am (⟨dh m ps pf,di m ps pf⟩:Mesh)) (chk (ap (aJ m)&&ap (aJ (⟨dh m ps pf,di m ps pf⟩:Mesh))) (aa (!(eB (aJ m) (aJ (⟨dh m ps pf,di m ps pf⟩:Mesh)))) (aI false) (chk (ap m&&ap (⟨dh m ps pf,di m ps pf⟩:Mesh)) (aa (!(cZ m (⟨dh m ps pf,di m ps pf⟩:Mesh))) (aI false) (chk (ap (aJ m)) (aa (!(am (aJ m))) (aI false) (aa (Int.ofNat (List.length (aJ m).ms) != Int.ofNat (List.length m.ms)) (aI false) (aa (Int.ofNat (List.length (aJ m).mf) != Int.ofNat (List.length m.mf)) (aI false) (f2 (q:Int) m.ms m.mf (dh m ps pf) (di m ps pf) (aJ m).ms (aJ m).mf))))))))))))=_
  rw [hpre,e0,e1,hv]
  have hsm:cZ m b=true:=by
    unfold cZ
    rw [hv,hvb,hcb]
    exact fD _
  show (chk true (chk true (chk (am b) (chk (ap (aJ m)&&ap (aJ b)) (aa (!(eB (aJ m) (aJ b))) (aI false) (chk (ap m&&ap b) (aa (!(cZ m b)) (aI false) (chk (ap (aJ m)) (aa (!(am (aJ m))) (aI false) (aa (Int.ofNat (List.length (aJ m).ms) != Int.ofNat (List.length m.ms)) (aI false) (aa (Int.ofNat (List.length (aJ m).mf) != Int.ofNat (List.length m.mf)) (aI false) (f2 (q:Int) m.ms m.mf b.ms b.mf (aJ m).ms (aJ m).mf))))))))))))=_
  rw [hvb,hcb,hsm,cl (ff hv),cl hv,cl hvb,ff hv,fD,show (aJ m).ms.length=m.ms.length from ng m,qU m,iU,iU,vL m b (aJ m) (q:Int) hv rfl (wh m b q hq hv hvb hcb)]
  rfl
theorem ok:CtxOk Tryz.prog X:=bc tab (spC awake.spOk (spC large.spOk (spC rsameN.spOk (spC rvalid.spOk (spC CanonBP.spOk (spC same.spOk (spC total.spOk spN))))))) dpN
theorem okM:MOk Tryz.prog X:=g8 _ (mpC (mW ok shuffled.spOk) mpN)
theorem spec (m:Mesh) (ps:List UInt8) (pf:List UInt8) (qt:Int) (h:(Lit.wf (.int .u8 qt))=true):ar Tryz.prog E 7 [(.agg [(.lst .spot m.ms),(.lst .face m.mf)]),(.lst .u8 ps),(.lst .u8 pf),(.int .u8 qt)] (.bool (true)) [] :=
  aq ok okM Tryz.call7 Tryz.func7 (by kernel_rfl) (by kernel_rfl) (by kernel_rfl) (by show 4≤223; decide) (by decide) (by rfl) ((run m ps pf qt).trans (f0_eq m ps pf qt h))
noncomputable def sp:Sp U El:=fun args k=>match args with
  | [.agg [.lst .spot m_ms,.lst .face m_mf],.lst .u8 ps,.lst .u8 pf,.int .u8 qt]=>chk (Lit.wf (.int .u8 qt)) (k (.bool (true)) [])
  | _=>none
theorem spOk:SpOk Tryz.prog E 7 sp where
  det:=fun vs=>by
    unfold sp
    split
    · exact bK _ _ _
    · exact ⟨none,fun _=>rfl⟩
  ok:=fun vs k r h=>by
    unfold sp at h
    split at h
    · obtain ⟨h1, h2⟩ := ae h
      exact ⟨_,_,spec ⟨_,_⟩ _ _ _ h1,h2⟩
    · cases h
end lawNames
end Go.Proofs.YtnofdcckddfooaaGreatDoor
