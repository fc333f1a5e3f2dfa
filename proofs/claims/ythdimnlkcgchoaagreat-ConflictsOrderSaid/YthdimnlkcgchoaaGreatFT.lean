import Derived.Test.YthdimnlkcgchoaaGreatVA
import Derived.Test.YthdimnlkcgchoaaGreatLS
import Derived.Shelf.SlicesQ.Reverse
import Derived.Test.YthdimnlkcgchoaaGreatXO
import Derived.Test.YthdimnlkcgchoaaGreatLZ
namespace Go.Proofs.YthdimnlkcgchoaaGreat
set_option linter.all false
open Go.RowKit Go.Shelf Go.Sort
def revCLay_ren:Go.Shelf.Ren:=⟨fun | 35=>33 | n=>n,fun | 0=>0 | 3=>3 | 4=>4 | 22=>47 | 23=>67 | n=>n,fun n=>n⟩
theorem revCLay:Go.Proofs.SlLaysE0.n35 Tryz.prog revCLay_ren:={
 mixed:=by kernel_rfl
 f35:=⟨Tryz.f33.name,by decide,Tryz.func33.trans (congrArg some (by kernel_rfl))⟩
 t0:=Tryz.underlying0
 a0:=Tryz.isAgg0
 z0:=Tryz.sizeOf0
 v0:=Tryz.zeroValue0
 t3:=Tryz.underlying3
 a3:=Tryz.isAgg3
 z3:=Tryz.sizeOf3
 v3:=Tryz.zeroValue3
 t4:=Tryz.underlying4
 a4:=Tryz.isAgg4
 z4:=Tryz.sizeOf4
 v4:=Tryz.zeroValue4
 t22:=Tryz.underlying47
 a22:=Tryz.isAgg47
 z22:=Tryz.sizeOf47
 v22:=Tryz.zeroValue47
}
def Cs3:Type:={ vs:List Value // vs.length=3∧∀ v∈vs,v.oneCell'=true }
instance:Inhabited Cs3:=⟨⟨[.bool false,.bool false,.bool false],rfl,by simp [Value.oneCell']⟩⟩
set_option maxHeartbeats 1000000 in
theorem revC_call {b cap n:Nat} {cur:Array Value} {T:TypeId} {w:World} (hh:w.heap[b]? = some (.cells cur T (0,0))) (hpos:0 < n) (hn:n≤100000)
  (hone:∀ j,j < n * 3→∃ v,cur[j]? = some v∧v.oneCell'=true) :
  Calls Tryz.prog 33 #[.slice (some ⟨b,0,none⟩) n cap] w fun e w'=>e=.returned (.tuple #[])∧SameAt (fun k=>k=b) w w' ∧
   ∃ cur':Array Value,w'.heap[b]? = some (.cells cur' T (0,0))∧cur'.size=cur.size∧∀ i q,i < n→q < 3→cur'[i * 3+q]? = cur[(n - 1 - i) * 3+q]?:=by
 have hcur:∀ (i:Nat) (hil:i < n) (q:Nat),q < 3→cur[i * 3+q]? = some cur[i * 3+q]! ∧ cur[i * 3+q]!.oneCell'=true:=fun i hil q hq=>by
  obtain ⟨v,h1,h2⟩:=hone (i * 3+q) (by omega)
  have e:cur[i * 3+q]! = v:=by rw [Array.getElem!_eq_getD,Array.getD_eq_getD_getElem?,h1]; rfl
  rw [e]; exact ⟨h1,h2⟩
 let mk:(i:Nat)→i < n→Cs3:=fun i hil=>⟨[cur[i * 3+0]!,cur[i * 3+1]!,cur[i * 3+2]!],rfl,fun v hv=>by
  simp only [List.mem_cons,List.not_mem_nil,or_false] at hv
  rcases hv with rfl | rfl | rfl
  ·exact (hcur i hil 0 (by omega)).2
  ·exact (hcur i hil 1 (by omega)).2
  ·exact (hcur i hil 2 (by omega)).2⟩
 let enc:Cs3→List Value:=fun x=>x.1
 let d:Array Cs3:=Array.ofFn (n:=n) fun i=>mk i.1 i.2
 have hds:d.size=n:=by simp [d]
 have hd:∀ (i:Nat) (hil:i < n),d[i]! = mk i hil:=fun i hil=>by
  rw [getElem!_pos d i (by rw [hds]; exact hil)]
  simp [d]
 have hmk:∀ (i:Nat) (hil:i < n) (q:Nat),q < 3→(enc (mk i hil))[q]! = cur[i * 3+q]!:=fun i hil q hq=>by
  match q,hq with
  | 0,_=>rfl
  | 1,_=>rfl
  | 2,_=>rfl
 have split3:∀ j,j < n * 3→∃ i q,i < n∧q < 3∧j=i * 3+q∧j / 3=i∧j%3=q:=fun j hj=>⟨j / 3,j%3,by omega,by omega,by omega,rfl,rfl⟩
 have hcells:∀ j,j < n * 3→cur[j]? = some (flatK enc 3 d)[j]!:=fun j hj=>by
  obtain ⟨i,q,h1,h2,h3,h4,h5⟩:=split3 j hj
  rw [get_flatK _ _ _ _ (by rw [hds]; exact hj),h4,h5,hd i h1,hmk i h1 q h2,h3]
  exact (hcur i h1 q h2).1
 have hH:HoldsK enc 3 w b 0 d:=fun j hj=>by
  rw [size_flatK,hds] at hj
  obtain ⟨g1,g2⟩:=cell_at (o:=0+j) hh
  refine ⟨?_,g2⟩
  rw [g1,Nat.zero_add,hcells j hj]
  rfl
 have hcall:=AnyQ.slices_Reverse revCLay 3 Tryz.isAgg67 Tryz.sizeOf67 enc (fun x=>x.2.1) (fun x=>x.2.2) b 0 cap d w hH (by rw [hds]; omega)
 rw [hds] at hcall
 refine hcall.mono ?_
 rintro e w' ⟨rfl,m,rfl⟩
 have hheap:(putRowK enc 3 (Sort.ahead w m) b 0 d.reverse).heap=w.heap.modify b (onCells (putCells _root_.id 0 (flatK enc 3 d.reverse))):=rfl
 refine ⟨rfl,⟨rfl,rfl,rfl,?_,?_,fun k hk hkb=>?_⟩,putCells _root_.id 0 (flatK enc 3 d.reverse) cur,?_,?_,fun i q hi hq=>?_⟩
 ·rw [hheap]; simp
 ·exact fun _=>(by show w.drawn≤w.drawn+m; omega)
 ·rw [hheap,Array.getElem?_modify,if_neg (Ne.symm hkb)]
 ·rw [hheap,Array.getElem?_modify,if_pos rfl,hh]
  rfl
 ·simp [putCells]
 ·have hj:i * 3 + q < n * 3:=by omega
  have hr':n - 1 - i < n:=by omega
  have hjc:i * 3+q < cur.size:=(Array.getElem?_eq_some_iff.1 (hcells _ hj)).1
  have e1:(putCells _root_.id 0 (flatK enc 3 d.reverse) cur)[i * 3+q]? = some (flatK enc 3 d.reverse)[i * 3+q]!:=by
   simp only [putCells,Array.getElem?_mapIdx,Array.getElem?_eq_getElem hjc,Option.map_some]
   rw [if_pos (by simp [hds]; omega)]
   rfl
  rw [e1,get_flatK _ _ _ _ (by simp [hds]; omega),show (i * 3+q) / 3=i by omega,show (i * 3+q)%3=q by omega]
  have hdr:d.reverse[i]! = d[n - 1 - i]!:=by
   rw [getElem!_pos d.reverse i (by simp [hds]; exact hi),getElem!_pos d _ (by rw [hds]; exact hr'),Array.getElem_reverse]
   congr 1
   rw [hds]
  rw [hdr,hd _ hr',hmk _ hr' q hq]
  exact (hcur _ hr' q hq).1.symm
end Go.Proofs.YthdimnlkcgchoaaGreat
namespace Go.Proofs.YthdimnlkcgchoaaGreat
set_option linter.all false
set_option maxRecDepth 100000
open Go.RowKit
namespace cloneC
noncomputable def bd:Code:=(Tryz.f32.body).getD .skip
noncomputable def X:Ctx U El:=⟨E,tds,zeros,eqs,specOf [],100000,8,dspecOf [],fun _=>none,fun _=>none⟩
noncomputable def nmR:Norm U:=⟨[(2,.cnd)],[2],[2],[],[],[],[]⟩
noncomputable def RR:Kont U El:=fun st=>normK nmR st (retFin [2] [2])
noncomputable def fr0 (l:List Cnd):St U El:=⟨[(0,(.lst .cnd l))],[]⟩
noncomputable def sh0 (l:List Cnd):R :=
 condB (nlt 0 (List.length l)) (chk (nle ((List.length ([]:List Cnd)+List.length l) * 32) 140737488355328&&nle (List.length ([]:List Cnd)+List.length l) 9223372036854775807) (some ((.ful 0),[(0,.rows .cnd (([]:List Cnd)++l))]))) (amb (some ((.ful 0),[(0,.rows .cnd ([]:List Cnd))])) (chk (nle ((List.length ([]:List Cnd)+List.length l) * 32) 140737488355328&&nle (List.length ([]:List Cnd)+List.length l) 9223372036854775807) (some ((.ful 0),[(0,.rows .cnd (([]:List Cnd)++l))]))))
theorem P0 (l):exec X (cdp [] bd) .d (fr0 l) RR (fun _ _=>none) RR=sh0 l:=by kernel_rfl
noncomputable def f0 (l:List Cnd):R:=sh0 l
theorem T0 (l):exec X bd .d (fr0 l) RR (fun _ _=>none) RR=f0 l:=by
 refine (P0 l).trans ?_
 show _=sh0 l
 rfl
theorem run (l):runFn X bd .d nmR [2] [2] [(.lst .cnd l)]=f0 l:=T0 l
theorem f0_eq (l:List Cnd) (h:(nle (List.length l) 90000)=true):f0 l=some (.ful 0,[(0,.rows .cnd l)]):=by
 have hl:=nleI h
 show sh0 l=_
 unfold sh0
 have e1:nle ((List.length ([]:List Cnd)+List.length l) * 32) 140737488355328=true:=nleT (by simp; omega)
 have e2:nle (List.length ([]:List Cnd)+List.length l) 9223372036854775807=true:=nleT (by simp; omega)
 rw [e1,e2]
 cases l with
 | nil=>exact amb_same _
 | cons x l=>rfl
theorem ok:CtxOk Tryz.prog X:=ctxOk tab spN dpN
theorem okM:MOk Tryz.prog X:=fun g sp h=>by cases h
theorem spec (l:List Cnd) (h:(nle (List.length l) 90000)=true):CallSpec Tryz.prog E 32 [(.lst .cnd l)] (.ful 0) [(0,.rows .cnd (l))] :=
 rfs ok okM Tryz.call32 Tryz.func32 ((run l).trans (f0_eq l h))
noncomputable def sp:Sp U El:=fun args k=>match args with
 | [.lst .cnd l]=>chk (nle (List.length l) 90000) (k (.ful 0) [(0,.rows .cnd (l))])
 | _=>none
theorem spOk:SpOk Tryz.prog E 32 sp:=⟨fun vs=>by unfold sp;split;exact det_c _ _ _;exact ⟨none,fun _=>rfl⟩,fun vs k r h=>by unfold sp at h;split at h;(obtain ⟨h1,h2⟩:=chk_some h;exact ⟨_,_,spec _ h1,h2⟩);cases h⟩
end cloneC
noncomputable def frO (st:St U El) (K:St U El→Option (Fin U El)):Option (Fin U El) :=
 match tget st.t 3,tget st.t 4,tget st.t 7,tget st.t 8,tget st.t 58,tget st.t 59 with
 | .ptr i3 o3,.ptr i4 o4,.str s,.ful i8,.int .i64 n,.int .i64 z=>bif Nat.beq i3 3&&(Nat.beq o3 0&&(Nat.beq i4 4&&(Nat.beq o4 0&&Nat.beq i8 54000))) then
   (match hget st.h 3,hget st.h 4,hget st.h 54000 with
   | some (.box t3 [.lst .rule l]),some (.box t4 [.lst .node nds,.lst .link lks]),some (.rows .rule xs)=>bif Nat.beq t3 0&&Nat.beq t4 0 then
     chk (okR xs&&(n == Int.ofNat (List.length (α:=Rule) xs)&&z == (0:Int))) (K ⟨[(3,.ptr 3 0),(4,.ptr 4 0),(7,.str s),(8,.lst .rule (List.map flipR xs))],[(3,.box 0 [.lst .rule l]),(4,.box 0 [.lst .node nds,.lst .link lks])]⟩) else none
   | _,_,_=>none) else none
 | _,_,_,_,_,_=>none
namespace turnO
noncomputable def bd:Code:=(Tryz.f6.body).getD .skip
noncomputable def X:Ctx U El:=⟨E,tds,zeros,eqs,specOf [(32,cloneC.sp)],100000,194,dspecOf [],fun _=>none,fun _=>none⟩
theorem ok:CtxOk Tryz.prog X:=ctxOk tab (spC cloneC.spOk spN) dpN
theorem okM:MOk Tryz.prog X:=fun g sp h=>by cases h
noncomputable abbrev ex (p:List Nat) (n:Ann U) (st:St U El) (sl ids:List Nat):R:=exec X (cdp p bd) n st (outK 0 sl ids) (fun i=>outK (2 * i+2) sl ids) (outK 1 sl ids)
noncomputable abbrev res (m:Nat) (vs:List (AV U El)) (hs:Heap U El):R:=some (.tup (.int .i64 (m:Int) :: vs),hs)
noncomputable def opsOf:Code→Array Oper | .region _ ops _=>ops | _=>#[]
abbrev lb:List Nat:=[1,1,1,1,1,1,1,0,1,0,0]
abbrev bb:List Nat:=lb++[1,1,0,0]
abbrev s8:List Nat:=[3,4,7,8,58,59]
abbrev h8:List Nat:=[54000,3,4]
abbrev vs8 (s:List UInt8) (n i:Nat):List (AV U El):=[.ptr 3 0,.ptr 4 0,.str s,.ful 54000,.int .i64 (Int.ofNat n),.int .i64 (i:Int)]
abbrev hB (l:List Rule) (nds:List Node) (lks:List Lnk):Heap U El:=[(3,.box 0 [.lst .rule l]),(4,.box 0 [.lst .node nds,.lst .link lks])]
abbrev hX (xs:List Rule) (l:List Rule) (nds:List Node) (lks:List Lnk):Heap U El:=(54000,.rows .rule xs) :: hB l nds lks
noncomputable def F0 (s:List UInt8) (n i:Nat) (xs l:List Rule) (nds:List Node) (lks:List Lnk):St U El:=⟨zipT s8 (vs8 s n i),hX xs l nds lks⟩
noncomputable def F1 (s:List UInt8) (n i:Nat) (xs l:List Rule) (nds:List Node) (lks:List Lnk) (b:Bool):St U El:=⟨zipT (s8++[60]) (vs8 s n i++[.bool b]),hX xs l nds lks⟩
noncomputable def F2 (s:List UInt8) (n i:Nat) (xs l:List Rule) (nds:List Node) (lks:List Lnk):St U El:=⟨zipT (s8++[9]) (vs8 s n i++[.int .i64 (i:Int)]),hX xs l nds lks⟩
theorem e11 (s:List UInt8) (n i:Nat) (xs l:List Rule) (nds:List Node) (lks:List Lnk):ex (lb++[0]) .d (F0 s n i xs l nds lks) (s8++[60]) h8=res 0 (vs8 s n i++[.bool (ilt (i:Int) (Int.ofNat n))]) (hX xs l nds lks):=by kernel_rfl
theorem e11t (s:List UInt8) (n i:Nat) (xs l:List Rule) (nds:List Node) (lks:List Lnk):ex (lb++[1,0]) .d (F1 s n i xs l nds lks true) s8 h8=res 0 (vs8 s n i) (hX xs l nds lks):=by kernel_rfl
theorem e11f (s:List UInt8) (n i:Nat) (xs l:List Rule) (nds:List Node) (lks:List Lnk):ex (lb++[1,0]) .d (F1 s n i xs l nds lks false) s8 h8=res 2 (vs8 s n i) (hX xs l nds lks):=by kernel_rfl
theorem e12 (s:List UInt8) (n i:Nat) (xs l:List Rule) (nds:List Node) (lks:List Lnk):ex (bb++[0]) .d (F0 s n i xs l nds lks) (s8++[9]) h8=res 0 (vs8 s n i++[.int .i64 (i:Int)]) (hX xs l nds lks):=by kernel_rfl
noncomputable def o13:Array Oper:=opsOf (cdp (bb++[1,0]) bd)
noncomputable def o14:Array Oper:=opsOf (cdp (bb++[1,1]) bd)
abbrev s13:List Nat:=s8++[9,69,71]
abbrev v13 (s:List UInt8) (n i:Nat):List (AV U El):=vs8 s n i++[.int .i64 (i:Int),.ful 69000,.row 54000 i 1]
abbrev h13 (ys:List Cnd) (xs l:List Rule) (nds:List Node) (lks:List Lnk):Heap U El:=hX xs l nds lks++[(69000,.rows .cnd ys)]
theorem e13 (s:List UInt8) (n i:Nat) (xs l:List Rule) (nds:List Node) (lks:List Lnk):runOps X [] (o13.toList.take 10) (F2 s n i xs l nds lks) (outK 0 s13 (h8++[69000])) =
  chk (inb (i:Int) (List.length xs)) (chk (nlt i (List.length xs)) (chk (nle (List.length (List.getD xs i d_rule).rw) 90000) (chk (inb (i:Int) (List.length xs)) (res 0 (v13 s n i) (h13 (List.getD xs i d_rule).rw xs l nds lks))))):=by kernel_rfl
noncomputable def F3 (s:List UInt8) (n i:Nat) (ys:List Cnd) (xs l:List Rule) (nds:List Node) (lks:List Lnk):St U El:=⟨zipT s13 (v13 s n i),h13 ys xs l nds lks⟩
theorem e15 (s:List UInt8) (n i:Nat) (xs l:List Rule) (nds:List Node) (lks:List Lnk):ex (lb++[1,1,1]) .d (F0 s n i xs l nds lks) s8 h8=res 0 [.ptr 3 0,.ptr 4 0,.str s,.ful 54000,.int .i64 (Int.ofNat n),.int .i64 (IntKind.wrap .i64 ((i:Int)+1))] (hX xs l nds lks):=by kernel_rfl
end turnO
end Go.Proofs.YthdimnlkcgchoaaGreat
namespace Go.Proofs.YthdimnlkcgchoaaGreat
set_option linter.all false
set_option maxRecDepth 100000
open Go.RowKit
namespace turnO
theorem eval_self {a:Act} {d:Nat} {v:Value} (h:d < a.tmps.size):(a.put (some d) v).eval (.tmp d)=v:=by
 simp [Act.put,Act.eval,Array.getD,h]
theorem eval_ne {a:Act} {d t:Nat} {v:Value} (h:d≠t):(a.put (some d) v).eval (.tmp t)=a.eval (.tmp t):=by
 simp only [Act.put,Act.eval,Array.getD_eq_getD_getElem?,Array.getElem?_setIfInBounds,if_neg h]
theorem put_size {a:Act} {d:Option Nat} {v:Value}:(a.put d v).tmps.size=a.tmps.size:=by cases d<;>simp [Act.put]
theorem put_defers {a:Act} {d:Option Nat} {v:Value}:(a.put d v).defers=a.defers:=by cases d<;>rfl
noncomputable def nop : Oper := ⟨none, .move (.const undef), 0, "", #[], none⟩
noncomputable def st13:Oper:=(o13[10]?).getD nop
theorem st13_at:o13[10]? = some st13:=by kernel_rfl
theorem st13_op:st13.op=.store 47 (.tmp 71) (.tmp 69):=by kernel_rfl
theorem st13_dst:st13.dst=none:=by kernel_rfl
theorem st13_g:st13.guard=none:=by kernel_rfl
noncomputable def m0:Oper:=(o14[0]?).getD nop
theorem m0_at:o14[0]? = some m0:=by kernel_rfl
theorem m0_op:m0.op=.move (.tmp 8):=by kernel_rfl
theorem m0_dst:m0.dst=some 72:=by kernel_rfl
theorem m0_g:m0.guard=none:=by kernel_rfl
noncomputable def m1:Oper:=(o14[1]?).getD nop
theorem m1_at:o14[1]? = some m1:=by kernel_rfl
theorem m1_op:m1.op=.move (.tmp 9):=by kernel_rfl
theorem m1_dst:m1.dst=some 73:=by kernel_rfl
theorem m1_g:m1.guard=none:=by kernel_rfl
noncomputable def m2:Oper:=(o14[2]?).getD nop
theorem m2_at:o14[2]? = some m2:=by kernel_rfl
theorem m2_op:m2.op=.indexAddr 22 (.tmp 72) (.tmp 73):=by kernel_rfl
theorem m2_dst:m2.dst=some 74:=by kernel_rfl
theorem m2_g:m2.guard=none:=by kernel_rfl
noncomputable def m3:Oper:=(o14[3]?).getD nop
theorem m3_at:o14[3]? = some m3:=by kernel_rfl
theorem m3_op:m3.op=.fieldAddr 49 (.tmp 74) 1:=by kernel_rfl
theorem m3_dst:m3.dst=some 75:=by kernel_rfl
theorem m3_g:m3.guard=none:=by kernel_rfl
noncomputable def m4:Oper:=(o14[4]?).getD nop
theorem m4_at:o14[4]? = some m4:=by kernel_rfl
theorem m4_op:m4.op=.load 47 (.tmp 75):=by kernel_rfl
theorem m4_dst:m4.dst=some 76:=by kernel_rfl
theorem m4_g:m4.guard=none:=by kernel_rfl
noncomputable def m5:Oper:=(o14[5]?).getD nop
theorem m5_at:o14[5]? = some m5:=by kernel_rfl
theorem m5_op:m5.op=.call ⟨.value (.func 33),#[.tmp 76],#[47]⟩:=by kernel_rfl
theorem m5_dst:m5.dst=some 77:=by kernel_rfl
theorem m5_g:m5.guard=none:=by kernel_rfl
theorem run_mv {ev:Operand→Value} {o:Oper} {x:Operand} {w:World} (ho:o.op=.move x):(execOp ev o).run Tryz.prog w=.ok (.value (ev x)) w:=by simp [execOp,ho]
theorem run_ix {ev:Operand→Value} {b i len cap:Nat} {w:World} (h1:ev (.tmp 72)=.slice (some ⟨b,0,none⟩) len cap) (h2:ev (.tmp 73)=.int .i64 (i:Int)) (hl:i < len):(execOp ev m2).run Tryz.prog w=.ok (.value (.pointer (some ⟨b,i * 4,none⟩))) w:=by
 have h0:(0:Int)≤(i:Int):=by omega
 have hl':(i:Int) < (len:Int):=by omega
 obtain ⟨inf,z,hi,hsz,_⟩:=ok.u.info .rule
 have hu:Tryz.prog.underlying 22=some (.slice 49):=Tryz.underlying22
 have hsz4:inf.size=4:=hsz
 have hi':Tryz.prog.info? 49=some inf:=hi
 simp [execOp,m2_op,Instr.indexAt,asIntOf,h2,run_underlying hu,h1,h0,hl,hl',run_szT hi',hsz4,addr_add]
theorem run_fd {ev:Operand→Value} {b o:Nat} {w:World} (h1:ev (.tmp 74)=.pointer (some ⟨b,o,none⟩)):(execOp ev m3).run Tryz.prog w=.ok (.value (.pointer (some ⟨b,o+1,none⟩))) w:=by
 have htd:∃ fs sz off fsz ag,tdGet X.tds 49=some (.struct fs sz)∧fs[1]? = some (off,fsz,ag)∧off=1:=⟨_,_,_,_,_,rfl,rfl,rfl⟩
 obtain ⟨fs,sz,off,fsz,ag,htd,hf,rfl⟩:=htd
 obtain ⟨fields,fl,hu,hfl,hoff,_,⟨i,hi,_,hi0⟩⟩:=struct_field (ok.td _ _ htd) hf
 simp [execOp,m3_op,Instr.fieldAt,run_underlying hu,hfl,Instr.sureAddr,h1,fieldPlace,run_szT hi,hi0,addr_add,hoff]
theorem run_ld {ev:Operand→Value} {b o:Nat} {v:Value} {w:World} (h1:ev (.tmp 75)=.pointer (some ⟨b,o,none⟩)) (hc:w.cell? ⟨b,o,none⟩=some v):(execOp ev m4).run Tryz.prog w=.ok (.value v) w:=by
 simp [execOp,m4_op,Instr.loadAt,Instr.sureAddr,h1,loadVar,Tryz.isAgg47,hc]
theorem run_st {ev:Operand→Value} {b off:Nat} {cur:Array Value} {e:TypeId} {w:World} {v:Value} (h1:ev (.tmp 71)=.pointer (some ⟨b,off,none⟩)) (h2:ev (.tmp 69)=v) (hcs:v.cells=#[v]) (hone:v.oneCell'=true) (hh:w.heap[b]? = some (.cells cur e (0,0))) (hle:off+1≤cur.size) :
  (execOp ev st13).run Tryz.prog w=.ok .skip (w.setRow b (cur.toList.take off++[v]++cur.toList.drop (off+1)).toArray):=by
 have hst:=run_storeCells_at Tryz.prog b off e v.cells.toList 0 cur w hh (by simp [hcs]; omega) (by rw [hcs]; simpa using hone)
 simp only [Nat.add_zero,hcs] at hst
 have hst':(storeCells ⟨b,off,none⟩ [v]).run Tryz.prog w=.ok () (w.setRow b (cur.toList.take off++[v]++cur.toList.drop (off+1)).toArray):=by simpa using hst
 simp [execOp,st13_op,Instr.storeAt,Instr.sureAddr,h1,h2,storeVar,Tryz.sizeOf47,hcs]
 rw [hst']
 simp
end turnO
end Go.Proofs.YthdimnlkcgchoaaGreat
namespace Go.Proofs.YthdimnlkcgchoaaGreat
set_option linter.all false
set_option maxRecDepth 100000
open Go.RowKit Go.Shelf
namespace turnO
theorem enc_cnd (y:Cnd):E.enc .cnd y=[.str y.cn,.bool y.cb,.int .i64 y.cl]:=rfl
theorem enc_rule (r:Rule):E.enc .rule r=[.str r.rn,.lst .cnd r.rw,.str r.rl,.int .i64 r.rs]:=rfl
theorem relLst {S:Nat→Prop} {ρ:Rho} {w:World} (zs:List Cnd) (b cap:Nat) (val:Nat→Nat→Value) (hS:S b) (hc:zs.length≤cap)
  (hcell:∀ (j:Nat) (y:Cnd) (q:Nat) (c:AV U El),zs[j]? = some y→(E.enc .cnd y)[q]? = some c→w.cell? ⟨b,0+j * 3+q,none⟩=some (val j q))
  (h:∀ (j:Nat) (y:Cnd) (q:Nat) (c:AV U El),zs[j]? = some y→(E.enc .cnd y)[q]? = some c→Rel E S ρ w c (val j q)):Rel E S ρ w (.lst .cnd zs) (.slice (some ⟨b,0,none⟩) zs.length cap) :=
 @Rel.lst U El E S ρ w U.cnd zs b 0 cap val hS hc hcell h
theorem turned {w0:World} {S0 S:Nat→Prop} {ρ:Rho} {pin:Nat→Option Loc} {a a':Act} {w w':World} {s:List UInt8} {n i:Nat} {ys:List Cnd} {xs l:List Rule} {nds:List Node} {lks:List Lnk}
    (h:Held X w0 S0 S ρ pin (F3 s n i ys xs l nds lks) a w) (hi:i < xs.length) (hys:ys=xs[i].rw) {l1 l2:Loc} (hl1:ρ 54000=some l1) (aA:ρ 69000=some l2) {v:Value} (rv:Rel E S ρ w (.ful 69000) v)
    {cur cur1:Array Value} (hh:w.heap[l1.b]? = some (.cells cur 49 (0,0))) (hh1:w'.heap[l1.b]? = some (.cells cur1 49 (0,0))) (hs1:cur1.size=cur.size) (hv1:cur1[i * 4+1]? = some v) (hne:∀ j,j≠i * 4+1→cur1[j]? = cur[j]?)
    (hsame:SameAt (fun k=>k=l1.b∨(ys≠[]∧k=l2.b)) w w')
    (hrev:ys≠[]→∃ cur2 c2:Array Value,w.heap[l2.b]? = some (.cells cur2 67 (0,0))∧w'.heap[l2.b]? = some (.cells c2 67 (0,0))∧∀ j q,j < ys.length→q < 3→c2[j * 3+q]? = cur2[(ys.length - 1 - j) * 3+q]?)
    (hev:∀ t,t < 72→a'.tmps.getD t undef=a.tmps.getD t undef) (hsz:a'.tmps.size=a.tmps.size) (hdf:a'.defers=a.defers) :
    ∃ S',Held X w0 S0 S' ρ pin (F0 s n i (xs.set i (flipR xs[i])) l nds lks) a' w':=by
  obtain ⟨l1',hl1',c1,c2,c3,c4⟩:=h.inv.heap.get 54000 (.rows .rule xs) (by rfl)
  rw [hl1] at hl1'; cases hl1'
  obtain ⟨l2',hl2',d1,d2,d3,d4⟩:=h.inv.heap.get 69000 (.rows .cnd ys) (by rfl)
  rw [aA] at hl2'; cases hl2'
  have c1':l1.s=4:=c1
  have c2':l1.ln=xs.length:=c2
  have c3':xs.length * 4≤l1.n:=c3
  have d1':l2.s=3:=d1
  have d2':l2.ln=ys.length:=d2
  have d3':ys.length * 3≤l2.n:=d3
  have hn1:l1.n≠0:=by omega
  obtain ⟨c5,c6,cur',hh',c7,c8⟩:=c4 hn1
  have hcc:cur'=cur:=by
    have:w.heap[l1.b]? = some (.cells cur' 49 (0,0)):=hh'
    rw [hh] at this; cases this; rfl
  subst hcc
  have hyn:ys≠[]→l2.n≠0:=fun hy=>by
    have:=List.length_pos_iff.2 hy
    omega
  have hb12:ys≠[]→l1.b≠l2.b:=fun hy=>h.inv.heap.inj 54000 69000 _ _ l1 l2 (by rfl) (by rfl) (by omega) hl1 aA hn1 (hyn hy)
  have n1:¬ S l1.b:=c6
  have n2:ys≠[]→¬ S l2.b:=fun hy=>(d4 (hyn hy)).2.1
  have in1:InHeap (F3 s n i ys xs l nds lks).h ρ l1.b:=⟨54000,_,l1,by rfl,hl1,hn1,rfl⟩
  have in2:ys≠[]→InHeap (F3 s n i ys xs l nds lks).h ρ l2.b:=fun hy=>⟨69000,_,l2,by rfl,aA,hyn hy,rfl⟩
  have own1:w0.heap.size≤l1.b:=h.own _ in1
  have own2:ys≠[]→w0.heap.size≤l2.b:=fun hy=>h.own _ (in2 hy)
  have hSame:∀ k,S k→w'.heap[k]? = w.heap[k]? := fun k hk=>hsame.block k (h.inv.heap.lt k hk) (by
    rintro (rfl | ⟨hy,rfl⟩)
    · exact n1 hk
    · exact n2 hy hk)
  let S':Nat→Prop:=fun k=>S k∨(ys≠[]∧k=l2.b)
  have up:∀ {c:AV U El} {x:Value},Rel E S ρ w c x→Rel E S' ρ w' c x:=fun hr=>hr.mono (fun _ hk=>.inl hk) hSame (fun _ _ h=>h)
  have hfr:Fr (From w0) w w':=⟨hsame.os,hsame.tape,hsame.output,hsame.size,hsame.drawn,fun k hk hb=>hsame.block k hk (by
    rintro (rfl | ⟨hy,rfl⟩)
    · exact hb own1
    · exact hb (own2 hy))⟩
  have hold:∀ id b,hget (hX (xs.set i (flipR xs[i])) l nds lks) id=some b→id≠54000→hget (F3 s n i ys xs l nds lks).h id=some b∧id≠69000:=fun id b hg hne=>by
    simp only [hX,hB,hget] at hg
    rw [show Nat.beq 54000 id=false from nbeq_ne (Ne.symm hne),cond_false] at hg
    by_cases e3:3=id
    · subst e3; exact ⟨hg,by omega⟩
    · rw [nbeq_ne e3, cond_false] at hg
      by_cases e4:4=id
      · subst e4; exact ⟨hg,by omega⟩
      · rw [nbeq_ne e4,cond_false] at hg; cases hg
  have hin:∀ k,InHeap (F0 s n i (xs.set i (flipR xs[i])) l nds lks).h ρ k→InHeap (F3 s n i ys xs l nds lks).h ρ k∧(ys≠[]→k≠l2.b):=by
    rintro k ⟨id,b,lc,g1,g2,g3,rfl⟩
    by_cases e:id=54000
    · subst e
      rw [hl1] at g2; cases g2
      exact ⟨in1,hb12⟩
    · obtain ⟨g4, g5⟩ := hold id b g1 e
      exact ⟨⟨id,b,lc,g4,g2,g3,rfl⟩,fun hy=>h.inv.heap.inj id 69000 _ _ lc l2 g4 (by rfl) g5 g2 aA g3 (hyn hy)⟩
  have hlst : Rel E S' ρ w' (.lst .cnd ys.reverse) v := by
    by_cases hy:ys=[]
    · have h0 : l2.ln = 0 := by rw [d2', hy]; rfl
      rw [hy]
      cases rv with
      | fulN _ l' hl' e1 e2=>exact .lstE _ _ _
      | ful _ cap l' hl' e1 e2 =>
        rw [aA] at hl'; cases hl'
        rw [h0]
        exact .lstE _ _ _
    · obtain ⟨cur2, k2, g1, g2, g3⟩ := hrev hy
      obtain ⟨d5,d6,cur2',g4,d7,d8⟩:=d4 (hyn hy)
      have hc2:cur2'=cur2:=by
        have:w.heap[l2.b]? = some (.cells cur2' 67 (0,0)):=g4
        rw [g1] at this; cases this; rfl
      subst hc2
      cases rv with
      | fulN _ l' hl' e1 e2=>rw [aA] at hl'; cases hl'; exact absurd e1 (hyn hy)
      | ful _ cap l' hl' e1 e2 =>
        rw [aA] at hl'; cases hl'
        have hcell:∀ (j:Nat) (y:Cnd) (q:Nat) (c:AV U El),ys.reverse[j]? = some y→(E.enc .cnd y)[q]? = some c→∃ u,k2[j * 3+q]? = some u∧Rel E S' ρ w' c u:=fun j y q c hy' hc=>by
          have hj:j < ys.length:=by rw [← List.length_reverse]; exact (List.getElem?_eq_some_iff.1 hy').1
          have hq:q < 3:=(List.getElem?_eq_some_iff.1 hc).1
          have hr:ys[ys.length - 1 - j]? = some y:=by
            rw [List.getElem?_reverse hj] at hy'
            exact hy'
          obtain ⟨u,u1,u2⟩:=d8 (ys.length - 1 - j) y q c hr hc
          exact ⟨u,by rw [g3 j q hj hq]; exact u1,up u2⟩
        have hlen:l2.ln=ys.reverse.length:=by rw [d2',List.length_reverse]
        rw [hlen]
        refine relLst ys.reverse l2.b cap (fun j q=>(k2[j * 3+q]?).getD undef) (show S' l2.b from Or.inr ⟨hy,rfl⟩) (by rw [← hlen]; exact e2) (fun j y q c hy' hc=>?_) (fun j y q c hy' hc=>?_)
        · obtain ⟨u, u1, _⟩ := hcell j y q c hy' hc
          obtain ⟨z1,_⟩:=cell_at (w:=w') (o:=0+j * 3+q) g2
          show w'.cell? ⟨l2.b,0+j * 3+q,none⟩=_
          rw [z1,show 0+j * 3+q=j * 3+q by omega,u1]
          rfl
        · obtain ⟨u, u1, u2⟩ := hcell j y q c hy' hc
          rw [u1]
          exact u2
  refine ⟨S',⟨⟨hdf.trans h.inv.defers,hsz.trans h.inv.size,Fr.refl _ _,fun k hk=>.inl hk,fun _ h=>h,fun _ h=>.inl h,fun w2 hb=>h.g w2 ((h.fr.trans hfr).trans (hb.mono fun k hk=>hk.elim (fun e=>Nat.le_trans (h.fr.trans hfr).size e) (fun e=>h.own k (hin k e).1))),fun t=>?_,⟨fun id b hg=>?_,fun p q b1 b2 m1 m2 g1 g2 hpq k1 k2 z1 z2=>?_,fun k hk=>?_⟩⟩,h.fr.trans hfr,fun b hb=>.inl (h.s0 b hb),fun b hb=>?_,fun k hk=>h.own k (hin k hk).1,h.g,h.nf⟩⟩
  · 
    have hcut:tget (F0 s n i (xs.set i (flipR xs[i])) l nds lks).t t = .any∨(t < 72∧tget (F0 s n i (xs.set i (flipR xs[i])) l nds lks).t t=tget (F3 s n i ys xs l nds lks).t t):=by
      by_cases h3:t=3
      · subst h3; exact .inr ⟨by omega,rfl⟩
      by_cases h4:t=4
      · subst h4; exact .inr ⟨by omega,rfl⟩
      by_cases h7:t=7
      · subst h7; exact .inr ⟨by omega,rfl⟩
      by_cases h8:t=8
      · subst h8; exact .inr ⟨by omega,rfl⟩
      by_cases h58:t=58
      · subst h58; exact .inr ⟨by omega,rfl⟩
      by_cases h59:t=59
      · subst h59; exact .inr ⟨by omega,rfl⟩
      refine .inl ?_
      show tget (zipT s8 (vs8 s n i)) t=.any
      simp only [s8,vs8,zipT,tget,nbeq_ne (Ne.symm h3),nbeq_ne (Ne.symm h4),nbeq_ne (Ne.symm h7),nbeq_ne (Ne.symm h8),nbeq_ne (Ne.symm h58),nbeq_ne (Ne.symm h59),cond_false]
    rcases hcut with e | ⟨e1,e2⟩
    · rw [e]; exact .any _
    · rw [e2,hev t e1]; exact up (h.inv.tmps t)
  · 
    by_cases e:id=54000
    · subst e
      cases hg
      have hls:(xs.set i (flipR xs[i])).length=xs.length:=List.length_set
      refine ⟨l1,hl1,c1,by show l1.ln=(xs.set i (flipR xs[i])).length; rw [hls]; exact c2',by show (xs.set i (flipR xs[i])).length * 4≤l1.n; rw [hls]; exact c3',fun _=>⟨.inr ⟨54000,_,l1,by rfl,hl1,hn1,rfl⟩,fun hk=>?_,cur1,hh1,hs1.trans c7,fun j x q c hx hc=>?_⟩⟩
      · rcases hk with hk | ⟨hy, hk⟩
        · exact n1 hk
        · exact hb12 hy hk
      · have hq : q < 4 := (List.getElem?_eq_some_iff.1 hc).1
        show ∃ u,cur1[j * 4+q]? = some u∧Rel E S' ρ w' c u
        by_cases hj:j=i
        · subst hj
          have hx':x=flipR xs[j]:=by
            have hx2:(xs.set j (flipR xs[j]))[j]? = some x:=hx
            rw [List.getElem?_set_self hi] at hx2
            exact (Option.some.inj hx2).symm
          by_cases hq1:q=1
          · subst hq1
            rw [hx'] at hc
            have hc':c = .lst .cnd ys.reverse:=by
              have:(E.enc .rule (flipR xs[j]))[1]? = some c:=hc
              rw [enc_rule] at this
              cases this
              rw [hys]
              rfl
            rw [hc']
            exact ⟨v,hv1,hlst⟩
          · have hc' : (E.enc .rule xs[j])[q]? = some c := by
              rw [hx'] at hc
              have hc0:([.str xs[j].rn,.lst .cnd xs[j].rw.reverse,.str xs[j].rl,.int .i64 xs[j].rs]:List (AV U El))[q]? = some c:=hc
              show ([.str xs[j].rn,.lst .cnd xs[j].rw,.str xs[j].rl,.int .i64 xs[j].rs]:List (AV U El))[q]? = some c
              rw [← hc0]
              match q,hq,hq1 with
              | 0,_,_=>rfl
              | 1,_,h=>exact absurd rfl h
              | 2,_,_=>rfl
              | 3,_,_=>rfl
            obtain ⟨u,u1,u2⟩:=c8 j xs[j] q c (List.getElem?_eq_getElem hi) hc'
            exact ⟨u,by rw [hne _ (by omega)]; exact u1,up u2⟩
        · have hx' : xs[j]? = some x := by
            have hx2:(xs.set i (flipR xs[i]))[j]? = some x:=hx
            rwa [List.getElem?_set_ne (Ne.symm hj)] at hx2
          obtain ⟨u,u1,u2⟩:=c8 j x q c hx' hc
          exact ⟨u,by rw [hne _ (by omega)]; exact u1,up u2⟩
    · obtain ⟨g4, g5⟩ := hold id b hg e
      obtain ⟨lc,k1,k2⟩:=h.inv.heap.get id b g4
      refine ⟨lc,k1,(k2.mono (fun _ hk=>Or.inl hk) hSame (fun _ _ h=>h) fun hn=>⟨?_,?_⟩).pins (fun hn=>.inr ⟨id,b,lc,hg,k1,hn,rfl⟩) fun t cs e'=>?_⟩
      · refine hsame.block _ (k2.lt hn).1 ?_
        rintro (e' | ⟨hy,e'⟩)
        · exact h.inv.heap.inj id 54000 _ _ lc l1 g4 (by rfl) e k1 hl1 hn hn1 e'
        · exact h.inv.heap.inj id 69000 _ _ lc l2 g4 (by rfl) g5 k1 aA hn (hyn hy) e'
      · rintro (hk | ⟨hy, hk⟩)
        · exact (k2.lt hn).2.2 hk
        · exact h.inv.heap.inj id 69000 _ _ lc l2 g4 (by rfl) g5 k1 aA hn (hyn hy) hk
      · subst e'
        exact k2.1
  · 
    have old:∀ p b1,hget (F0 s n i (xs.set i (flipR xs[i])) l nds lks).h p=some b1→∃ b,hget (F3 s n i ys xs l nds lks).h p=some b:=fun p b1 g=>by
      by_cases e:p=54000
      · subst e; exact ⟨_,rfl⟩
      · exact ⟨b1,(hold p b1 g e).1⟩
    obtain ⟨b1',q1⟩:=old p b1 g1
    obtain ⟨b2',q2⟩:=old q b2 g2
    exact h.inv.heap.inj p q _ _ m1 m2 q1 q2 hpq k1 k2 z1 z2
  · rcases hk with hk | ⟨hy, rfl⟩
    · exact Nat.lt_of_lt_of_le (h.inv.heap.lt k hk) hsame.size
    · obtain ⟨_, k2, _, g2, _⟩ := hrev hy
      exact (Array.getElem?_eq_some_iff.1 g2).1
  · rcases hb with hb | ⟨hy, rfl⟩
    · exact h.s1 b hb
    · exact .inr (own2 hy)
end turnO
end Go.Proofs.YthdimnlkcgchoaaGreat
namespace Go.Proofs.YthdimnlkcgchoaaGreat
set_option linter.all false
set_option maxRecDepth 100000
open Go.RowKit Go.Shelf
namespace turnO
theorem wp_eq {c c':Code} {Q:Exit→Act→World→Prop} {a:Act} {w:World} (e:c=c') (h:c'.wp Tryz.prog Q a w):c.wp Tryz.prog Q a w:=by rw [e]; exact h
theorem cut_cells {cur:Array Value} {off:Nat} {v:Value} (h:off < cur.size):(cur.toList.take off++[v]++cur.toList.drop (off+1)).toArray.size=cur.size ∧
  (cur.toList.take off++[v]++cur.toList.drop (off+1)).toArray[off]? = some v∧∀ j,j≠off→(cur.toList.take off++[v]++cur.toList.drop (off+1)).toArray[j]? = cur[j]?:=by
 have hl:(cur.toList.take off).length=off:=by simp; omega
 refine ⟨by simp; omega,?_,fun j hj=>?_⟩
 ·rw [List.getElem?_toArray,list3_get _ _ _ off hl.symm,if_neg (by omega),if_pos (by simp)]
  simp
 ·rw [List.getElem?_toArray,list3_get _ _ _ off hl.symm]
  by_cases h1:j < off
  ·rw [if_pos h1,List.getElem?_take_of_lt h1]; simp
  ·rw [if_neg h1,if_neg (by simp; omega),List.getElem?_drop]
   simp only [List.length_singleton]
   rw [show off+1+(j - (off+1))=j by omega]
   simp
theorem rev_at {ys : List Cnd} {l2 : Loc} {ρ : Rho} {S : Nat → Prop} {w w1 : World} {B : Bd} {v : Value} (hl2 : ρ 69000 = some l2) (hb : BlkRel E S ρ w B l2 (.rows .cnd ys)) (rv : Rel E S ρ w (.ful 69000) v) (hlen : ys.length ≤ 90000)
    (hsame:ys≠[]→w1.heap[l2.b]? = w.heap[l2.b]?) :
    Calls Tryz.prog 33 #[v] w1 fun e w'=>e = .returned (.tuple #[])∧SameAt (fun k=>ys≠[]∧k=l2.b) w1 w' ∧
      (ys≠[]→∃ cur2 c2:Array Value,w.heap[l2.b]? = some (.cells cur2 67 (0,0))∧w'.heap[l2.b]? = some (.cells c2 67 (0,0))∧∀ j q,j < ys.length→q < 3→c2[j * 3+q]? = cur2[(ys.length - 1 - j) * 3+q]?):=by
  obtain ⟨d1,d2,d3,d4⟩:=hb
  have d2':l2.ln=ys.length:=d2
  have d3':ys.length * 3≤l2.n:=d3
  by_cases hy:ys=[]
  · have h0 : l2.ln = 0 := by rw [d2', hy]; rfl
    obtain ⟨p,cap,rfl⟩:∃ p cap,v = .slice p 0 cap:=by
      cases rv with
      | fulN _ l' hl' _ _=>exact ⟨_,_,rfl⟩
      | ful _ cap l' hl' e1 e2 =>
        rw [hl2] at hl'; cases hl'
        exact ⟨_,cap,by rw [h0]⟩
    refine (AnyQ.slices_Reverse_empty revCLay p cap w1).mono ?_
    rintro e w' ⟨rfl,rfl⟩
    exact ⟨rfl,⟨rfl,rfl,rfl,Nat.le_refl _,fun _=>Nat.le_refl _,fun _ _ _=>rfl⟩,fun h=>absurd hy h⟩
  · have hpos := List.length_pos_iff.2 hy
    have hn2:l2.n≠0:=by omega
    obtain ⟨d5,d6,cur2,g4,d7,d8⟩:=d4 hn2
    have g4':w.heap[l2.b]? = some (.cells cur2 67 (0,0)):=g4
    cases rv with
    | fulN _ l' hl' e1 _=>rw [hl2] at hl'; cases hl'; exact absurd e1 hn2
    | ful _ cap l' hl' e1 e2 =>
      rw [hl2] at hl'; cases hl'
      rw [d2']
      refine (revC_call (w:=w1) (cur:=cur2) (T:=67) (by rw [hsame hy]; exact g4') hpos (by omega) fun j hj=>?_).mono ?_
      · have hi : j / 3 < ys.length := by omega
        have hq:j%3 < 3:=by omega
        have hql:j%3 < (E.enc .cnd ys[j / 3]).length:=hq
        obtain ⟨u,u1,u2⟩:=d8 (j / 3) ys[j / 3] (j%3) _ (List.getElem?_eq_getElem hi) (List.getElem?_eq_getElem hql)
        have u1':cur2[j / 3 * 3+j%3]? = some u:=u1
        rw [show j / 3 * 3+j%3=j by omega] at u1'
        exact ⟨u,u1',by
          have hc:=ok.u.cell .cnd ys[j / 3] _ (List.getElem_mem hql)
          have hc':((E.enc .cnd ys[j / 3])[j%3]).cell=true:=hc
          generalize (E.enc .cnd ys[j / 3])[j%3]=cc at u2 hc'
          cases u2<;>first | rfl | (simp [AV.cell] at hc'; done)⟩
      · rintro e w' ⟨rfl, h1, c2, h2, h3, h4⟩
        exact ⟨rfl,⟨h1.os,h1.tape,h1.output,h1.size,h1.drawn,fun k hk hb=>h1.block k hk fun e=>hb ⟨hy,e⟩⟩,fun _=>⟨cur2,c2,g4',h2,h4⟩⟩
set_option maxHeartbeats 1000000 in
theorem part {w0:World} {S0 S:Nat→Prop} {ρ:Rho} {pin:Nat→Option Loc} {a:Act} {w:World} {s:List UInt8} {n i:Nat} {ys:List Cnd} {xs l:List Rule} {nds:List Node} {lks:List Lnk}
  (h:Held X w0 S0 S ρ pin (F3 s n i ys xs l nds lks) a w) (hi:i < xs.length) (hys:ys=xs[i].rw) (hlen:ys.length≤90000) {Q:Exit→Act→World→Prop}
  (hQ:∀ S' a' w',Held X w0 S0 S' ρ pin (F0 s n i (xs.set i (flipR xs[i])) l nds lks) a' w'→Q .normal a' w') :
  wpOps Tryz.prog o13 (Exit.then ((cdp (bb++[1,1]) bd).wp Tryz.prog Q) Q) (List.range' 10 1) a w:=by
 obtain ⟨l1,hl1,c1,c2,c3,c4⟩:=h.inv.heap.get 54000 (.rows .rule xs) (by rfl)
 obtain ⟨l2,hl2,hb2⟩:=h.inv.heap.get 69000 (.rows .cnd ys) (by rfl)
 have c1':l1.s=4:=c1
 have c2':l1.ln=xs.length:=c2
 have c3':xs.length * 4≤l1.n:=c3
 have hn1:l1.n≠0:=by omega
 obtain ⟨c5,c6,cur,hh,c7,c8⟩:=c4 hn1
 have hh:w.heap[l1.b]? = some (.cells cur 49 (0,0)):=hh
 have r8:Rel E S ρ w (.ful 54000) (a.tmps.getD 8 undef):=h.inv.tmps 8
 have r9:Rel E S ρ w (.int .i64 (i:Int)) (a.tmps.getD 9 undef):=h.inv.tmps 9
 have r69:Rel E S ρ w (.ful 69000) (a.tmps.getD 69 undef):=h.inv.tmps 69
 have r71:Rel E S ρ w (.row 54000 i 1) (a.tmps.getD 71 undef):=h.inv.tmps 71
 have hsz:a.tmps.size=194:=h.inv.size
 obtain ⟨cap,e8⟩:∃ cap,a.eval (.tmp 8) = .slice (some ⟨l1.b,0,none⟩) l1.ln cap:=by
  show ∃ cap,a.tmps.getD 8 undef=_
  generalize a.tmps.getD 8 undef=q at r8
  cases r8 with
  | ful _ cap l' hl' _ _=>rw [hl1] at hl'; cases hl'; exact ⟨cap,rfl⟩
  | fulN _ l' hl' e1 _=>rw [hl1] at hl'; cases hl'; exact absurd e1 hn1
 have e9:a.eval (.tmp 9) = .int .i64 (i:Int):=by
  show a.tmps.getD 9 undef=_
  generalize a.tmps.getD 9 undef=q at r9
  cases r9; rfl
 have e71:a.eval (.tmp 71) = .pointer (some ⟨l1.b,i * 4+1,none⟩):=by
  show a.tmps.getD 71 undef=_
  generalize a.tmps.getD 71 undef=q at r71
  cases r71 with
  | row _ _ _ l' hl'=>rw [hl1] at hl'; cases hl'; rw [c1']
 obtain ⟨v,ev⟩:∃ v,a.eval (.tmp 69)=v:=⟨_,rfl⟩
 have rv:Rel E S ρ w (.ful 69000) v:=by rw [← ev]; exact r69
 have hvc:v.cells=#[v]∧v.oneCell'=true:=by cases rv<;>exact ⟨rfl,rfl⟩
 have hoff:i * 4+1 < cur.size:=by rw [c7]; omega
 obtain ⟨nc1,nc2,nc3⟩:=cut_cells (v:=v) hoff
 obtain ⟨w1,hw1⟩:∃ w1,w1=w.setRow l1.b (cur.toList.take (i * 4+1)++[v]++cur.toList.drop (i * 4+1+1)).toArray:=⟨_,rfl⟩
 have hw1h:w1.heap[l1.b]? = some (.cells (cur.toList.take (i * 4+1)++[v]++cur.toList.drop (i * 4+1+1)).toArray 49 (0,0)):=by rw [hw1]; exact setRow_heap w l1.b cur _ _ _ hh
 have hw1o:∀ k,k≠l1.b→w1.heap[k]? = w.heap[k]?:=fun k hk=>by rw [hw1]; exact setRow_other w l1.b k _ hk
 have hsame1:SameAt (fun k=>k=l1.b) w w1:=by rw [hw1]; exact ⟨rfl,rfl,rfl,by simp,fun _=>Nat.le_refl _,fun k hk hb=>setRow_other w l1.b k _ hb⟩
 refine wpOps_skip (w':=w1) st13_at st13_g (by rw [hw1]; exact run_st e71 ev hvc.1 hvc.2 hh (by omega)) ?_
 rw [st13_dst]
 show (cdp (bb++[1,1]) bd).wp Tryz.prog Q a w1
 refine wp_eq (c':=.region 14 o14 false) (by kernel_rfl) (wp_region ?_)
 rw [show List.range o14.size=List.range' 0 6 by kernel_rfl]
 refine wpOps_hand (w':=w1) m0_at m0_g (run_mv m0_op) ?_
 rw [m0_dst]
 obtain ⟨a1,ha1⟩:∃ a1,a1=a.put (some 72) (a.eval (.tmp 8)):=⟨_,rfl⟩
 rw [← ha1]
 have z1:a1.tmps.size=194:=by rw [ha1,put_size]; exact hsz
 have q1:a1.eval (.tmp 72)=.slice (some ⟨l1.b,0,none⟩) l1.ln cap:=by rw [ha1,eval_self (by omega)]; exact e8
 have q2:a1.eval (.tmp 9)=.int .i64 (i:Int):=by rw [ha1,eval_ne (by omega)]; exact e9
 refine wpOps_hand (w':=w1) m1_at m1_g (run_mv m1_op) ?_
 rw [m1_dst]
 obtain ⟨a2,ha2⟩:∃ a2,a2=a1.put (some 73) (a1.eval (.tmp 9)):=⟨_,rfl⟩
 rw [← ha2]
 have z2:a2.tmps.size=194:=by rw [ha2,put_size]; exact z1
 have q3:a2.eval (.tmp 72)=.slice (some ⟨l1.b,0,none⟩) l1.ln cap:=by rw [ha2,eval_ne (by omega)]; exact q1
 have q4:a2.eval (.tmp 73)=.int .i64 (i:Int):=by rw [ha2,eval_self (by omega)]; exact q2
 refine wpOps_hand (w':=w1) m2_at m2_g (run_ix q3 q4 (by rw [c2']; exact hi)) ?_
 rw [m2_dst]
 obtain ⟨a3,ha3⟩:∃ a3,a3=a2.put (some 74) (.pointer (some ⟨l1.b,i * 4,none⟩)):=⟨_,rfl⟩
 rw [← ha3]
 have z3:a3.tmps.size=194:=by rw [ha3,put_size]; exact z2
 have q5:a3.eval (.tmp 74)=.pointer (some ⟨l1.b,i * 4,none⟩):=by rw [ha3,eval_self (by omega)]
 refine wpOps_hand (w':=w1) m3_at m3_g (run_fd q5) ?_
 rw [m3_dst]
 obtain ⟨a4,ha4⟩:∃ a4,a4=a3.put (some 75) (.pointer (some ⟨l1.b,i * 4+1,none⟩)):=⟨_,rfl⟩
 rw [← ha4]
 have z4:a4.tmps.size=194:=by rw [ha4,put_size]; exact z3
 have q6:a4.eval (.tmp 75)=.pointer (some ⟨l1.b,i * 4+1,none⟩):=by rw [ha4,eval_self (by omega)]
 refine wpOps_hand (w':=w1) (v:=v) m4_at m4_g (run_ld q6 (by rw [(cell_at (o:=i * 4+1) hw1h).1]; exact nc2)) ?_
 rw [m4_dst]
 obtain ⟨a5,ha5⟩:∃ a5,a5=a4.put (some 76) v:=⟨_,rfl⟩
 rw [← ha5]
 have z5:a5.tmps.size=194:=by rw [ha5,put_size]; exact z4
 have q7:a5.eval (.tmp 76)=v:=by rw [ha5,eval_self (by omega)]
 have hrun:(execOp a5.eval m5).run Tryz.prog w1 = .ok (.enter 33 #[v]) w1:=by
  have hcall:=Tryz.call33 #[v] w1
  have q7':a5.tmps[76]?.getD undef=v:=by
   have:=q7
   rw [← this]
   show _=a5.tmps.getD 76 undef
   rw [Array.getD_eq_getD_getElem?]
  simp [execOp,m5_op,resolve,Deferred.ofValue,invoke,Act.eval,q7']
 rw [show List.range' 5 1=[5] by rfl,wpOps_cons]
 unfold wpOp
 rw [m5_at]
 have hwant:Region.wanted m5 (yielded o14 a5.tmps)=true:=by simp [Region.wanted,m5_g]
 simp only [hwant,if_true]
 refine .inl ?_
 unfold Oper.wp
 rw [hrun]
 show Calls Tryz.prog _ _ w1 _
 have hl21:ys≠[]→l2.b≠l1.b:=fun hy=>by
  have hn2:l2.n≠0:=by
   have:=List.length_pos_iff.2 hy
   have d3:ys.length * 3≤l2.n:=hb2.2.2.1
   omega
  exact h.inv.heap.inj 69000 54000 _ _ l2 l1 (by rfl) (by rfl) (by omega) hl2 hl1 hn2 hn1
 refine (rev_at hl2 hb2 rv hlen fun hy=>hw1o _ (hl21 hy)).mono ?_
 rintro e w' ⟨rfl,hs2,hrev⟩
 show Q .normal (a5.put m5.dst (.tuple #[])) w'
 rw [m5_dst]
 have hl1b:w'.heap[l1.b]? = w1.heap[l1.b]?:=hs2.block _ (Array.getElem?_eq_some_iff.1 hw1h).1 (fun ⟨hy,e⟩=>hl21 hy e.symm)
 obtain ⟨S',hH⟩:=turned (a':=a5.put (some 77) (.tuple #[])) (w':=w') h hi hys hl1 hl2 rv hh (hl1b.trans hw1h) nc1 nc2 nc3
  ⟨hs2.os.trans hsame1.os,hs2.tape.trans hsame1.tape,hs2.output.trans hsame1.output,Nat.le_trans hsame1.size hs2.size,fun d=>Nat.le_trans (hsame1.drawn d) (hs2.drawn d),fun k hk hb =>
   (hs2.block k (Nat.lt_of_lt_of_le hk hsame1.size) fun e=>hb (.inr e)).trans (hsame1.block k hk fun e=>hb (.inl e))⟩ hrev
  (fun t ht=>by
   show (a5.put (some 77) (.tuple #[])).eval (.tmp t)=a.eval (.tmp t)
   rw [eval_ne (by omega),ha5,eval_ne (by omega),ha4,eval_ne (by omega),ha3,eval_ne (by omega),ha2,eval_ne (by omega),ha1,eval_ne (by omega)])
  (by rw [put_size,z5,hsz]) (by rw [put_defers,ha5,put_defers,ha4,put_defers,ha3,put_defers,ha2,put_defers,ha1,put_defers])
 exact hQ S' _ _ hH
end turnO
end Go.Proofs.YthdimnlkcgchoaaGreat
namespace Go.Proofs.YthdimnlkcgchoaaGreat
set_option linter.all false
set_option maxRecDepth 100000
open Go.RowKit Go.Shelf
namespace turnO
theorem no_guard {l:List Oper} (h:l.all (fun o=>o.guard.isNone)=true):∀ o∈l,o.guard=none:=fun o ho=>by
 have:=List.all_eq_true.1 h o ho
 cases hg:o.guard with
 | none=>rfl
 | some g=>rw [hg] at this; cases this
noncomputable def mix (xs:List Rule) (k:Nat):List Rule:=(xs.take k).map flipR++xs.drop k
theorem mix_len {xs:List Rule} {k:Nat} (h:k≤xs.length):(mix xs k).length=xs.length:=by unfold mix; simp; omega
theorem mix_get {xs:List Rule} {k:Nat} (h:k < xs.length) (h':k < (mix xs k).length):(mix xs k)[k]=xs[k]:=by
 have hl:((xs.take k).map flipR).length=k:=by simp; omega
 have:(mix xs k)[k]? = some xs[k]:=by
  unfold mix
  rw [List.getElem?_append_right (by omega),hl,Nat.sub_self,drop_lt h]
  rfl
 rw [List.getElem?_eq_getElem h'] at this
 exact Option.some.inj this
theorem mix_set {xs:List Rule} {k:Nat} (h:k < xs.length):(mix xs k).set k (flipR xs[k])=mix xs (k+1):=by
 have hl:((xs.take k).map flipR).length=k:=by simp; omega
 unfold mix
 rw [List.set_append_right _ _ (by omega),hl,Nat.sub_self,drop_lt h,List.set_cons_zero,take_lt h,List.map_append,List.append_assoc]
 rfl
theorem mix_all (xs:List Rule):mix xs xs.length=xs.map flipR:=by unfold mix; simp
abbrev GT:(Nat→Prop)→(Nat→Prop)→World→Prop:=fun _ _ _=>True
theorem gst:Stable GT:=fun _ _ _ _ _ _ _ _ _ _ _=>trivial
def At (w0:World) (S0:Nat→Prop) (s:List UInt8) (xs l:List Rule) (nds:List Node) (lks:List Lnk) (k:Nat) (a:Act) (w:World):Prop:=∃ S ρ,Held X w0 S0 S ρ (fun _=>none) (F0 s xs.length k (mix xs k) l nds lks) a w
set_option maxHeartbeats 1000000 in
theorem loop {w0 : World} {S0 : Nat → Prop} {s : List UInt8} {xs l : List Rule} {nds : List Node} {lks : List Lnk} (hok : okR xs = true) {Q : Exit → Act → World → Prop} (hQ : ∀ a' w', At w0 S0 s xs l nds lks xs.length a' w' → Q (.exit 0) a' w') :
    ∀ (n k:Nat) (a:Act) (w:World),xs.length < n+k→k≤xs.length→At w0 S0 s xs l nds lks k a w→Code.rounds Tryz.prog (cdp lb bd) Q n a w:=by
  simp only [okR,Bool.and_eq_true] at hok
  have hxl:=nleI hok.1
  intro n
  induction n with
  | zero=>intro k a w h1 h2; omega
  | succ n ih =>
    rintro k a w h1 h2 ⟨S,ρ,hH⟩
    show (cdp lb bd).wp Tryz.prog (Exit.then (Code.rounds Tryz.prog (cdp lb bd) Q n) Q) a w
    refine Held.on ok okM gst (c1:=cdp (lb++[0]) bd) (c2:=cdp (lb++[1]) bd) (by kernel_rfl) hH trivial (e11 s xs.length k _ l nds lks) fun S1 ρ1 a1 w1 hH1 _=>?_
    refine wp_eq (c':=.seq (cdp (lb++[1,0]) bd) (cdp (lb++[1,1]) bd)) (by kernel_rfl) (wp_seq ?_)
    by_cases hk:k < xs.length
    · rw [iltT (show (k : Int) < Int.ofNat xs.length by simp; omega)] at hH1
      refine Held.end1 ok okM gst (st:=F1 s xs.length k _ l nds lks true) hH1 trivial (e11t s xs.length k _ l nds lks) fun S2 ρ2 a2 w2 hH2 _=>?_
      show (cdp (lb++[1,1]) bd).wp Tryz.prog _ a2 w2
      refine wp_eq (c':=.seq (cdp (lb++[1,1,0]) bd) (cdp (lb++[1,1,1]) bd)) (by kernel_rfl) (wp_seq ?_)
      refine wp_eq (c':=.block 1 (cdp bb bd)) (by kernel_rfl) (wp_block ?_)
      refine Held.on ok okM gst (c1:=cdp (bb++[0]) bd) (c2:=cdp (bb++[1]) bd) (st:=F0 s xs.length k _ l nds lks) (by kernel_rfl) hH2 trivial (e12 s xs.length k _ l nds lks) fun S3 ρ3 a3 w3 hH3 _=>?_
      refine wp_eq (c':=.seq (cdp (bb++[1,0]) bd) (cdp (bb++[1,1]) bd)) (by kernel_rfl) (wp_seq ?_)
      refine wp_eq (c':=.region 13 o13 false) (by kernel_rfl) (wp_region ?_)
      rw [show List.range o13.size=List.range' 0 (o13.toList.take 10++o13.toList.drop 10).length by kernel_rfl]
      have hkm:k < (mix xs k).length:=by rw [mix_len h2]; exact hk
      have hr:xs[k].rw.length≤90000:=nleI (List.all_eq_true.1 hok.2 _ (List.getElem_mem hk))
      have hg:List.getD (mix xs k) k d_rule=xs[k]:=by rw [getD_lt hkm,mix_get hk]
      refine Held.ops ok okM gst (st:=F2 s xs.length k _ l nds lks) (o13.toList.drop 10) (o13.toList.take 10) 0 hH3 trivial (List.take_append_drop 10 _).symm (no_guard (by kernel_rfl))
        ((e13 s xs.length k _ l nds lks).trans (by rw [hg,inbT hkm,nltT hkm,nleT hr]; rfl)) fun S4 ρ4 a4 w4 hH4 _=>?_
      rw [show 0+(o13.toList.take 10).length=10 by kernel_rfl,show (o13.toList.drop 10).length=1 by kernel_rfl]
      refine part (ys:=xs[k].rw) hH4 hkm (by rw [mix_get hk]) hr fun S5 a5 w5 hH5=>?_
      rw [mix_get hk,mix_set hk] at hH5
      show (cdp (lb++[1,1,1]) bd).wp Tryz.prog _ a5 w5
      refine Held.end1 ok okM gst (st:=F0 s xs.length k _ l nds lks) hH5 trivial (e15 s xs.length k _ l nds lks) fun S6 ρ6 a6 w6 hH6 _=>?_
      rw [wrapS k (by omega)] at hH6
      exact ih (k+1) a6 w6 (by omega) hk ⟨S6,ρ6,hH6⟩
    · have hke : k = xs.length := by omega
      rw [iltF (show ¬ (k:Int) < Int.ofNat xs.length by simp; omega)] at hH1
      refine Held.out ok okM gst 0 (st:=F1 s xs.length k _ l nds lks false) hH1 trivial (e11f s xs.length k _ l nds lks) fun S2 ρ2 a2 w2 hH2 _=>?_
      subst hke
      exact hQ a2 w2 ⟨S2,ρ2,hH2⟩
theorem cutS {X:Ctx U El} {B:Bd} {S0:Nat→Prop} {w0:World} {st:St U El} {a:Act} {w:World} (hs:StRel X B S0 w0 st a w) {m:Nat} {sl ids:List Nat} {vs:List (AV U El)} {hs':Heap U El} (he:outK m sl ids st=some (.tup (.int .i64 m :: vs),hs')):StRel X B S0 w0 ⟨zipT sl vs,hs'⟩ a w:=by
 unfold outK at he
 simp only [Option.some.injEq,Prod.mk.injEq,AV.tup.injEq,List.cons.injEq,true_and] at he
 obtain ⟨rfl,rfl⟩:=he
 obtain ⟨S,ρ,hi⟩:=hs
 refine ⟨S,ρ,hi.defers,hi.size,hi.below,hi.hB,hi.s0,hi.s1,hi.g0,fun i=>?_,⟨fun id b hg=>hi.heap.get id b (keepH_get _ _ _ _ hg),fun i j b b' l l' h1 h2=>hi.heap.inj i j b b' l l' (keepH_get _ _ _ _ h1) (keepH_get _ _ _ _ h2),hi.heap.lt⟩⟩
 rcases zipT_get st.t sl i with e | e
 ·rw [e]; exact .any _
 ·rw [e]; exact hi.tmps i
theorem start {X':Ctx U El} (hE:X'.E=E) (hn:X'.nt=194) {w0:World} {S0:Nat→Prop} {st st':St U El} {a:Act} {w:World} (hs:StRel X' (From w0) S0 w0 st a w) (ht:∀ i,tget st'.t i=.any∨tget st'.t i=tget st.t i) (hh:∀ id b,hget st'.h id=some b→hget st.h id=some b)
  (hp:plainTags st'.h=true):∃ S ρ,Held X w0 S0 S ρ (fun _=>none) st' a w:=by
 obtain ⟨S,ρ,hi⟩:=hs
 have hT:=hi.tmps
 have hHp:=hi.heap
 have hG:=hi.g0
 rw [hE] at hT hHp hG
 have hown:∀ k,InHeap st'.h ρ k→w0.heap.size≤k:=by
  rintro k ⟨id,b,l,h1,h2,h3,rfl⟩
  obtain ⟨l',e,hb⟩:=hHp.get id b (hh id b h1)
  rw [h2] at e; cases e
  exact (hb.lt h3).2.1
 refine ⟨S,ρ,⟨⟨hi.defers,hi.size.trans hn,Fr.refl _ _,fun k hk=>.inl hk,fun _ h=>h,fun _ h=>.inl h,fun w2 hb=>hG w2 (hi.below.trans (hb.mono fun k hk=>hk.elim (fun e=>Nat.le_trans hi.below.size e) (hown k))),fun i=>?_,⟨fun id b hg=>?_,fun i j b b' l l' h1 h2=>hHp.inj i j b b' l l' (hh _ _ h1) (hh _ _ h2),hHp.lt⟩⟩,hi.below,hi.s0,hi.s1,hown,hG,rfl⟩⟩
 ·rcases ht i with e | e
  ·rw [e]; exact .any _
  ·rw [e]; exact hT i
 ·obtain ⟨l,h1,h2⟩:=hHp.get id b (hh id b hg)
  exact ⟨l,h1,h2.pins (fun hn=>.inr ⟨id,b,l,hg,h1,hn,rfl⟩) fun t cs e=>by subst e; exact .inl (plainTags_eq hp hg)⟩
theorem shr (s:List UInt8) (n i:Nat) (xs l:List Rule) (nds:List Node) (lks:List Lnk):shareRow (F0 s n i xs l nds lks) 8 .rule (outK 0 [3,4,7,8] [3,4])=res 0 [.ptr 3 0,.ptr 4 0,.str s,.lst .rule xs] (hB l nds lks):=by kernel_rfl
theorem the_block:(blocksOf bd).filter (fun p=>Nat.beq p.1 0)=[(0,.loop (cdp lb bd))]:=by kernel_rfl
theorem frO_some {st : St U El} {K : St U El → Option (Fin U El)} {r : Fin U El} (h : frO st K = some r) : ∃ s xs l nds lks, tget st.t 3 = .ptr 3 0 ∧ tget st.t 4 = .ptr 4 0 ∧ tget st.t 7 = .str s ∧ tget st.t 8 = .ful 54000 ∧ tget st.t 58 = .int .i64 (Int.ofNat (List.length (α := Rule) xs)) ∧ tget st.t 59 = .int .i64 0 ∧
    hget st.h 3=some (.box 0 [.lst .rule l])∧hget st.h 4=some (.box 0 [.lst .node nds,.lst .link lks])∧hget st.h 54000=some (.rows .rule xs)∧okR xs=true ∧
    K ⟨[(3,.ptr 3 0),(4,.ptr 4 0),(7,.str s),(8,.lst .rule (List.map flipR xs))],[(3,.box 0 [.lst .rule l]),(4,.box 0 [.lst .node nds,.lst .link lks])]⟩=some r:=by
  unfold frO at h
  split at h
  · rename_i i3 o3 i4 o4 s i8 n z h3 h4 h7 h8 h58 h59
    cases hc:(Nat.beq i3 3&&(Nat.beq o3 0&&(Nat.beq i4 4&&(Nat.beq o4 0&&Nat.beq i8 54000)))) with
    | false=>rw [hc] at h; cases h
    | true =>
      rw [hc,cond_true] at h
      simp only [Bool.and_eq_true] at hc
      obtain ⟨q1,q2,q3,q4,q5⟩:=hc
      have q1:=Nat.eq_of_beq_eq_true q1
      have q2:=Nat.eq_of_beq_eq_true q2
      have q3:=Nat.eq_of_beq_eq_true q3
      have q4:=Nat.eq_of_beq_eq_true q4
      have q5:=Nat.eq_of_beq_eq_true q5
      subst q1 q2 q3 q4 q5
      split at h
      · rename_i t3 l t4 nds lks xs g3 g4 g8
        cases hc2:(Nat.beq t3 0&&Nat.beq t4 0) with
        | false=>rw [hc2] at h; cases h
        | true =>
          rw [hc2,cond_true] at h
          simp only [Bool.and_eq_true] at hc2
          have p1:=Nat.eq_of_beq_eq_true hc2.1
          have p2:=Nat.eq_of_beq_eq_true hc2.2
          subst p1 p2
          obtain ⟨hk1,hk2⟩:=chk_some h
          simp only [Bool.and_eq_true,beq_iff_eq] at hk1
          obtain ⟨k1,k2,k3⟩:=hk1
          subst k2 k3
          exact ⟨s,xs,l,nds,lks,h3,h4,h7,h8,h58,h59,g3,g4,g8,k1,hk2⟩
      · cases h
  · cases h
set_option maxHeartbeats 1000000 in
theorem frO_ok {X':Ctx U El} (hE:X'.E=E) (hn:X'.nt=194) (hf:X'.frag=fun i=>bif Nat.beq i 0 then some frO else none) (S0:Nat→Prop) (w0:World) (r:Fin U El):FragOk Tryz.prog X' (From w0) S0 w0 r bd:=by
  intro p hp f hfr st K a w Q hs hv hK
  rw [hf] at hfr
  simp only at hfr
  cases hp0:Nat.beq p.1 0 with
  | false=>rw [hp0] at hfr; cases hfr
  | true =>
    rw [hp0] at hfr
    cases hfr
    have hm:p∈(blocksOf bd).filter (fun p=>Nat.beq p.1 0):=List.mem_filter.2 ⟨hp,hp0⟩
    rw [the_block] at hm
    obtain rfl:=List.mem_singleton.1 hm
    obtain ⟨s,xs,l,nds,lks,h3,h4,h7,h8,h58,h59,g3,g4,g8,hok,hk⟩:=frO_some hv
    have hlen:xs.length≤90000:=by
      have:=hok
      simp only [okR,Bool.and_eq_true] at this
      exact nleI this.1
    obtain ⟨S,ρ,hH⟩:=start hE hn (st':=F0 s xs.length 0 xs l nds lks) hs (fun i=>by
      by_cases e3:i=3
      · subst e3; exact .inr h3.symm
      by_cases e4:i=4
      · subst e4; exact .inr h4.symm
      by_cases e7:i=7
      · subst e7; exact .inr h7.symm
      by_cases e8:i=8
      · subst e8; exact .inr h8.symm
      by_cases e58:i=58
      · subst e58; exact .inr h58.symm
      by_cases e59:i=59
      · subst e59; exact .inr h59.symm
      refine .inl ?_
      show tget (zipT s8 (vs8 s xs.length 0)) i=.any
      simp only [s8,vs8,zipT,tget,nbeq_ne (Ne.symm e3),nbeq_ne (Ne.symm e4),nbeq_ne (Ne.symm e7),nbeq_ne (Ne.symm e8),nbeq_ne (Ne.symm e58),nbeq_ne (Ne.symm e59),cond_false]) (fun id b hg=>by
      have hg':hget (hX xs l nds lks) id=some b:=hg
      simp only [hX,hB,hget] at hg'
      by_cases e8:54000=id
      · subst e8; cases hg'; exact g8
      rw [nbeq_ne e8,cond_false] at hg'
      by_cases e3:3=id
      · subst e3; cases hg'; exact g3
      rw [nbeq_ne e3,cond_false] at hg'
      by_cases e4:4=id
      · subst e4; cases hg'; exact g4
      rw [nbeq_ne e4,cond_false] at hg'
      cases hg') (by rfl)
    refine wp_block (wp_loop_rounds 100000 ?_)
    refine loop (w0:=w0) (S0:=S0) (s:=s) (l:=l) (nds:=nds) (lks:=lks) hok (fun a' w' hA => ?_) 100000 0 a w (by omega) (by omega) ⟨S,ρ,by
      have e:mix xs 0=xs:=by unfold mix; simp
      rw [e]
      exact hH⟩
    simp only [Exit.inBlock,if_true]
    obtain ⟨S2,ρ2,hH2⟩:=hA
    rw [mix_all] at hH2
    have hd:=hH2.done fun id t cs hh=>plainTags_eq (by rfl) hh
    obtain ⟨st2,hs2,ho⟩:=shareRow_sound ok hd (shr s xs.length xs.length (xs.map flipR) l nds lks)
    have hs3:=cutS (m:=0) hs2 ho
    obtain ⟨S3,ρ3,hi3⟩:=hs3
    refine hK _ a' w' ⟨S3,ρ3,hi3.defers,hi3.size.trans hn.symm,hi3.below,hi3.hB,hi3.s0,hi3.s1,by rw [hE]; exact hi3.g0,by rw [hE]; exact hi3.tmps,by rw [hE]; exact hi3.heap⟩ hk
end turnO
end Go.Proofs.YthdimnlkcgchoaaGreat
