/- rules.Simpler: its code piece by piece, in the kernel. -/
import Derived.Test.YtlkfbblapimhoaaGreatDoorUS
namespace Go.Proofs.YtlkfbblapimhoaaGreatDoor
set_option linter.unusedSectionVars false
set_option linter.unusedSimpArgs false
set_option linter.unusedVariables false
set_option maxRecDepth 100000
namespace usimpler
noncomputable def bd:Code:=(Tryz.f24.body).getD .skip
noncomputable def X:Ctx U El:=⟨E,tds,zeros,eqs,specOf [(48,valid1.sp)],100000,192,dspecOf [],fun _=>none⟩
theorem ok:CtxOk Tryz.prog X:=ctxOk tab (spC valid1.spOk spN) dpN
theorem okM:MOk Tryz.prog X:=fun g sp h=>by cases h
noncomputable abbrev ex (p:List Nat) (n:Ann U) (st:St U El) (sl ids:List Nat):R:=exec X (cdp p bd) n st (outK 0 sl ids) (fun i=>outK (2 * i+2) sl ids) (outK 1 sl ids)
noncomputable abbrev res (m:Nat) (vs:List (AV U El)) (hs:Heap U El):R:=some (.tup (.int .i64 (m:Int) :: vs),hs)
noncomputable def opsOf:Code→Array Oper | .region _ ops _=>ops | _=>#[]
abbrev rc (r:Rule):List (AV U El):=[.str r.rn,.lst .cnd r.rw,.str r.rl,.int .i64 r.rs]
abbrev zc:List (AV U El):=[.str [],.nils,.str [],.int .i64 0]
noncomputable abbrev c1 (r:Rule) (k:Nat):Cnd:=List.getD r.rw k d_cnd
abbrev pl (r:Rule) (k:Nat):AV U El := .pel .cnd r.rw k 0
abbrev b2 (r:Rule):Heap U El:=[(1,.box 0 (rc r)),(2,.box 0 zc)]
abbrev v3:List (AV U El):=[.ptr 1 0,.ptr 2 0,.int .i64 0]
noncomputable def A1 (r:Rule):St U El:=⟨zipT [1,2,3] v3,b2 r⟩
theorem e0 (r:Rule):ex [0] .d ⟨args0 [.agg (rc r)] 0,[]⟩ [1,2,3] [1,2]=res 0 v3 (b2 r):=by kernel_rfl
theorem e1 (r:Rule):ex [1,0] .d (A1 r) [1,2,3] [1,2]=condB (!(ruleB r)) (res 1 [.ptr 1 0,.ptr 2 0,.int .i64 1] (b2 r)) (res 0 v3 (b2 r)):=by kernel_rfl
abbrev g7:Nat×Blk U El:=(7000,.box 7000 [])
noncomputable def A2 (r:Rule):St U El:=⟨zipT [1,2,3,4] (v3++[.mp 7000]),b2 r++[g7]⟩
theorem e3 (r:Rule):runOps X [] ((opsOf (cdp [1,1,0] bd)).toList.drop 1) ⟨(20,.mp 7000) :: zipT [1,2,3] v3,g7 :: b2 r⟩ (outK 0 [1,2,3,4] [1,2,7000])=res 0 (v3++[.mp 7000]) (b2 r++[g7]):=by kernel_rfl
theorem e4 (r:Rule):ex [1,1,1,0] .d (A2 r) [1,2,3,4,5] [1,2,7000]=res 0 (v3++[.mp 7000,.nils]) (b2 r++[g7]):=by kernel_rfl
noncomputable def A4 (r:Rule):St U El:=⟨zipT [1,2,3,4,5] (v3++[.mp 7000,.nils]),b2 r++[g7]⟩
abbrev s1:List Nat:=[1,2,3,4,5,23,24]
abbrev h1:List Nat:=[1,2,5,7000]
abbrev len (r:Rule):AV U El := .int .i64 (Int.ofNat r.rw.length)
theorem e5 (r:Rule):ex [1,1,1,1,0,0] .d (A4 r) s1 [1,2,7000]=res 0 (v3++[.mp 7000,.nils,len r,.int .i64 ((0:Nat):Int)]) (b2 r++[g7]):=by kernel_rfl
noncomputable def A5 (r:Rule):St U El:=⟨zipT s1 (v3++[.mp 7000,.nils,len r,.int .i64 ((0:Nat):Int)]),b2 r++[g7]⟩
abbrev vL (r:Rule) (k:Nat):List (AV U El):=v3++[.mp 7000,.ful 5,len r,.int .i64 (k:Int)]
abbrev hL (r:Rule) (ns:List (List UInt8)):Heap U El:=[(1,.box 0 (rc r)),(2,.box 0 zc),(5,.rows .str ns),g7]
noncomputable def L1 (r:Rule) (ns:List (List UInt8)) (k:Nat):St U El:=⟨zipT s1 (vL r k),hL r ns⟩
noncomputable def nmL:Norm U:=⟨[(5,.str)],s1,h1,[],[],[],[]⟩
theorem n5 (r:Rule):normK nmL (A5 r) (outK 0 s1 h1)=res 0 (vL r 0) (hL r []):=by kernel_rfl
abbrev lb:List Nat:=[1,1,1,1,0,1,0,0]
theorem e6 (r:Rule) (ns:List (List UInt8)) (k:Nat):ex (lb++[0]) .d (L1 r ns k) (s1++[25]) h1=res 0 (vL r k++[.bool (ilt (k:Int) (Int.ofNat r.rw.length))]) (hL r ns):=by kernel_rfl
noncomputable def L6 (r:Rule) (ns:List (List UInt8)) (k:Nat) (b:Bool):St U El:=⟨zipT (s1++[25]) (vL r k++[.bool b]),hL r ns⟩
theorem e6t (r:Rule) (ns:List (List UInt8)) (k:Nat):ex (lb++[1,0]) .d (L6 r ns k true) s1 h1=res 0 (vL r k) (hL r ns):=by kernel_rfl
theorem e6f (r:Rule) (ns:List (List UInt8)) (k:Nat):ex (lb++[1,0]) .d (L6 r ns k false) s1 h1=res 2 (vL r k) (hL r ns):=by kernel_rfl
abbrev bb:List Nat:=lb++[1,1,0,0]
theorem e7 (r:Rule) (ns:List (List UInt8)) (k:Nat):ex (bb++[0]) .d (L1 r ns k) (s1++[6]) h1=res 0 (vL r k++[.int .i64 (k:Int)]) (hL r ns):=by kernel_rfl
noncomputable def L7 (r:Rule) (ns:List (List UInt8)) (k:Nat):St U El:=⟨zipT (s1++[6]) (vL r k++[.int .i64 (k:Int)]),hL r ns⟩
theorem e8 (r:Rule) (ns:List (List UInt8)) (k:Nat):ex (bb++[1,0]) .d (L7 r ns k) (s1++[7]) h1=chk (inb (k:Int) (List.length r.rw)) (res 0 (vL r k++[pl r k]) (hL r ns)):=by kernel_rfl
noncomputable def L8 (r:Rule) (ns:List (List UInt8)) (k:Nat):St U El:=⟨zipT (s1++[7]) (vL r k++[pl r k]),hL r ns⟩
noncomputable def o9:Array Oper:=opsOf (cdp (bb++[1,1,0]) bd)
theorem e9a (r:Rule) (ns:List (List UInt8)) (k:Nat):runOps X [] (o9.toList.take 5) (L8 r ns k) (outK 0 (s1++[7,32,36]) h1)=res 0 (vL r k++[pl r k,.mp 7000,.str (c1 r k).cn]) (hL r ns):=by kernel_rfl
noncomputable abbrev t9 (r:Rule) (k:Nat):Tmps U El:=zipT (s1++[7,32,36]) (vL r k++[pl r k,.mp 7000,.str (c1 r k).cn])
noncomputable def L9a (r:Rule) (ns:List (List UInt8)) (k:Nat):St U El:=⟨t9 r k,hL r ns⟩
theorem e9b (r:Rule) (ns:List (List UInt8)) (k:Nat) (cs:List (AV U El)):runOps X [] (o9.toList.drop 6) ⟨(37,.tup [.ptr 9000 0,.bool true]) :: t9 r k,(9000,.box 9000 cs) :: hL r ns⟩ (outK 0 (s1++[7,8,9]) (h1++[9000]))=res 0 (vL r k++[pl r k,.ptr 9000 0,.bool true]) (hL r ns++[(9000,.box 9000 cs)]):=by kernel_rfl
theorem e9c (r:Rule) (ns:List (List UInt8)) (k:Nat):runOps X [] (o9.toList.drop 6) ⟨(37,.tup [.nilp,.bool false]) :: t9 r k,hL r ns⟩ (outK 0 (s1++[7,8,9]) h1)=res 0 (vL r k++[pl r k,.nilp,.bool false]) (hL r ns):=by kernel_rfl
noncomputable def L9f (r:Rule) (ns:List (List UInt8)) (k:Nat) (lo hi:Option Nat):St U El:=⟨zipT (s1++[7,8,9]) (vL r k++[pl r k,.ptr 9000 0,.bool true]),hL r ns++[(9000,.box 9000 [pcell r lo,pcell r hi])]⟩
noncomputable def L9n (r:Rule) (ns:List (List UInt8)) (k:Nat):St U El:=⟨zipT (s1++[7,8,9]) (vL r k++[pl r k,.nilp,.bool false]),hL r ns⟩
noncomputable def loN (r:Rule) (k:Nat) (lo:Option Nat):Option Nat:=bif (c1 r k).cb then lo else match lo with | none=>some k | some p=>bif ilt (c1 r p).cl (c1 r k).cl then some k else lo
noncomputable def hiN (r:Rule) (k:Nat) (hi:Option Nat):Option Nat:=bif (c1 r k).cb then (match hi with | none=>some k | some q=>bif ilt (c1 r k).cl (c1 r q).cl then some k else hi) else hi
theorem loN_n (r:Rule) (k:Nat):loN r k none=bif (c1 r k).cb then none else some k:=rfl
theorem loN_s (r:Rule) (k p:Nat):loN r k (some p)=bif (c1 r k).cb then some p else bif ilt (c1 r p).cl (c1 r k).cl then some k else some p:=rfl
theorem hiN_n (r:Rule) (k:Nat):hiN r k none=bif (c1 r k).cb then some k else none:=rfl
theorem hiN_s (r:Rule) (k q:Nat):hiN r k (some q)=bif (c1 r k).cb then (bif ilt (c1 r k).cl (c1 r q).cl then some k else some q) else some q:=rfl
noncomputable abbrev rf (r:Rule) (ns:List (List UInt8)) (k:Nat) (a b:AV U El):R:=res 0 (vL r k) (hL r ns++[(9000,.box 9000 [a,b])])
theorem fNN (r:Rule) (ns:List (List UInt8)) (k:Nat):ex (bb++[1,1,1]) .d (L9f r ns k none none) s1 (h1++[9000])=condB (c1 r k).cb (rf r ns k .nilp (pl r k)) (condB (!(c1 r k).cb) (rf r ns k (pl r k) .nilp) (rf r ns k .nilp .nilp)):=by kernel_rfl
theorem fNS (r:Rule) (ns:List (List UInt8)) (k q:Nat):ex (bb++[1,1,1]) .d (L9f r ns k none (some q)) s1 (h1++[9000])=condB (c1 r k).cb (condB (ilt (c1 r k).cl (c1 r q).cl) (rf r ns k .nilp (pl r k)) (condB (!(c1 r k).cb) (rf r ns k (pl r k) (pl r q)) (rf r ns k .nilp (pl r q)))) (condB (!(c1 r k).cb) (rf r ns k (pl r k) (pl r q)) (rf r ns k .nilp (pl r q))):=by kernel_rfl
theorem fSN (r:Rule) (ns:List (List UInt8)) (k p:Nat):ex (bb++[1,1,1]) .d (L9f r ns k (some p) none) s1 (h1++[9000])=condB (c1 r k).cb (rf r ns k (pl r p) (pl r k)) (condB (!(c1 r k).cb) (condB (ilt (c1 r p).cl (c1 r k).cl) (rf r ns k (pl r k) .nilp) (rf r ns k (pl r p) .nilp)) (rf r ns k (pl r p) .nilp)):=by kernel_rfl
theorem fSS (r:Rule) (ns:List (List UInt8)) (k p q:Nat):ex (bb++[1,1,1]) .d (L9f r ns k (some p) (some q)) s1 (h1++[9000]) =
    condB (c1 r k).cb (condB (ilt (c1 r k).cl (c1 r q).cl) (rf r ns k (pl r p) (pl r k)) (condB (!(c1 r k).cb) (condB (ilt (c1 r p).cl (c1 r k).cl) (rf r ns k (pl r k) (pl r q)) (rf r ns k (pl r p) (pl r q))) (rf r ns k (pl r p) (pl r q))))
      (condB (!(c1 r k).cb) (condB (ilt (c1 r p).cl (c1 r k).cl) (rf r ns k (pl r k) (pl r q)) (rf r ns k (pl r p) (pl r q))) (rf r ns k (pl r p) (pl r q))):=by kernel_rfl
theorem eF (r:Rule) (ns:List (List UInt8)) (k:Nat) (lo hi:Option Nat):ex (bb++[1,1,1]) .d (L9f r ns k lo hi) s1 (h1++[9000])=rf r ns k (pcell r (loN r k lo)) (pcell r (hiN r k hi)):=by
  cases lo with
  | none =>
    cases hi with
    | none=>rw [fNN,loN_n,hiN_n]; cases (c1 r k).cb<;>rfl
    | some q=>rw [fNS,loN_n,hiN_s]; cases (c1 r k).cb<;>cases ilt (c1 r k).cl (c1 r q).cl<;>rfl
  | some p =>
    cases hi with
    | none=>rw [fSN,loN_s,hiN_n]; cases (c1 r k).cb<;>cases ilt (c1 r p).cl (c1 r k).cl<;>rfl
    | some q=>rw [fSS,loN_s,hiN_s]; cases (c1 r k).cb<;>cases ilt (c1 r p).cl (c1 r k).cl<;>cases ilt (c1 r k).cl (c1 r q).cl<;>rfl
theorem e10 (r:Rule) (ns:List (List UInt8)) (k:Nat):ex (bb++[1,1,1,0,0]) .d (L9n r ns k) (s1++[7,8,41]) h1=res 0 (vL r k++[pl r k,.nilp,.bool true]) (hL r ns):=by kernel_rfl
noncomputable def L10 (r:Rule) (ns:List (List UInt8)) (k:Nat):St U El:=⟨zipT (s1++[7,8,41]) (vL r k++[pl r k,.nilp,.bool true]),hL r ns⟩
abbrev nb:List Nat:=bb++[1,1,1,0,1,0]
abbrev b43:Nat×Blk U El:=(43,.box 0 [.nilp,.nilp])
theorem e11 (r:Rule) (ns:List (List UInt8)) (k:Nat):ex (nb++[0]) .d (L10 r ns k) (s1++[7,8]) (43 :: h1)=res 0 (vL r k++[pl r k,.ptr 43 0]) (b43 :: hL r ns):=by kernel_rfl
noncomputable def L11 (r:Rule) (ns:List (List UInt8)) (k:Nat):St U El:=⟨zipT (s1++[7,8]) (vL r k++[pl r k,.ptr 43 0]),b43 :: hL r ns⟩
noncomputable def o12:Array Oper:=opsOf (cdp (nb++[1,0]) bd)
noncomputable abbrev v12 (r:Rule) (k:Nat):List (AV U El):=vL r k++[pl r k,.ptr 43 0,.mp 7000,.str (c1 r k).cn,.ptr 43 0]
theorem e12 (r:Rule) (ns:List (List UInt8)) (k:Nat):runOps X [] (o12.toList.take 6) (L11 r ns k) (outK 0 (s1++[7,8,44,48,49]) (43 :: h1))=res 0 (v12 r k) (b43 :: hL r ns):=by kernel_rfl
noncomputable def L12 (r:Rule) (ns:List (List UInt8)) (k:Nat):St U El:=⟨zipT (s1++[7,8,44,48,49]) (v12 r k),b43 :: hL r ns⟩
abbrev p43 (a b:AV U El):Nat×Blk U El:=(43,.box 43 [a,b])
noncomputable def L12p (r:Rule) (ns:List (List UInt8)) (k:Nat):St U El:=⟨zipT (s1++[7,8,44,48,49]) (v12 r k),p43 .nilp .nilp :: hL r ns⟩
abbrev vM (r:Rule) (k:Nat):List (AV U El):=v3++[.mp 7000,.ful 56,len r,.int .i64 (k:Int)]
abbrev hM (r:Rule) (ns:List (List UInt8)):Heap U El:=[(1,.box 0 (rc r)),(2,.box 0 zc),(56,.rows .str ns),g7]
abbrev h2:List Nat:=[1,2,56,7000]
theorem e13 (r:Rule) (ns:List (List UInt8)) (k:Nat):ex (nb++[1,1]) .d (L12p r ns k) (s1++[7,8]) (43 :: h2) =
    chk (nle ((List.length ns+List.length ([(c1 r k).cn]:List (List UInt8))) * 16) 140737488355328&&nle (List.length ns+List.length ([(c1 r k).cn]:List (List UInt8))) 9223372036854775807) (res 0 (vM r k++[pl r k,.ptr 43 0]) (p43 .nilp .nilp :: hM r (ns++[(c1 r k).cn]))):=by kernel_rfl
noncomputable def L13 (r:Rule) (ns:List (List UInt8)) (k:Nat):St U El:=⟨zipT (s1++[7,8]) (vM r k++[pl r k,.ptr 43 0]),p43 .nilp .nilp :: hM r ns⟩
theorem g14 (r:Rule) (ns:List (List UInt8)) (k:Nat):ex (bb++[1,1,1,1]) .d (L13 r ns k) s1 (43 :: h2)=condB (c1 r k).cb (res 0 (vM r k) (p43 .nilp (pl r k) :: hM r ns)) (condB (!(c1 r k).cb) (res 0 (vM r k) (p43 (pl r k) .nilp :: hM r ns)) (res 0 (vM r k) (p43 .nilp .nilp :: hM r ns))):=by kernel_rfl
theorem e14 (r:Rule) (ns:List (List UInt8)) (k:Nat):ex (bb++[1,1,1,1]) .d (L13 r ns k) s1 (43 :: h2)=res 0 (vM r k) (p43 (pcell r (loN r k none)) (pcell r (hiN r k none)) :: hM r ns):=by
  rw [g14,loN_n,hiN_n]; cases (c1 r k).cb<;>rfl
noncomputable def M1 (r:Rule) (ns:List (List UInt8)) (k:Nat):St U El:=⟨zipT s1 (vM r k),hM r ns⟩
theorem nM (r:Rule) (ns:List (List UInt8)) (k:Nat):normK nmL (M1 r ns k) (outK 0 s1 h1)=res 0 (vL r k) (hL r ns):=by kernel_rfl
theorem e18 (r:Rule) (ns:List (List UInt8)) (k:Nat):ex (lb++[1,1,1]) .d (L1 r ns k) s1 h1=res 0 (v3++[.mp 7000,.ful 5,len r,.int .i64 (IntKind.wrap .i64 ((k:Int)+1))]) (hL r ns):=by kernel_rfl
abbrev rs (r:Rule) (c:AV U El):List (AV U El):=[.str r.rn,c,.str r.rl,.int .i64 r.rs]
theorem e19 (r:Rule) (ns:List (List UInt8)) (k:Nat):ex [1,1,1,1,1,0] .d (L1 r ns k) [2,3,4,5,10] [2,5,7000,10]=res 0 [.ptr 2 0,.int .i64 0,.mp 7000,.ful 5,.ptr 10 0] [(2,.box 0 zc),(5,.rows .str ns),g7,(10,.box 0 (rs r .nils))]:=by kernel_rfl
noncomputable def B1 (r:Rule) (ns:List (List UInt8)):St U El:=⟨zipT [2,3,4,5,10] [.ptr 2 0,.int .i64 0,.mp 7000,.ful 5,.ptr 10 0],[(2,.box 0 zc),(5,.rows .str ns),g7,(10,.box 0 (rs r .nils))]⟩
abbrev s2:List Nat:=[2,3,4,10,126,127,128]
theorem e20 (r:Rule) (ns:List (List UInt8)):ex [1,1,1,1,1,1,0,0] .d (B1 r ns) s2 [2,5,7000,10]=res 0 [.ptr 2 0,.int .i64 0,.mp 7000,.ptr 10 0,.ful 5,.int .i64 (Int.ofNat ns.length),.int .i64 ((0:Nat):Int)] [(2,.box 0 zc),(5,.rows .str ns),g7,(10,.box 0 (rs r .nils))]:=by kernel_rfl
noncomputable def B2 (r:Rule) (ns:List (List UInt8)):St U El:=⟨zipT s2 [.ptr 2 0,.int .i64 0,.mp 7000,.ptr 10 0,.ful 5,.int .i64 (Int.ofNat ns.length),.int .i64 ((0:Nat):Int)],[(2,.box 0 zc),(5,.rows .str ns),g7,(10,.box 0 (rs r .nils))]⟩
abbrev vK (ns:List (List UInt8)) (k:Nat):List (AV U El):=[.ptr 2 0,.int .i64 0,.mp 7000,.ptr 10 0,.lst .str ns,.int .i64 (Int.ofNat ns.length),.int .i64 (k:Int)]
abbrev hK (r:Rule) (out:List Cnd):Heap U El:=[(2,.box 0 zc),g7,(10,.box 0 (rs r (.ful 6000))),(6000,.rows .cnd out)]
abbrev h3:List Nat:=[2,7000,10,6000]
noncomputable def nmK:Norm U:=⟨[],s2,h3,[(126,.str)],[(10,1,.cnd,6000)],[],[]⟩
theorem n20 (r:Rule) (ns:List (List UInt8)):normK nmK (B2 r ns) (outK 0 s2 h3)=res 0 (vK ns 0) (hK r []):=by kernel_rfl
noncomputable def L2 (r:Rule) (ns:List (List UInt8)) (k:Nat) (out:List Cnd):St U El:=⟨zipT s2 (vK ns k),hK r out⟩
abbrev lc:List Nat:=[1,1,1,1,1,1,0,1,0,0]
theorem e21 (r:Rule) (ns:List (List UInt8)) (k:Nat) (out:List Cnd):ex (lc++[0]) .d (L2 r ns k out) (s2++[129]) h3=res 0 (vK ns k++[.bool (ilt (k:Int) (Int.ofNat ns.length))]) (hK r out):=by kernel_rfl
noncomputable def L21 (r:Rule) (ns:List (List UInt8)) (k:Nat) (out:List Cnd) (b:Bool):St U El:=⟨zipT (s2++[129]) (vK ns k++[.bool b]),hK r out⟩
theorem e21t (r:Rule) (ns:List (List UInt8)) (k:Nat) (out:List Cnd):ex (lc++[1,0]) .d (L21 r ns k out true) s2 h3=res 0 (vK ns k) (hK r out):=by kernel_rfl
theorem e21f (r:Rule) (ns:List (List UInt8)) (k:Nat) (out:List Cnd):ex (lc++[1,0]) .d (L21 r ns k out false) s2 h3=res 8 (vK ns k) (hK r out):=by kernel_rfl
abbrev bc:List Nat:=lc++[1,1,0,0]
theorem e22 (r:Rule) (ns:List (List UInt8)) (k:Nat) (out:List Cnd):ex (bc++[0]) .d (L2 r ns k out) (s2++[12]) h3=chk (inb (k:Int) ns.length) (res 0 (vK ns k++[.str (List.getD ns k d_str)]) (hK r out)):=by kernel_rfl
noncomputable def L22 (r:Rule) (ns:List (List UInt8)) (k:Nat) (out:List Cnd) (n:List UInt8):St U El:=⟨zipT (s2++[12]) (vK ns k++[.str n]),hK r out⟩
noncomputable def o23:Array Oper:=opsOf (cdp (bc++[1,0]) bd)
abbrev t23 (ns:List (List UInt8)) (k:Nat) (n:List UInt8):Tmps U El:=zipT (s2++[132,133]) (vK ns k++[.mp 7000,.str n])
theorem e23a (r:Rule) (ns:List (List UInt8)) (k:Nat) (out:List Cnd) (n:List UInt8):runOps X [] (o23.toList.take 2) (L22 r ns k out n) (outK 0 (s2++[132,133]) h3)=res 0 (vK ns k++[.mp 7000,.str n]) (hK r out):=by kernel_rfl
noncomputable def L23a (r:Rule) (ns:List (List UInt8)) (k:Nat) (out:List Cnd) (n:List UInt8):St U El:=⟨t23 ns k n,hK r out⟩
theorem e23b (r:Rule) (ns:List (List UInt8)) (k:Nat) (out:List Cnd) (n:List UInt8) (cs:List (AV U El)):runOps X [] (o23.toList.drop 3) ⟨(134,.ptr 9000 0) :: t23 ns k n,(9000,.box 9000 cs) :: hK r out⟩ (outK 0 (s2++[13]) (9000 :: h3))=res 0 (vK ns k++[.ptr 9000 0]) ((9000,.box 9000 cs) :: hK r out):=by kernel_rfl
noncomputable def L23 (r:Rule) (ns:List (List UInt8)) (k:Nat) (out:List Cnd) (lo hi:Option Nat):St U El:=⟨zipT (s2++[13]) (vK ns k++[.ptr 9000 0]),(9000,.box 9000 [pcell r lo,pcell r hi]) :: hK r out⟩
abbrev g9 (a b:AV U El):Nat×Blk U El:=(9000,.box 9000 [a,b])
abbrev vR (ns:List (List UInt8)) (k:Nat):List (AV U El):=[.ptr 2 0,.int .i64 12,.mp 7000,.ptr 10 0,.lst .str ns,.int .i64 (Int.ofNat ns.length),.int .i64 (k:Int)]
noncomputable abbrev r24 (r:Rule) (ns:List (List UInt8)) (k:Nat) (out:List Cnd) (a b:AV U El):R:=res 0 (vK ns k++[.ptr 9000 0]) (g9 a b :: hK r out)
theorem qNN (r:Rule) (ns:List (List UInt8)) (k:Nat) (out:List Cnd):ex (bc++[1,1,0]) .d (L23 r ns k out none none) (s2++[13]) (9000 :: h3)=r24 r ns k out .nilp .nilp:=by kernel_rfl
theorem qSN (r:Rule) (ns:List (List UInt8)) (k p:Nat) (out:List Cnd):ex (bc++[1,1,0]) .d (L23 r ns k out (some p) none) (s2++[13]) (9000 :: h3)=r24 r ns k out (pl r p) .nilp:=by kernel_rfl
theorem qNS (r:Rule) (ns:List (List UInt8)) (k q:Nat) (out:List Cnd):ex (bc++[1,1,0]) .d (L23 r ns k out none (some q)) (s2++[13]) (9000 :: h3)=r24 r ns k out .nilp (pl r q):=by kernel_rfl
theorem qSS (r:Rule) (ns:List (List UInt8)) (k p q:Nat) (out:List Cnd):ex (bc++[1,1,0]) .d (L23 r ns k out (some p) (some q)) (s2++[13]) (9000 :: h3)=condB (ile (c1 r q).cl (c1 r p).cl) (res 1 (vR ns k++[.ptr 9000 0]) (g9 (pl r p) (pl r q) :: hK r out)) (r24 r ns k out (pl r p) (pl r q)):=by kernel_rfl
noncomputable def clN (r:Rule) (lo hi:Option Nat):Bool:=match lo,hi with | some p,some q=>ile (c1 r q).cl (c1 r p).cl | _,_=>false
theorem q24 (r:Rule) (ns:List (List UInt8)) (k:Nat) (out:List Cnd) (lo hi:Option Nat):ex (bc++[1,1,0]) .d (L23 r ns k out lo hi) (s2++[13]) (9000 :: h3) =
    condB (clN r lo hi) (res 1 (vR ns k++[.ptr 9000 0]) (g9 (pcell r lo) (pcell r hi) :: hK r out)) (r24 r ns k out (pcell r lo) (pcell r hi)):=by
  cases lo with
  | none => cases hi with
    | none=>exact qNN r ns k out
    | some q=>exact qNS r ns k q out
  | some p => cases hi with
    | none=>exact qSN r ns k p out
    | some q=>exact qSS r ns k p q out
def po (r:Rule):Option Nat→Option (List Cnd×Nat)
  | none=>none
  | some k=>some (r.rw,k)
abbrev s3:List Nat:=s2++[173,174,175]
abbrev h4:List Nat:=173 :: h3
abbrev vI (ns:List (List UInt8)) (k j:Nat):List (AV U El):=vK ns k++[.ful 173,.int .i64 2,.int .i64 (j:Int)]
abbrev hI (r:Rule) (x y:Option (List Cnd×Nat)) (out:List Cnd):Heap U El:=(173,.rows .pc [x,y]) :: hK r out
noncomputable abbrev rG (r:Rule) (ns:List (List UInt8)) (k:Nat) (a b:AV U El) (x y:Option (List Cnd×Nat)) (out:List Cnd):R:=res 0 (vI ns k 0) (g9 a b :: hI r x y out)
theorem wNN (r:Rule) (ns:List (List UInt8)) (k:Nat) (out:List Cnd):ex (bc++[1,1,1,0]) .d (L23 r ns k out none none) s3 (9000 :: h4)=rG r ns k .nilp .nilp none none out:=by kernel_rfl
theorem wSN (r:Rule) (ns:List (List UInt8)) (k p:Nat) (out:List Cnd):ex (bc++[1,1,1,0]) .d (L23 r ns k out (some p) none) s3 (9000 :: h4)=rG r ns k (pl r p) .nilp (some (r.rw,p)) none out:=by kernel_rfl
theorem wNS (r:Rule) (ns:List (List UInt8)) (k q:Nat) (out:List Cnd):ex (bc++[1,1,1,0]) .d (L23 r ns k out none (some q)) s3 (9000 :: h4)=rG r ns k .nilp (pl r q) none (some (r.rw,q)) out:=by kernel_rfl
theorem wSS (r:Rule) (ns:List (List UInt8)) (k p q:Nat) (out:List Cnd):ex (bc++[1,1,1,0]) .d (L23 r ns k out (some p) (some q)) s3 (9000 :: h4)=rG r ns k (pl r p) (pl r q) (some (r.rw,p)) (some (r.rw,q)) out:=by kernel_rfl
theorem q26 (r:Rule) (ns:List (List UInt8)) (k:Nat) (out:List Cnd) (lo hi:Option Nat):ex (bc++[1,1,1,0]) .d (L23 r ns k out lo hi) s3 (9000 :: h4)=rG r ns k (pcell r lo) (pcell r hi) (po r lo) (po r hi) out:=by
  cases lo with
  | none => cases hi with
    | none=>exact wNN r ns k out
    | some q=>exact wNS r ns k q out
  | some p => cases hi with
    | none=>exact wSN r ns k p out
    | some q=>exact wSS r ns k p q out
noncomputable def I1 (r:Rule) (ns:List (List UInt8)) (k j:Nat) (x y:Option (List Cnd×Nat)) (out:List Cnd):St U El:=⟨zipT s3 (vI ns k j),hI r x y out⟩
abbrev ib:List Nat:=bc++[1,1,1,1,0,0]
noncomputable def an30:Ann U := .seq none .d (.seq none .d (.seq none (.block (.seq none .d (.seq none .d (.cond (.region [(6,6000),(8,10)]) .d)))) .d))
noncomputable abbrev fits (out:List Cnd) (c:Cnd):Bool:=nle ((List.length out+List.length ([c]:List Cnd)) * 32) 140737488355328&&nle (List.length out+List.length ([c]:List Cnd)) 9223372036854775807
abbrev h5:List Nat:=173 :: [2,7000,10,187]
abbrev hJ (r:Rule) (x y:Option (List Cnd×Nat)) (out:List Cnd):Heap U El:=(173,.rows .pc [x,y]) :: [(2,.box 0 zc),g7,(10,.box 0 (rs r (.ful 187))),(187,.rows .cnd out)]
theorem i0N (r:Rule) (ns:List (List UInt8)) (k:Nat) (y:Option (List Cnd×Nat)) (out:List Cnd):ex ib an30 (I1 r ns k 0 none y out) s3 h4=res 0 (vI ns k 1) (hI r none y out):=by kernel_rfl
theorem i0S (r:Rule) (ns:List (List UInt8)) (k p:Nat) (y:Option (List Cnd×Nat)) (out:List Cnd):ex ib an30 (I1 r ns k 0 (some (r.rw,p)) y out) s3 h5=chk (fits out (c1 r p)) (res 0 (vI ns k 1) (hJ r (some (r.rw,p)) y (out++[c1 r p]))):=by kernel_rfl
theorem i1N (r:Rule) (ns:List (List UInt8)) (k:Nat) (x:Option (List Cnd×Nat)) (out:List Cnd):ex ib an30 (I1 r ns k 1 x none out) s3 h4=res 0 (vI ns k 2) (hI r x none out):=by kernel_rfl
theorem i1S (r:Rule) (ns:List (List UInt8)) (k q:Nat) (x:Option (List Cnd×Nat)) (out:List Cnd):ex ib an30 (I1 r ns k 1 x (some (r.rw,q)) out) s3 h5=chk (fits out (c1 r q)) (res 0 (vI ns k 2) (hJ r x (some (r.rw,q)) (out++[c1 r q]))):=by kernel_rfl
theorem i2 (r:Rule) (ns:List (List UInt8)) (k:Nat) (x y:Option (List Cnd×Nat)) (out:List Cnd):ex ib an30 (I1 r ns k 2 x y out) s2 h3=res 12 (vK ns k) (hK r out):=by kernel_rfl
noncomputable def J1 (r:Rule) (ns:List (List UInt8)) (k j:Nat) (x y:Option (List Cnd×Nat)) (out:List Cnd):St U El:=⟨zipT s3 (vI ns k j),hJ r x y out⟩
noncomputable def nmJ:Norm U:=⟨[],s3,h4,[],[(10,1,.cnd,6000)],[],[]⟩
theorem nJ (r:Rule) (ns:List (List UInt8)) (k j:Nat) (x y:Option (List Cnd×Nat)) (out:List Cnd):normK nmJ (J1 r ns k j x y out) (outK 0 s3 h4)=res 0 (vI ns k j) (hI r x y out):=by kernel_rfl
theorem e32 (r:Rule) (ns:List (List UInt8)) (k:Nat) (out:List Cnd):ex (lc++[1,1,1]) .d (L2 r ns k out) s2 h3=res 0 [.ptr 2 0,.int .i64 0,.mp 7000,.ptr 10 0,.lst .str ns,.int .i64 (Int.ofNat ns.length),.int .i64 (IntKind.wrap .i64 ((k:Int)+1))] (hK r out):=by kernel_rfl
theorem e33 (r:Rule) (ns:List (List UInt8)) (k:Nat) (out:List Cnd):ex [1,1,1,1,1,1,1] .d (L2 r ns k out) [2,3] [2,6000]=res 1 [.ptr 2 0,.int .i64 0] [(2,.box 0 (rs r (.ful 6000))),(6000,.rows .cnd out)]:=by kernel_rfl
noncomputable def nmR:Norm U:=⟨[],[192,3],[],[],[],[(192,1,.cnd)],[]⟩
noncomputable def RR:Kont U El:=fun st=>loadRes X 192 [(2,51)] 192 st fun st=>normK nmR st (retFin [192,3] [])
abbrev rv (c:Rule) (e:Int):AV U El := .tup [.agg [.str c.rn,.lst .cnd c.rw,.str c.rl,.int .i64 c.rs],.int .i64 e]
theorem r1 (e:Int):RR ⟨[(2,.ptr 2 0),(3,.int .i64 e)],[(2,.box 0 zc)]⟩=some (rv ⟨[],[],[],0⟩ e,[]):=by kernel_rfl
theorem r2 (r:Rule) (out:List Cnd):RR ⟨[(2,.ptr 2 0),(3,.int .i64 0)],[(2,.box 0 (rs r (.ful 6000))),(6000,.rows .cnd out)]⟩=some (rv ⟨r.rn,out,r.rl,r.rs⟩ 0,[]):=by kernel_rfl
end usimpler
end Go.Proofs.YtlkfbblapimhoaaGreatDoor
