/- slices.AppendSeq over slices.Values, at messages: a range over a function, by the kit's laws for them (turned from the kit's worked proofs of slices.Values and slices.AppendSeq at other elements). -/
import Derived.Test.YtkeplmpcijigaaaSO
import Derived.RangeFuncBox
import Derived.RangeFuncLeaves
import Derived.RangeFuncGives
import Derived.Shelf.Abstract
import Derived.WalkKit
import Derived.OwnWalkIn
import Derived.TacticsInMore
import Derived.LoopNIn
import Derived.LoopIn
import Derived.RegionIn
import Derived.Maps.RangeWalk
import Derived.Maps.AppendAt
import Derived.RangeFuncSeq
namespace Go.Proofs.Ytkeplmpcijigaaa
variable [Drw]
set_option linter.unusedSectionVars false
set_option linter.unusedSimpArgs false
set_option linter.unusedVariables false
open Go.RowKit Go.Shelf
attribute [local go_sem] Oper.semAt_some
def mcs (x:Msg):List Value:=[.string ⟨x.nd.toArray⟩,.int .i64 x.no,.int .i64 x.at_,.int .i64 x.ar,.int .i64 x.lv]
abbrev mag (x:Msg):Value := .agg #[.string ⟨x.nd.toArray⟩,.int .i64 x.no,.int .i64 x.at_,.int .i64 x.ar,.int .i64 x.lv]
structure Msgs (W:World) (b off:Nat) (xs:List Msg):Prop where
  c0:∀ j (h:j < xs.length),W.cell? ⟨b,off+j * 5,none⟩=some (.string ⟨xs[j].nd.toArray⟩)
  c1:∀ j (h:j < xs.length),W.cell? ⟨b,off+j * 5+1,none⟩=some (.int .i64 xs[j].no)
  c2:∀ j (h:j < xs.length),W.cell? ⟨b,off+j * 5+2,none⟩=some (.int .i64 xs[j].at_)
  c3:∀ j (h:j < xs.length),W.cell? ⟨b,off+j * 5+3,none⟩=some (.int .i64 xs[j].ar)
  c4:∀ j (h:j < xs.length),W.cell? ⟨b,off+j * 5+4,none⟩=some (.int .i64 xs[j].lv)
set_option maxRecDepth 100000 in
set_option maxHeartbeats 2000000 in
theorem values1_in (F:Fence) (n:Nat) (h7:F.fn 63) (hro:F.round=none) (hn:1≤n) (l Bs Bo n₀ b off cap:Nat) (xs:List Msg) (hreach:xs.length≤1000000) (hb:b < n₀) (J:List Msg→World→Prop)
    (hJ:∀ pre w o,J pre w→J pre (w.alloc o))
    (hY:∀ pre x W,J pre W→pre.length < xs.length→YieldAt F (n - 1) Try.prog l #[mag x] W fun e W'=>e = .returned (.bool true)∧J (pre++[x]) W'∧Below n₀ W W')
    (W:World) (hn₀:n₀≤W.heap.size) (hBs:W.cell? ⟨Bs,Bo,none⟩=some (.slice (some ⟨b,off,none⟩) xs.length cap)) (hc:Msgs W b off xs) (h0:J [] W) :
    CallsIn F n Try.prog 63 #[.func (.yield l) #[] #[],.pointer (some ⟨Bs,Bo,none⟩)] W fun e W'=>(∃ v,e = .returned v)∧J xs W':=by
  refine callsIn_of_wp Try.func63 rfl h7 ?_ hro
  simp only [Try.ntmps63,List.size_toArray,List.length_cons,List.length_nil,Nat.reduceAdd,Nat.reduceSub,Array.replicate_succ,Array.replicate_zero,List.push_toArray,List.append_toArray,List.nil_append,List.cons_append]
  gi_wp2
  gi_loopw [7] (fun i wr=>∃ k:Nat,k≤xs.length∧i = .int .i64 k∧J (xs.take k) wr∧Below n₀ W wr)
    (fun i _=>xs.length - (intOf i).toNat)
  case atStart=>exact ⟨0,Nat.zero_le _,rfl,h0,Below.refl _ _⟩
  case round =>
    obtain ⟨k,hk,rfl,hJs,hnx⟩:=hrel
    by_cases hlt:k < xs.length
    · have e0 : wr.cell? ⟨b, off + k * 5, none⟩ = _ := (hnx.cell (p := ⟨b, off + k * 5, none⟩) hb).trans (hc.c0 k hlt)
      have e1:wr.cell? ⟨b,off+k * 5+1,none⟩=_:=(hnx.cell (p:=⟨b,off+k * 5+1,none⟩) hb).trans (hc.c1 k hlt)
      have e2:wr.cell? ⟨b,off+k * 5+2,none⟩=_:=(hnx.cell (p:=⟨b,off+k * 5+2,none⟩) hb).trans (hc.c2 k hlt)
      have e3:wr.cell? ⟨b,off+k * 5+3,none⟩=_:=(hnx.cell (p:=⟨b,off+k * 5+3,none⟩) hb).trans (hc.c3 k hlt)
      have e4:wr.cell? ⟨b,off+k * 5+4,none⟩=_:=(hnx.cell (p:=⟨b,off+k * 5+4,none⟩) hb).trans (hc.c4 k hlt)
      obtain ⟨fn,tmps,assign,body,hy,hR⟩:=hY (xs.take k) xs[k] (wr.alloc (.cells #[.string ⟨xs[k].nd.toArray⟩,.int .i64 xs[k].no,.int .i64 xs[k].at_,.int .i64 xs[k].ar,.int .i64 xs[k].lv] 33)) (hJ _ _ _ hJs) (by simp; omega)
      gi_wp2
      refine hR.mono ?_
      rintro e W3 ⟨rfl,hJ3,hk3⟩
      gi_wp2
      go_roundw
      case rel=>exact ⟨k+1,by omega,by simp,by rw [take_lt hlt]; exact hJ3,(hnx.alloc (Nat.le_trans hn₀ hnx.size) _).trans hk3⟩
      case measure=>simp [intOf]; omega
    · obtain rfl : k = xs.length := by omega
      gi_wp2
      go_end0
      exact ⟨⟨_,rfl⟩,by simpa using hJs⟩
set_option maxRecDepth 100000 in
set_option maxHeartbeats 1000000 in
theorem values1_nil_in (F:Fence) (n:Nat) (h7:F.fn 63) (hro:F.round=none) (l Bs Bo:Nat) (ao:Option Addr) (cap:Nat) (J:List Msg→World→Prop) (W:World) (hBs:W.cell? ⟨Bs,Bo,none⟩=some (.slice ao 0 cap)) (h0:J [] W) :
    CallsIn F n Try.prog 63 #[.func (.yield l) #[] #[],.pointer (some ⟨Bs,Bo,none⟩)] W fun e W'=>(∃ v,e = .returned v)∧J [] W':=by
  refine callsIn_of_wp Try.func63 rfl h7 ?_ hro
  simp only [Try.ntmps63,List.size_toArray,List.length_cons,List.length_nil,Nat.reduceAdd,Nat.reduceSub,Array.replicate_succ,Array.replicate_zero,List.push_toArray,List.append_toArray,List.nil_append,List.cons_append]
  gi_wp2
  gi_loopw [7] (fun i wr=>i = .int .i64 0∧J [] wr) (fun _ _=>0)
  case atStart=>exact ⟨rfl,h0⟩
  case round =>
    obtain ⟨rfl,hJs⟩:=hrel
    gi_wp2
    go_end0
    exact ⟨⟨_,rfl⟩,hJs⟩
def apAssign : Code := (Code.region 2 #[{ dst := some 5, op := Op.alloc 33, type := 0, pos := "iter.go:51", after := #[], guard := none }, { dst := none, op := Op.store 33 (Operand.tmp 5) (Operand.tmp 7), type := 0, pos := "iter.go:51", after := #[{ on := 0, ground := Ground.data }, { on := 0, ground := Ground.phase }], guard := none }] false)
def apBody : Code := (Code.block 1 (Code.region 3 #[{ dst := some 8, op := Op.load 22 (Operand.tmp 2), type := 22, pos := "iter.go:52", after := #[], guard := none }, { dst := some 9, op := Op.load 33 (Operand.tmp 5), type := 33, pos := "iter.go:52", after := #[], guard := none }, { dst := some 10, op := Op.buildSlice 22 1 #[(0, Operand.tmp 9)], type := 22, pos := "iter.go:52", after := #[{ on := 1, ground := Ground.data }], guard := none }, { dst := some 11, op := Op.call { callee := Callee.builtin Builtin.append, args := #[Operand.tmp 8, Operand.tmp 10], argTypes := #[22, 22] }, type := 22, pos := "iter.go:52", after := #[{ on := 0, ground := Ground.data }, { on := 2, ground := Ground.data }], guard := none }, { dst := none, op := Op.store 22 (Operand.tmp 2) (Operand.tmp 11), type := 0, pos := "iter.go:52", after := #[{ on := 3, ground := Ground.data }, { on := 3, ground := Ground.chain }, { on := 0, ground := Ground.phase }, { on := 1, ground := Ground.phase }, { on := 2, ground := Ground.phase }, { on := 3, ground := Ground.phase }], guard := none }] false))
def apRec (fn:FuncId) (sv:Value) (Bs D:Nat) (st:LoopState) (pend:Option Code):Loop :=
  { state:=st,pending:=pend,fn,tmps:=#[.slice none 0 0,sv,.pointer (some ⟨Bs,0,none⟩),undef,.slice none 0 0,undef,sv,undef,undef,undef,undef,undef,undef],params:=#[7],assign:=apAssign,body:=apBody,defers:=D }
structure ApAt (w0:World) (fn:FuncId) (sv:Value) (Bs l D:Nat) (ss:List Msg) (W:World):Prop where
  box:∃ v,W.heap[Bs]? = some (.cells #[v] 22 (0,0))∧W.ownsRow w0.heap.size 33 5 v ss.length (ss.flatMap mcs)
  L:W.heap[l]? = some (.loop (apRec fn sv Bs D .ready none))
  K:W.heap[D]? = some (.deferred (some []))
  below:Below w0.heap.size w0 W
  drawn:w0.drawn≤W.drawn
theorem ownsRow_ne_q {W:World} {base:Nat} {e:TypeId} {size:Nat} {v:Value} {k:Nat} {xs:List Value} (h:W.ownsRow base e size v k xs) {j:Nat} {o:Obj} (hj:W.heap[j]? = some o) (hno:∀ cur,o ≠ .cells cur e (0,0)) :
    v.ownBlock=none∨v.ownBlock≠some j:=by
  rcases h.2 with ⟨rfl,_⟩ | ⟨g,cap,cur,rfl,_,hgb,_⟩
  · exact .inl rfl
  · refine .inr fun e' => ?_
    have:g=j:=by simpa [Value.ownBlock] using e'
    subst this; rw [hgb] at hj; cases hj; exact hno cur rfl
theorem cell_of_box_q {W:World} {B:Nat} {v:Value} {t:TypeId} (h:W.heap[B]? = some (.cells #[v] t (0,0))):W.cell? ⟨B,0,none⟩=some v∧W.frozen? ⟨B,0,none⟩=false:=by
  constructor<;>simp [World.cell?,World.frozen?,h]
theorem heap_setCell_box_q {W:World} {B:Nat} {v:Value} {t:TypeId} (v':Value) (h:W.heap[B]? = some (.cells #[v] t (0,0))):(W.setCell ⟨B,0,none⟩ v').heap[B]? = some (.cells #[v'] t (0,0)):=by
  obtain ⟨hlt,hk⟩:=Array.getElem?_eq_some_iff.1 h
  show (W.heap.modify B _)[B]? = _
  rw [Array.getElem?_eq_getElem (by rw [Array.size_modify]; exact hlt),Array.getElem_modify_self,hk]
  rfl
theorem grownBy_putObj_q (W:World) (l:Nat) (o:Obj):W.grownBy (W.putObj l o) (some l) :=
  ⟨rfl,rfl,rfl,by simp,fun k _ hk=>World.putObj_heap_other (fun e=>hk (by rw [e]))⟩
theorem grownBy_setCell0_q (W:World) (b:Nat) (v:Value):W.grownBy (W.setCell ⟨b,0,none⟩ v) (some b) :=
  ⟨rfl,rfl,rfl,(KeepsWalks.setCell W _ v).size,fun k _ hk=>Below.heap_setCell _ _ _ k (fun e=>hk (by rw [e]))⟩
theorem ap_alloc (w0:World) (fn:FuncId) (sv:Value) (Bs l D:Nat):∀ pre w o,ApAt w0 fn sv Bs l D pre w→ApAt w0 fn sv Bs l D pre (w.alloc o):=fun pre w o h=>by
  have hg:=World.grownBy_alloc w o none
  obtain ⟨v,hv,hr⟩:=h.box
  exact ⟨⟨v,(hg.block Bs (Array.getElem?_eq_some_iff.1 hv).1 (by simp)).trans hv,hr.kept hg (by cases hb:v.ownBlock<;>simp)⟩,(hg.block l (Array.getElem?_eq_some_iff.1 h.L).1 (by simp)).trans h.L,(hg.block D (Array.getElem?_eq_some_iff.1 h.K).1 (by simp)).trans h.K,h.below.grown hg h.below.size (fun k e=>by cases e),h.drawn⟩
theorem info33:(Try.prog.info? 33).map (fun i=>(i.zero,i.size,i.bytes))=some (some (.agg #[.string ⟨#[]⟩,.int .i64 0,.int .i64 0,.int .i64 0,.int .i64 0]),5,48):=by kernel_rfl
theorem cell_five_new (w:World) (x:Msg) (t:TypeId):∀ j u,(mcs x)[j]? = some u→(w.alloc (.cells #[.string ⟨x.nd.toArray⟩,.int .i64 x.no,.int .i64 x.at_,.int .i64 x.ar,.int .i64 x.lv] t)).cell? ((⟨w.heap.size,0,none⟩:Addr).add j)=some u:=by
  intro j u hj
  match j,hj with
  | 0,hj=>cases hj; simp [Addr.add]
  | 1,hj=>cases hj; simp [Addr.add]
  | 2,hj=>cases hj; simp [Addr.add]
  | 3,hj=>cases hj; simp [Addr.add]
  | 4,hj=>cases hj; simp [Addr.add]
theorem append_drawn {P:Program} (w:World) (base:Nat) (t ty e:TypeId) (i:TypeInfo) (z:Value) (size bytes:Nat) (ht:P.underlying t=some (.slice e)) (hi:P.info? e=some i) (hz:i.zero=some z)
    (hsize:i.size=size) (hby:i.bytes=bytes) (hzs:z.cells.size=size) (hsz:0 < size)
    (v:Value) (n:Nat) (xs:List Value) (hown:w.ownsRow base e size v n xs)
    (a:Addr) (m c:Nat) (news:List Value) (hl:news.length=m * size) (hnews:∀ j u,news[j]? = some u→w.cell? (a.add j)=some u) (h1:∀ u∈news,u.oneCell'=true)
    (h63:n+m≤maxLen) (hbytes:(n+m) * bytes≤140737488355328) (hm:0 < m) :
    ∀ v' w',(Builtin.append_ #[t,t] ty #[v,.slice (some a) m c]).run P w = .ok v' w'→w.drawn≤w'.drawn:=by
  subst hsize
  subst hby
  have hsmall:n+m≤9223372036854775807:=by simp only [maxLen] at h63; omega
  intro v' w' hrun
  rcases hown.2 with ⟨rfl,rfl⟩ | ⟨g,cap,cur,rfl,hbg,hg,hnc,hcm,hcs,htake⟩
  · have hr := run_append_nil (P := P) w t ty e i z ht hi hz a m c news hl hnews (by omega) (by omega) (by have hb := hbytes; simp only [Nat.zero_add] at hb; omega)
    have:=hr.symm.trans hrun
    cases this
    exact Nat.le_succ _
  · by_cases hroom : n + m ≤ cap
    · have hfit : n * i.size + news.length ≤ cur.size := by rw [hl, hcs, ← Nat.add_mul]; exact Nat.mul_le_mul_right _ hroom
      have hr:=run_append_room (P:=P) w t ty e i ht hi g n cap cur hg a m c news hl hnews h1 hroom hfit
      have:=hr.symm.trans hrun
      cases this
      exact Nat.le_refl _
    · have holds : ∀ j u, xs[j]? = some u → w.cell? ((⟨g, 0, none⟩ : Addr).add j) = some u := hown.cells (g := g) rfl
      have hr:=run_append_grow (P:=P) w t ty e i z ht hi hz ⟨g,0,none⟩ n cap xs hown.1 holds a m c news hl hnews (by omega) (by omega) (growslice_fits (by omega) hbytes)
      have:=hr.symm.trans hrun
      cases this
      exact Nat.le_succ _
theorem wpListIn_append_own_d {F:Fence} {n:Nat} {P:Program} (w:World) {ops:Array Oper} {rest:List Oper} {o:Oper} {a:Act} {Q:Exit→Act→World→Prop}
    (hg:o.guard=none) (s x:Operand) (t:TypeId) (hop:o.op=Op.call { callee:=Callee.builtin Builtin.append,args:=#[s,x],argTypes:=#[t,t] })
    (base:Nat) (e:TypeId) (i:TypeInfo) (z:Value) (size bytes:Nat) (h1:P.underlying t=some (.slice e)) (h2:P.info? e=some i) (h3:i.zero=some z) (h4:i.size=size) (h5:i.bytes=bytes) (h6:z.cells.size=size) (h7:0 < size)
    (v:Value) (k:Nat) (xs:List Value) (hs:a.eval s=v) (hown:w.ownsRow base e size v k xs) (ad:Addr) (m c:Nat) (news:List Value) (hx:a.eval x = .slice (some ad) m c) (hn:news.length=m * size)
    (hc:∀ j u,news[j]? = some u→w.cell? (ad.add j)=some u) (h1c:∀ u∈news,u.oneCell'=true) (b1:k+m≤maxLen) (b2:(k+m) * bytes≤140737488355328) (b3:base≤w.heap.size) (hm:0 < m)
    (hK:∀ v' w',w'.ownsRow base e size v' (k+m) (xs++news)→w.grownBy w' v.ownBlock→w.drawn≤w'.drawn→wpListIn F n P ops Q rest (a.put o.dst v') w') :
    wpListIn F n P ops Q (o :: rest) a w:=by
  refine wpListIn_plain hg fun K hK' => ?_
  obtain ⟨v',w',hrun,r1,r2,r3⟩:=run_append_own (P:=P) w base t o.type e i z size bytes h1 h2 h3 h4 h5 h6 h7 v k xs hown ad m c news hn hc h1c b1 b2 b3
  have r4:=append_drawn (P:=P) w base t o.type e i z size bytes h1 h2 h3 h4 h5 h6 h7 v k xs hown ad m c news hn hc h1c b1 b2 hm v' w' hrun
  unfold Oper.wpIn
  refine ⟨?_,?_⟩
  · simp [Oper.about,hop,resolve,Target.leads,Sem.run_pure]
  · rw [Oper.semAt_plain F _ _ (by rw [hop]; intro c hc'; cases hc')]
    simp [execOp,hop,resolve,invoke,builtin,hs,hx,hrun,Result.andThen]
    exact hK' _ _ (hK v' w' r1 r2 r4)
set_option maxRecDepth 100000 in
set_option maxHeartbeats 2000000 in
theorem apYield (F:Fence) (m:Nat) (w0:World) (fn:FuncId) (hfn:F.fn fn) (sv:Value) (Bs l D:Nat) (hBl:Bs≠l) (hDl:D≠l) (hDB:D≠Bs) (h0B:w0.heap.size≤Bs) (h0l:w0.heap.size≤l)
    (N:Nat) (hN:N≤1000000) (ss:List Msg) (x:Msg) (W:World) (h:ApAt w0 fn sv Bs l D ss W) (hlen:ss.length < N) :
    YieldAt F m Try.prog l #[mag x] W fun e W'=>e = .returned (.bool true)∧ApAt w0 fn sv Bs l D (ss++[x]) W'∧Below w0.heap.size W W':=by
  obtain ⟨i0,hi,hz0,hz1,hz2⟩:=info_parts info33
  have hmax:1000000≤maxLen:=by decide
  refine ⟨fn,#[.slice none 0 0,sv,.pointer (some ⟨Bs,0,none⟩),undef,.slice none 0 0,undef,sv,mag x,undef,undef,undef,undef,undef],apAssign,apBody,by simpa [apRec] using run_yield (P:=Try.prog) (args:=#[mag x]) h.L rfl,roundIn_of_wpIn hfn ?_⟩
  have hl:l < W.heap.size:=(Array.getElem?_eq_some_iff.1 h.L).1
  unfold apAssign
  gi_wp2_with (rw [Oper.semAt_eq _ _ _ (fun c h=>by cases h)]; go_simp; try go_bits)
  obtain ⟨W1,hW1⟩:∃ W1,W.alloc (.cells #[.string ⟨x.nd.toArray⟩,.int .i64 x.no,.int .i64 x.at_,.int .i64 x.ar,.int .i64 x.lv] 33)=W1:=⟨_,rfl⟩
  have hg1:W.grownBy W1 none:=by rw [← hW1]; exact World.grownBy_alloc _ _ none
  have h1:ApAt w0 fn sv Bs l D ss W1:=by rw [← hW1]; exact ap_alloc _ _ _ _ _ _ _ _ _ h
  have y0:W1.cell? ⟨W.heap.size,0,none⟩=some (.string ⟨x.nd.toArray⟩):=by rw [← hW1]; simp
  have y1:W1.cell? ⟨W.heap.size,1,none⟩=some (.int .i64 x.no):=by rw [← hW1]; simp
  have y2:W1.cell? ⟨W.heap.size,2,none⟩=some (.int .i64 x.at_):=by rw [← hW1]; simp
  have y3:W1.cell? ⟨W.heap.size,3,none⟩=some (.int .i64 x.ar):=by rw [← hW1]; simp
  have y4:W1.cell? ⟨W.heap.size,4,none⟩=some (.int .i64 x.lv):=by rw [← hW1]; simp
  have hs1:W1.heap.size=W.heap.size+1:=by rw [← hW1]; simp
  have hb1:Below w0.heap.size W W1:=(Below.refl _ _).grown hg1 h.below.size (fun k e=>by cases e)
  rw [hW1]
  clear hW1
  have hl1:l < W1.heap.size:=by omega
  have hbr:=run_beginRound (P:=Try.prog) h1.L rfl
  obtain ⟨v,hv,hrow⟩:=h1.box
  obtain ⟨W5,hW5⟩:∃ W5,W1.putObj l (.loop { apRec fn sv Bs D .ready none with state := .busy })=W5:=⟨_,rfl⟩
  rw [hW5] at hbr
  have hg5:W1.grownBy W5 (some l):=by rw [← hW5]; exact grownBy_putObj_q _ _ _
  have hv5:W5.heap[Bs]? = some (.cells #[v] 22 (0,0)):=by rw [← hW5]; exact (World.putObj_heap_other hBl).trans hv
  have hK5:W5.heap[D]? = some (.deferred (some [])):=by rw [← hW5]; exact (World.putObj_heap_other hDl).trans h1.K
  have hL5:W5.heap[l]? = some (.loop { apRec fn sv Bs D .ready none with state := .busy }):=by rw [← hW5]; exact World.putObj_heap_same hl1
  have hrow5:W5.ownsRow w0.heap.size 33 5 v ss.length (ss.flatMap mcs):=hrow.kept hg5 (ownsRow_ne_q hrow h1.L (fun cur e=>by cases e))
  have hb5:Below w0.heap.size W W5:=hb1.grown hg5 h1.below.size (fun k e=>by cases e; exact h0l)
  have hs5:w0.heap.size≤W5.heap.size:=Nat.le_trans h.below.size hb5.size
  have keep:∀ j u,W1.cell? ⟨W.heap.size,j,none⟩=some u→W5.cell? ⟨W.heap.size,j,none⟩=some u:=fun j u hu=>by
    have hb:=hg5.block W.heap.size (by omega) (by simp; omega)
    unfold World.cell? at hu ⊢
    simp only at hu ⊢
    rw [hb]
    exact hu
  have x0:=keep _ _ y0
  have x1:=keep _ _ y1
  have x2:=keep _ _ y2
  have x3:=keep _ _ y3
  have x4:=keep _ _ y4
  have hd5:w0.drawn≤W5.drawn:=by rw [← hW5]; exact h1.drawn
  clear hW5
  refine ⟨_,hbr,?_⟩
  obtain ⟨hc5,hf5⟩:=cell_of_box_q hv5
  have hBlt:Bs < W5.heap.size:=(Array.getElem?_eq_some_iff.1 hv5).1
  have hl5:l < W5.heap.size:=(Array.getElem?_eq_some_iff.1 hL5).1
  have hDlt:D < W5.heap.size:=(Array.getElem?_eq_some_iff.1 hK5).1
  have ne_of:∀ {j:Nat} {o:Obj},W5.heap[j]? = some o→(∀ cur,o ≠ .cells cur 33 (0,0))→some j≠v.ownBlock:=fun hj hno=>by
    rcases ownsRow_ne_q hrow5 hj hno with e | e
    · rw [e]; simp
    · exact fun e'=>e e'.symm
  unfold apBody
  gi_wp2_with (first
    | (gi_at_builtin; refine wpListIn_append_own_d _ rfl _ _ 22 rfl w0.heap.size 33 i0 _ 5 48 Try.underlying22 hi hz0 hz1 hz2 rfl (by decide) _ _ _ rfl (hrow5.alloc _) ⟨W5.heap.size,0,none⟩ 1 1 (mcs x) rfl rfl (cell_five_new _ _ _) (by simp [Value.oneCell',mcs]) (by omega) (by omega) (by simp; omega) (by decide) ?_; intro v' w3 hown' hg3 hd3
       have hv3:w3.heap[Bs]? = some (.cells #[v] 22 (0,0)):=(hg3.block Bs (by simp; omega) (ne_of hv5 (fun cur e=>by cases e))).trans ((Below.heap_alloc _ _ Bs hBlt).trans hv5)
       obtain ⟨hc3,hf3⟩:=cell_of_box_q hv3
       obtain ⟨g',cap',cur',rfl,hbase',hgb',hr1,hr2,hr3,hr4⟩:∃ g' cap' cur',v' = .slice (some ⟨g',0,none⟩) (ss.length+1) cap'∧w0.heap.size≤g'∧w3.heap[g']? = some (.cells cur' 33 (0,0))∧ss.length+1≤cap'∧cap'≤maxLen∧cur'.size=cap' * 5∧cur'.toList.take ((ss.length+1) * 5)=ss.flatMap mcs++mcs x:=by
         rcases hown'.2 with ⟨_,h0⟩ | h'
         · exact absurd h0 (by omega)
         · exact h'
       go_frame)
    | (rw [Oper.semAt_eq _ _ _ (fun c h=>by cases h)]; go_simp; try go_bits))
  have hg3':(W5.alloc (.cells #[.string ⟨x.nd.toArray⟩,.int .i64 x.no,.int .i64 x.at_,.int .i64 x.ar,.int .i64 x.lv] 33)).grownBy w3 v.ownBlock:=hg3
  have hL3:w3.heap[l]? = some (.loop { apRec fn sv Bs D .ready none with state := .busy }):=(hg3'.block l (by simp; omega) (ne_of hL5 (fun cur e=>by cases e))).trans ((Below.heap_alloc _ _ l hl5).trans hL5)
  have hK3:w3.heap[D]? = some (.deferred (some [])):=(hg3'.block D (by simp; omega) (ne_of hK5 (fun cur e=>by cases e))).trans ((Below.heap_alloc _ _ D hDlt).trans hK5)
  obtain ⟨w4,hw4⟩:∃ w4,w3.setCell ⟨Bs,0,none⟩ (.slice (some ⟨g',0,none⟩) (ss.length+1) cap')=w4:=⟨_,rfl⟩
  rw [hw4]
  have hg4:w3.grownBy w4 (some Bs):=by rw [← hw4]; exact grownBy_setCell0_q _ _ _
  have hv4:w4.heap[Bs]? = some (.cells #[.slice (some ⟨g',0,none⟩) (ss.length+1) cap'] 22 (0,0)):=by rw [← hw4]; exact heap_setCell_box_q _ hv3
  have hL4:w4.heap[l]? = some (.loop { apRec fn sv Bs D .ready none with state := .busy }):=(hg4.block l (Array.getElem?_eq_some_iff.1 hL3).1 (fun e=>hBl (by cases e; rfl))).trans hL3
  have hK4:w4.heap[D]? = some (.deferred (some [])):=(hg4.block D (Array.getElem?_eq_some_iff.1 hK3).1 (fun e=>hDB (by cases e; rfl))).trans hK3
  have hrow4:=hown'.kept hg4 (ownsRow_ne_q hown' hv3 (fun cur e=>by cases e))
  have hl4:l < w4.heap.size:=(Array.getElem?_eq_some_iff.1 hL4).1
  have hb3:Below w0.heap.size W w3:=(hb5.alloc hs5 _).grown hg3' (by simp; omega) (fun k e=>(hrow5.lt k e).1)
  have hs3:w0.heap.size≤w3.heap.size:=Nat.le_trans h.below.size hb3.size
  have hb4:Below w0.heap.size W w4:=hb3.grown hg4 hs3 (fun k e=>by cases e; exact h0B)
  have hs4:w0.heap.size≤w4.heap.size:=Nat.le_trans h.below.size hb4.size
  have hd4:w0.drawn≤w4.drawn:=by rw [← hw4]; exact Nat.le_trans hd5 hd3
  clear hw4
  have hbE:Below w0.heap.size W (w4.putObj l (.loop { { apRec fn sv Bs D .ready none with state := .busy } with state:=if (none:Option Code).isNone then .ready else .done,pending:=none })):=hb4.grown (grownBy_putObj_q _ _ _) hs4 (fun k e=>by cases e; exact h0l)
  refine ⟨_,_,run_endRound none hL4,rfl,⟨⟨_,(World.putObj_heap_other hBl).trans hv4,?_⟩,World.putObj_heap_same hl4,(World.putObj_heap_other hDl).trans hK4,h.below.trans hbE,hd4⟩,hbE⟩
  have:=hrow4.kept (grownBy_putObj_q w4 l (.loop { { apRec fn sv Bs D .ready none with state := .busy } with state:=if (none:Option Code).isNone then .ready else .done,pending:=none })) (ownsRow_ne_q hrow4 hL4 (fun cur e=>by cases e))
  simpa using this
theorem Msgs.below {W W':World} {n₀ b off:Nat} {xs:List Msg} (h:Msgs W b off xs) (hb:b < n₀) (hW:Below n₀ W W'):Msgs W' b off xs :=
  ⟨fun j hj=>(hW.cell (p:=⟨b,off+j * 5,none⟩) hb).trans (h.c0 j hj),fun j hj=>(hW.cell (p:=⟨b,off+j * 5+1,none⟩) hb).trans (h.c1 j hj),fun j hj=>(hW.cell (p:=⟨b,off+j * 5+2,none⟩) hb).trans (h.c2 j hj),fun j hj=>(hW.cell (p:=⟨b,off+j * 5+3,none⟩) hb).trans (h.c3 j hj),fun j hj=>(hW.cell (p:=⟨b,off+j * 5+4,none⟩) hb).trans (h.c4 j hj)⟩
def Gives (F : Fence) (n : Nat) (lb : Array Value) (xs : List Msg) (w : World) : Prop :=
  ∀ (l : Nat) (J : List Msg → World → Prop) (W : World), Below w.heap.size w W → (∀ pre w o, J pre w → J pre (w.alloc o)) →
    (∀ pre x W1,J pre W1→pre.length < xs.length→YieldAt F (n - 1) Try.prog l #[mag x] W1 fun e W'=>e = .returned (.bool true)∧J (pre++[x]) W'∧Below w.heap.size W1 W')→J [] W →
    CallsIn F n Try.prog 63 (#[.func (.yield l) #[] #[]]++lb) W fun e W'=>(∃ v,e = .returned v)∧J xs W'
theorem gives_some (F:Fence) (n:Nat) (h7:F.fn 63) (hro:F.round=none) (hn:1≤n) (Bv Bo b off cap:Nat) (xs:List Msg) (hx:xs.length≤1000000) (w:World) (hBv:w.cell? ⟨Bv,Bo,none⟩=some (.slice (some ⟨b,off,none⟩) xs.length cap)) (hBlt:Bv < w.heap.size) (hb:b < w.heap.size) (hc:Msgs w b off xs) :
    Gives F n #[.pointer (some ⟨Bv,Bo,none⟩)] xs w:=fun l J W hW hJ hY h0 =>
  values1_in F n h7 hro hn l Bv Bo w.heap.size b off cap xs hx hb J hJ hY W hW.size ((hW.cell (p:=⟨Bv,Bo,none⟩) hBlt).trans hBv) (hc.below hb hW) h0
theorem gives_nil (F:Fence) (n:Nat) (h7:F.fn 63) (hro:F.round=none) (Bv Bo:Nat) (ao:Option Addr) (cap:Nat) (w:World) (hBv:w.cell? ⟨Bv,Bo,none⟩=some (.slice ao 0 cap)) (hBlt:Bv < w.heap.size) :
    Gives F n #[.pointer (some ⟨Bv,Bo,none⟩)] [] w:=fun l J W hW hJ hY h0 =>
  values1_nil_in F n h7 hro l Bv Bo ao cap J W ((hW.cell (p:=⟨Bv,Bo,none⟩) hBlt).trans hBv) h0
set_option maxRecDepth 100000 in
set_option maxHeartbeats 2000000 in
theorem appendSeq_in (F:Fence) (n:Nat) (h11:F.fn 83) (hFg:F.fn 63) (hro:F.round=none) (hn:2≤n) (lb:Array Value) (xs:List Msg) (hx:xs.length≤1000000) (w:World) (hseq:Gives F (n - 1) lb xs w) :
    CallsIn F n Try.prog 83 #[.slice none 0 0,.func (.func 63) #[] lb] w fun e w'=>∃ v,e = .returned v∧w'.ownsRow w.heap.size 33 5 v xs.length (xs.flatMap mcs)∧Below w.heap.size w w'∧w.drawn≤w'.drawn:=by
  have h1:1≤n:=by omega
  refine callsIn_of_wp_marks Try.func83 rfl h11 ?_ hro
  simp only [Try.ntmps83,List.size_toArray,List.length_cons,List.length_nil,Nat.reduceAdd,Nat.reduceSub,Array.replicate_succ,Array.replicate_zero,List.push_toArray,List.append_toArray,List.nil_append,List.cons_append]
  gi_wp2
  refine wpIn_rangeFunc ?_
  intro fn hfn
  rw [hro]
  obtain ⟨W0,hW0⟩:∃ W0,w.alloc (.cells #[.slice none 0 0] 22)=W0:=⟨_,rfl⟩
  have hs0:W0.heap.size=w.heap.size+1:=by rw [← hW0]; simp
  have hv0:W0.heap[w.heap.size]? = some (.cells #[.slice none 0 0] 22 (0,0)):=by rw [← hW0]; exact World.alloc_heap_new w _
  have hb0:Below w.heap.size w W0:=by rw [← hW0]; exact (Below.refl _ w).alloc (Nat.le_refl _) _
  rw [hW0]
  obtain ⟨W1,hW1⟩:∃ W1,(W0.alloc (.deferred (some []))).alloc (.loop (apRec fn (.func (.func 63) #[] lb) w.heap.size W0.heap.size .ready none))=W1:=⟨_,rfl⟩
  have hold:∀ k,k < W0.heap.size→W1.heap[k]? = W0.heap[k]? := fun k hk=>by
    rw [← hW1]; exact (Below.heap_alloc _ _ k (by simp; omega)).trans (Below.heap_alloc _ _ k hk)
  have hb1:Below w.heap.size w W1:=by rw [← hW1]; exact (hb0.alloc hb0.size _).alloc (by have:=hb0.size; simp; omega) _
  have hs1:W1.heap.size=W0.heap.size+2:=by rw [← hW1]; simp
  have hM:ApAt w fn (.func (.func 63) #[] lb) w.heap.size (W0.heap.size+1) W0.heap.size [] W1 :=
    ⟨⟨_,(hold w.heap.size (by omega)).trans hv0,⟨rfl,.inl ⟨rfl,rfl⟩⟩⟩,
     by rw [← hW1]; have:=World.alloc_heap_new (W0.alloc (.deferred (some []))) (.loop (apRec fn (.func (.func 63) #[] lb) w.heap.size W0.heap.size .ready none)); rwa [World.size_alloc] at this,
     by rw [← hW1]; exact (Below.heap_alloc _ _ _ (by simp)).trans (World.alloc_heap_new W0 _),hb1,by rw [← hW1,← hW0]; exact Nat.le_refl _⟩
  refine ⟨W0.heap.size+1,[{ target := .collected W0.heap.size,args:=#[] }],W1,{ target := .fn (.func 63) lb,args:=#[.func (.yield (W0.heap.size+1)) #[] #[]] },W1,63,
    #[.func (.yield (W0.heap.size+1)) #[] #[]]++lb,W1,?_,?_,?_,?_,fun _=>h1,?_⟩
  · rw [← hW1]; exact run_enterLoop_outer _ _ _ _ _
  · simp [resolve,go_sem]
  · intro f' hf'; simp [Target.leads] at hf'; subst hf'; exact hFg
  · simp [invoke,go_sem,enters_of Try.func63 (by kernel_rfl) rfl]
  · refine (hseq (W0.heap.size + 1) (ApAt w fn (.func (.func 63) #[] lb) w.heap.size (W0.heap.size + 1) W0.heap.size) W1 hb1 (ap_alloc _ _ _ _ _ _)
      (fun pre x W hJ hl=>apYield F (n - 1 - 1) w fn hfn _ w.heap.size (W0.heap.size+1) W0.heap.size (by omega) (by omega) (by omega) (Nat.le_refl _) (by omega) xs.length hx pre x W hJ hl) hM).mono ?_
    rintro e W2 ⟨⟨v0,rfl⟩,h2⟩
    obtain ⟨v,hv,hrow⟩:=h2.box
    have hend:=run_endLoop (P:=Try.prog) h2.L (by simp [apRec])
    obtain ⟨W3,hW3⟩:∃ W3,W2.putObj (W0.heap.size+1) (.loop { apRec fn (.func (.func 63) #[] lb) w.heap.size W0.heap.size .ready none with state := .exhausted })=W3:=⟨_,rfl⟩
    rw [hW3] at hend
    have hg3:W2.grownBy W3 (some (W0.heap.size+1)):=by rw [← hW3]; exact grownBy_putObj_q _ _ _
    have hv3:W3.heap[w.heap.size]? = some (.cells #[v] 22 (0,0)):=by rw [← hW3]; exact (World.putObj_heap_other (by omega)).trans hv
    have hK3:W3.heap[W0.heap.size]? = some (.deferred (some [])):=by rw [← hW3]; exact (World.putObj_heap_other (by omega)).trans h2.K
    have hrow3:=hrow.kept hg3 (ownsRow_ne_q hrow h2.L (fun cur e=>by cases e))
    have hb3:Below w.heap.size w W3:=h2.below.grown hg3 h2.below.size (fun k e=>by cases e; omega)
    obtain ⟨hc3,hf3⟩:=cell_of_box_q hv3
    have hd3:w.drawn≤W3.drawn:=by rw [← hW3]; exact h2.drawn
    clear hW3
    refine ⟨none,W3,hend,?_⟩
    gi_wp2
    rw [← hs0]
    refine ⟨by simp,.inl ⟨_,_,rfl,run_takeDeferred hK3,?_⟩⟩
    exact ⟨_,results_tmp rfl _ _ _,v,rfl,hrow3.kept (grownBy_putObj_q _ _ _) (ownsRow_ne_q hrow3 hK3 (fun cur e=>by cases e)),hb3.grown (grownBy_putObj_q _ _ _) hb3.size (fun k e=>by cases e; omega),hd3⟩
theorem appendSeq (lb:Array Value) (xs:List Msg) (hx:xs.length≤1000000) (w:World) (hseq:Gives Fence.wide 1 lb xs w) :
    Calls Try.prog 83 #[.slice none 0 0,.func (.func 63) #[] lb] w fun e w'=>∃ v,e = .returned v∧w'.ownsRow w.heap.size 33 5 v xs.length (xs.flatMap mcs)∧Below w.heap.size w w'∧w.drawn≤w'.drawn :=
  callsIn_wide.1 (appendSeq_in Fence.wide 2 trivial trivial rfl (Nat.le_refl _) lb xs hx w hseq)
theorem msgs_of {S:Nat→Prop} {ρ:Rho} {w:World} {xs:List Msg} {b off:Nat} {val:Nat→Nat→Value}
    (hcell:∀ (i:Nat) x (j:Nat) c,xs[i]? = some x→(E.enc .msg x)[j]? = some c→w.cell? ⟨b,off+i * 5+j,none⟩=some (val i j))
    (h:∀ (i:Nat) x (j:Nat) c,xs[i]? = some x→(E.enc .msg x)[j]? = some c→Rel E S ρ w c (val i j)):Msgs w b off xs:=by
  have key:∀ (j:Nat) (hj:j < xs.length) (k:Nat) c,(E.enc .msg xs[j])[k]? = some c→c.prim=true→w.cell? ⟨b,off+j * 5+k,none⟩=some c.val:=fun j hj k c hc hp=>by
    rw [hcell j _ k c (List.getElem?_eq_getElem hj) hc,prim_val hp (h j _ k c (List.getElem?_eq_getElem hj) hc)]
  exact ⟨fun j hj=>key j hj 0 _ rfl rfl,fun j hj=>key j hj 1 _ rfl rfl,fun j hj=>key j hj 2 _ rfl rfl,fun j hj=>key j hj 3 _ rfl rfl,fun j hj=>key j hj 4 _ rfl rfl⟩
theorem flat_get:∀ (xs:List Msg) (i:Nat) (x:Msg) (j:Nat),xs[i]? = some x→j < 5→(xs.flatMap mcs)[i * 5+j]? = (mcs x)[j]? := by
  intro xs
  induction xs with
  | nil=>intro i x j h; cases h
  | cons y ys ih =>
    intro i x j h hj
    rw [List.flatMap_cons]
    cases i with
    | zero =>
      cases h
      rw [Nat.zero_mul,Nat.zero_add,List.getElem?_append_left (by simpa [mcs] using hj)]
    | succ i =>
      rw [List.getElem?_append_right (by simp [mcs]; omega)]
      have:(i+1) * 5+j - (mcs y).length=i * 5+j:=by simp [mcs]; omega
      rw [this]
      exact ih i x j h hj
theorem appendSeq_mcall (l : List Msg) (h : nle (List.length l) 100000 = true) : MCall Try.prog E 83 [.nils, .fn 63 [] [.pcs [.lst .msg l] 0]] [] (.ful 0) [(0, .rows .msg l)] := by
  have hl:=of_decide_eq_true h
  intro Bd S ρ w vs hown0 hG hH hr
  have hS:=hH.lt
  obtain ⟨v0,v1,rfl,r0,r1⟩:∃ v0 v1,vs=#[v0,v1]∧Rel E S ρ w .nils v0∧Rel E S ρ w (.fn 63 [] [.pcs [.lst .msg l] 0]) v1:=by
    obtain ⟨h1,h2⟩:=hr
    match vs,h1,h2 with
    | ⟨[v0,v1]⟩,_,h2=>exact ⟨v0,v1,rfl,h2 0 _ v0 rfl rfl,h2 1 _ v1 rfl rfl⟩
  cases r0
  cases r1 with
  | fn _ _ _ vf vc hlf hlc hf hc =>
    obtain rfl:vf=#[]:=Array.eq_empty_of_size_eq_zero (by simpa using hlf)
    obtain ⟨u,rfl⟩:∃ u,vc=#[u]:=by
      match vc,hlc with
      | ⟨[u]⟩,_=>exact ⟨u,rfl⟩
    have ru:=hc 0 _ u rfl rfl
    cases ru with
    | pcs _ _ B o val hB hcell hrel =>
      have hSB:=hB (by simp)
      have c0:=hcell 0 _ rfl
      have rl:=hrel 0 _ rfl
      have hBlt:=hS B hSB
      have hgives:Gives Fence.wide 1 #[.pointer (some ⟨B,o+0,none⟩)] l w:=by
        generalize val 0=sv at c0 rl
        cases rl with
        | lstE _ ao cap=>exact gives_nil Fence.wide 1 trivial rfl B (o+0) ao cap w c0 hBlt
        | lst _ _ b off cap val' hSb hcap hcell' hrel'=>exact gives_some Fence.wide 1 trivial rfl (Nat.le_refl _) B (o+0) b off cap l (by omega) w c0 hBlt (hS b hSb) (msgs_of hcell' hrel')
      refine (appendSeq _ l (by omega) w hgives).mono ?_
      rintro e w' ⟨v,rfl,hown,hb,hd⟩
      have hfr:Fr Bd w w':=⟨hb.os,hb.tape,hb.output,hb.size,fun _=>hd,fun k hk _=>hb.block k hk⟩
      rcases hown.2 with ⟨rfl,h0⟩ | ⟨g,cap,cur,rfl,hbg,hgb,hnc,hcm,hcs,htake⟩
      · refine ⟨_, S, fun i => if i = 0 then some ⟨0, 0, 5, 0⟩ else none, rfl, hfr, fun _ h => h, fun _ h => .inl h, ⟨fun id b hg => ?_, fun i j b b' l1 l2 hi hj hne => ?_, fun b hb' => Nat.lt_of_lt_of_le (hS b hb') hb.size⟩, .fulN 0 _ rfl rfl rfl⟩
        · simp only [hget] at hg
          cases e:Nat.beq 0 id
          · rw [e] at hg; cases hg
          · rw [e] at hg
            cases hg
            have:=Nat.eq_of_beq_eq_true e
            subst this
            refine ⟨_,rfl,rfl,h0.symm,?_,fun hn=>absurd rfl hn⟩
            show List.length (α:=Msg) l * 5≤0
            omega
        · simp only [hget] at hi hj
          cases e1:Nat.beq 0 i
          · rw [e1] at hi; cases hi
          · cases e2 : Nat.beq 0 j
            · rw [e2] at hj; cases hj
            · exact absurd ((Nat.eq_of_beq_eq_true e1).symm.trans (Nat.eq_of_beq_eq_true e2)) hne
      · refine ⟨_, S, fun i => if i = 0 then some ⟨g, cap * 5, 5, l.length⟩ else none, rfl, hfr, fun _ h => h, fun _ h => .inl h, ⟨fun id b hg => ?_, fun i j b b' l1 l2 hi hj hne => ?_, fun b hb' => Nat.lt_of_lt_of_le (hS b hb') hb.size⟩, .ful 0 cap ⟨g, cap * 5, 5, l.length⟩ rfl (Nat.le_refl _) hnc⟩
        · simp only [hget] at hg
          cases e:Nat.beq 0 id
          · rw [e] at hg; cases hg
          · rw [e] at hg
            cases hg
            have:=Nat.eq_of_beq_eq_true e
            subst this
            refine ⟨_,rfl,rfl,rfl,Nat.mul_le_mul_right 5 hnc,fun hn=>⟨hown0 g hbg,fun hSg=>by have:=hS g hSg; omega,cur,hgb,hcs,fun i x j a hi hj => ?_⟩⟩
            have hil:i < l.length:=(List.getElem?_eq_some_iff.1 hi).1
            have hj5:j < 5:=(List.getElem?_eq_some_iff.1 hj).1
            have hc1:cur.toList[i * 5+j]? = (mcs x)[j]? := by
              rw [← flat_get l i x j hi hj5,← htake,List.getElem?_take_of_lt (by omega)]
            have hv:(mcs x)[j]? = some a.val∧a.prim=true:=by
              match j,hj with
              | 0,hj=>cases hj; exact ⟨rfl,rfl⟩
              | 1,hj=>cases hj; exact ⟨rfl,rfl⟩
              | 2,hj=>cases hj; exact ⟨rfl,rfl⟩
              | 3,hj=>cases hj; exact ⟨rfl,rfl⟩
              | 4,hj=>cases hj; exact ⟨rfl,rfl⟩
            refine ⟨a.val,?_,val_rel hv.2⟩
            rw [← hv.1,← hc1]
            show cur[i * 5+j]? = _
            simp
        · simp only [hget] at hi hj
          cases e1:Nat.beq 0 i
          · rw [e1] at hi; cases hi
          · cases e2 : Nat.beq 0 j
            · rw [e2] at hj; cases hj
            · exact absurd ((Nat.eq_of_beq_eq_true e1).symm.trans (Nat.eq_of_beq_eq_true e2)) hne
namespace appendSeq
noncomputable def sp:MSp U El:=fun args hs k=>match args,hs with
  | [.nils,.fn f [] [.pcs [.lst .msg l] 0]],[]=>chk (Nat.beq f 63&&nle (List.length l) 100000) (k (.ful 0) [(0,.rows .msg l)])
  | _,_=>none
theorem spOk:MSpOk Try.prog E 83 sp:=⟨Try.call83,fun args hs k r h=>by
  unfold sp at h
  split at h
  · obtain ⟨h1, h2⟩ := chk_some h
    simp only [Bool.and_eq_true] at h1
    cases Nat.eq_of_beq_eq_true h1.1
    exact ⟨_,_,appendSeq_mcall _ h1.2,h2⟩
  · cases h⟩
end appendSeq
set_option maxHeartbeats 1000000 in
theorem values_in (F:Fence) (n:Nat) (h5:F.fn 46) (hro:F.round=none) (a:Option Addr) (len cap:Nat) (w:World) :
    CallsIn F n Try.prog 46 #[.slice a len cap] w fun e w'=>e = .returned (.func (.func 63) #[] #[.pointer (some ⟨w.heap.size,0,none⟩)])∧w'=w.alloc (.cells #[.slice a len cap] 22):=by
  refine callsIn_of_wp Try.func46 rfl h5 ?_ hro
  simp only [Try.ntmps46,List.size_toArray,List.length_cons,List.length_nil,Nat.reduceAdd,Nat.reduceSub,Array.replicate_succ,Array.replicate_zero,List.push_toArray,List.append_toArray,List.nil_append,List.cons_append]
  gi_wp2
  go_ret
  exact ⟨rfl,rfl⟩
theorem slice_of_lst {S:Nat→Prop} {ρ:Rho} {w:World} {l:List Msg} {v:Value} (h:Rel E S ρ w (.lst .msg l) v):∃ a len cap,v = .slice a len cap:=by
  cases h with
  | lstE _ ao cap=>exact ⟨_,_,_,rfl⟩
  | lst _ _ b off cap val _ _ _ _=>exact ⟨_,_,_,rfl⟩
namespace valuesM
theorem spec (l : List Msg) : CallSpec Try.prog E 46 [.lst .msg l] (.fn 63 [] [.pcs [.lst .msg l] 0]) [] := by
  refine ⟨Try.call46,fun id b hg=>(by cases hg),fun S w vs hS hG hr => ?_⟩
  obtain ⟨v,rfl,hv⟩:∃ v,vs=#[v]∧Rel E S (fun _=>none) w (.lst .msg l) v:=by
    obtain ⟨h1,h2⟩:=hr
    match vs,h1,h2 with
    | ⟨[v]⟩,_,h2=>exact ⟨v,rfl,h2 0 _ v rfl rfl⟩
  obtain ⟨a,len,cap,rfl⟩:=slice_of_lst hv
  refine (callsIn_wide.1 (values_in Fence.wide 1 trivial rfl a len cap w)).mono ?_
  rintro e w' ⟨rfl,rfl⟩
  have hold:∀ k,k < w.heap.size→(w.alloc (.cells #[.slice a len cap] 22)).heap[k]? = w.heap[k]? := fun k hk=>Below.heap_alloc _ _ k hk
  refine ⟨_,fun b=>S b∨b=w.heap.size,fun _=>none,rfl,⟨⟨rfl,rfl,rfl,by simp,fun _=>Nat.le_refl _,fun k hk _=>hold k hk⟩,fun _ h => .inl h,fun b h=>h.imp id fun e=>by rw [e]; exact Nat.le_refl _,fun _ _ h=>h,hS⟩,⟨fun id b hg=>(by cases hg),fun i j b b' l1 l2 hi=>(by cases hi),fun b hb => ?_⟩,?_⟩
  · rcases hb with hb | rfl
    · have:=hS b hb; simp; omega
    · simp
  · have key : Rel E (fun b => S b ∨ b = w.heap.size) (fun _ => none) (w.alloc (.cells #[.slice a len cap] 22)) (AV.pcs [.lst .msg l] 0) (.pointer (some ⟨w.heap.size, 0 + 0, none⟩)) := by
      refine Rel.pcs (E:=E) (S:=fun b=>S b∨b=w.heap.size) (ρ:=fun _=>none) (w:=w.alloc (.cells #[.slice a len cap] 22)) ([AV.lst U.msg l]:List (AV U El)) 0 w.heap.size 0 (fun _ => .slice a len cap) (fun _=>Or.inr rfl) (fun j c hj => ?_) fun j c hj => ?_
      · match j, hj with
        | 0,hj=>simp
      · match j, hj with
        | 0,hj=>cases hj; exact hv.mono (fun _ h => .inl h) (fun b hb=>hold b (hS b hb)) (fun _ _ h=>h)
    refine Rel.fn (E:=E) _ [] ([AV.pcs [AV.lst U.msg l] 0]:List (AV U El)) #[] #[.pointer (some ⟨w.heap.size,0,none⟩)] rfl rfl (fun i c v h=>by cases h) fun i c v hc hv' => ?_
    match i,hc,hv' with
    | 0, hc, hv' =>
      cases hc
      cases hv'
      exact key
noncomputable def sp:Sp U El:=fun args k=>match args with
  | [.lst .msg l]=>k (.fn 63 [] [.pcs [.lst .msg l] 0]) []
  | _=>none
theorem spOk:SpOk Try.prog E 46 sp where
  det:=fun vs=>by
    unfold sp
    split
    · exact ⟨some (_,_),fun _=>rfl⟩
    · exact ⟨none,fun _=>rfl⟩
  ok:=fun vs k r h=>by
    unfold sp at h
    split at h
    · exact ⟨_,_,spec _,h⟩
    · cases h
end valuesM
end Go.Proofs.Ytkeplmpcijigaaa
