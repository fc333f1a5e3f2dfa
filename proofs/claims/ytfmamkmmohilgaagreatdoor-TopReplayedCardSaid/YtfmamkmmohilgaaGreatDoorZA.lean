/- The law TopReplayed: for any arguments whatever it returns true, and its arguments read as they did. Conditions: none beyond the card's own (the tables of the standard library read as their initialisers lay them). -/
import Derived.Test.YtfmamkmmohilgaaGreatDoorZF
import Derived.Lay
namespace Go.Proofs.YtfmamkmmohilgaaGreatDoor.topReplayed
open Go.Proofs.Tryz IntKind
set_option linter.all false
open Go.ChangeShapes Go.WideShapes Go.ChangeAt Go.RowKit
noncomputable section
abbrev laidAll:ah (String×DataW Unit):=[("unicode/utf8.first",Rows.laid_unicode_utf8_first),("unicode/utf8.acceptRanges",Rows.laid_unicode_utf8_acceptRanges),("internal/strconv.uint64pow10",Rows.laid_internal_strconv_uint64pow10),("math/bits.deBruijn32tab",Rows.laid_math_bits_deBruijn32tab),("math/bits.deBruijn64tab",Rows.laid_math_bits_deBruijn64tab),("strconv.ErrSyntax",Rows.laid_strconv_ErrSyntax),("strconv.ErrRange",Rows.laid_strconv_ErrRange)]
theorem NQ{W:World}(h:laidMetH prog laidAll W)(hs:W.ShapedOpen prog):E.G W:=by
 refine⟨?_,cell_of_shapedOpen_int (P:=prog) (g:=2) (t:=3) (zero:=#[.int .i64 0]) hs (of_decide_eq_true aa) aa rfl aa aa underlying3⟩
 rw[MakeChecks.laidMetH_plain _ _ _ aa]at h;obtain⟨ps,⟨g0,t0,cs0,f0,p0,q0,Dd,TN,hv0,hd0,⟨g1,t1,cs1,f1,p1,q1,RL,Jn,gq,Q1,⟨g2,t2,cs2,f2,p2,q2,Er,_3,qv,VA,⟨g3,t3,cs3,f3,p3,q3,hg3,ht3,Ze,hd3,⟨g4,t4,cs4,f4,p4,q4,hg4,ht4,hv4,hd4,⟨g5,t5,cs5,f5,p5,q5,hg5,ht5,hv5,hd5,⟨g6,t6,cs6,f6,p6,q6,hg6,ht6,hv6,hd6,_,_⟩,_⟩,_⟩,_⟩,_⟩,_⟩,_⟩,_⟩:=h;obtain⟨g,hg,t,ht,n,e,hu,he,XD,hct⟩:=gOk aa
 obtain rfl:=ez (hg.symm.trans Er)
 obtain rfl:=ez (ht.symm.trans _3)
 unfold Lib.TabIs;have LP:(Rows.laid_internal_strconv_uint64pow10:DataW Unit)=Lib.tabData .u64 Lib.pow10Tab:=by rfl
 rw[LP]at VA;rw[qv,<-Lib.cells_of_tab hu he XD hct VA]
theorem walk(v0:Value)(l0:El .rp)(v1:Value)(l1:ah (El .jt))(v2:Value)(l2:ah (El .bool))(n3 n4:Int)(w4:(Lit.int .u16 n4).wf=true)(W:World)(hG:E.G W)(s0:Rel E (λb=>b<W.heap.size) (λ_=>none) W (.agg (E.enc .rp l0)) v0)(s1:Rel E (λb=>b<W.heap.size) (λ_=>none) W (.au .jt l1) v1)(s2:Rel E (λb=>b<W.heap.size) (λ_=>none) W (.au .bool l2) v2):
 Calls prog 3 #[v0,v1,v2,.int .i64 n3,.int .u16 n4] W λe W'=>e=.returned (.bool true)/\Below W.heap.size W W':=by
 obtain⟨r,x,hc|hc,hk⟩:=Ll.c.ok.ok [.agg (E.enc .rp l0),.au .jt l1,.au .bool l2,.int .i64 n3,.int .u16 n4] (λv h=>some (v,h)) (.bool true,[]) (by show aU (Lit.wf (.int .u16 n4)) (some _)=_;rw[w4];rfl)
 case inr=>
  obtain⟨_,h⟩:=hc;obtain⟨v,h,_⟩:=h (λb=>b<W.heap.size) W #[v0,v1,v2,.int .i64 n3,.int .u16 n4] (λ_ h=>h) ⟨rfl,λi c v hc hv=>by
   match i,hc,hv with
   |0,hc,hv=>cases hc;cases hv;exact s0
   |1,hc,hv=>cases hc;cases hv;exact s1
   |2,hc,hv=>cases hc;cases hv;exact s2
   |3,hc,hv=>cases hc;cases hv;exact .int _ _
   |4,hc,hv=>cases hc;cases hv;exact .int _ _⟩
  cases(call3 _ _).symm.trans h
 cases hk;refine(hc.2.2 (λb=>b<W.heap.size) W _ (λ_ h=>h) hG ⟨rfl,λi c v hc hv=>?_⟩).mono ?_
 ·match i,hc,hv with
  |0,hc,hv=>cases hc;cases hv;exact s0
  |1,hc,hv=>cases hc;cases hv;exact s1
  |2,hc,hv=>cases hc;cases hv;exact s2
  |3,hc,hv=>cases hc;cases hv;exact .int _ _
  |4,hc,hv=>cases hc;cases hv;exact .int _ _
 ·rintro e w' ⟨v,S',ρ',rfl,mq,_,hr⟩
  cases hr;exact⟨rfl,mq.below⟩
theorem Mj(os:Os)(args:Array Value):laidMetH prog laidAll ((World.laidAll prog os laidAll).forCall (λ_ _=>0) ⟨#[],args,[]⟩).memory:=by
 rw[MakeChecks.laidMetH_plain _ _ _ aa]
 exact laidMet_laidAll _ aa aa
set_option maxRecDepth 100000 in
theorem lifted(os:Os)(started:os.Started)(H:Type)(enc:TypeId×Value->H):
 ReturnsInHanded {} Tryz.checked os 3 .any (λw args=>(Rows.topReplayedSpec.pre enc prog Tryz.f3 [] false w args/\laidMetH prog laidAll w)/\sizedMet enc prog Tryz.f3 (OpenSpec.ofChange Rows.topReplayedSpec) false w args)
  (Rows.topReplayedSpec.post enc prog Tryz.f3 false true false false):=by
 refine wo (C:=Tryz.checked) (X:=λw _=>laidMetH prog laidAll w) (λ_ _ _ hh h=>h.of_heap hh) own started aa func3
  (ChangeSpec.witness_shaped (enc:=enc) (C:=Tryz.checked) (os:=os) (X:=λw _=>laidMetH prog laidAll w) false (World.laidAll prog os laidAll) #[.agg #[.slice none 0 0,.slice none 0 0,.slice none 0 0,.slice none 0 0,.slice none 0 0,.slice none 0 0,.slice none 0 0,.slice none 0 0],.slice none 0 0,.slice none 0 0,.int .i64 0,.int .u16 0] 8 (World.laidAll_os _ _ _) (World.shaped_of_ZipB aa aa) aa aa aa (Mj os _)) ?_
 intro W base args ds gs before Pn hW _ _ hL hS _;have sd:∀(j:Nat) t v,Tryz.f3.params[j]?=some t->args[j]?=some v->Value.okWide prog W .any base t v:=Pn;have XO:=hW;obtain⟨p,q,ZJ,hV,rfl,hfz,Vs⟩:=hW;have hA:DataW.TrodAll enc prog W 0 (λ_=>true) true Tryz.f3.params.toList args.toList ds p:=ZJ;rw[params3]at hA sd;obtain⟨v0,vs0,d0,ds0,p0,q0,qT,rfl,rfl,h0,r0⟩:=trodAll_cons hA;obtain⟨v1,vs1,d1,ds1,p1,q1,rfl,rfl,rfl,h1,r1⟩:=trodAll_cons r0;obtain⟨v2,vs2,d2,ds2,p2,q2,rfl,rfl,rfl,h2,r2⟩:=trodAll_cons r1;obtain⟨v3,vs3,d3,ds3,p3,q3,rfl,rfl,rfl,h3,r3⟩:=trodAll_cons r2;obtain⟨v4,vs4,d4,ds4,p4,q4,rfl,rfl,rfl,h4,r4⟩:=trodAll_cons r3;obtain⟨rfl,rfl,rfl⟩:=trodAll_nil r4;obtain rfl:args=#[v0,v1,v2,v3,v4]:=by cases args;simp_all
 obtain⟨rfl,rfl⟩:=trodVars_none hV;obtain⟨l0,s0⟩:=SW FP (λ_=>rfl) underlying33 aa (sd 0 33 v0 rfl rfl) h0;obtain⟨l1,s1⟩:=O' IW af (λ_=>rfl) underlying34 aa (sd 1 34 v1 rfl rfl) h1;obtain⟨l2,s2⟩:=O' zl af (λ_=>rfl) underlying29 aa (sd 2 29 v2 rfl rfl) h2;obtain⟨n3,rfl,w3⟩:=HE underlying3 (sd 3 3 v3 rfl rfl) h3;obtain⟨n4,rfl,w4⟩:=HE underlying35 (sd 4 35 v4 rfl rfl) h4;clear ZJ Pn;simp only[cU]at XO;have hlt:∀x∈p0++(p1++(p2++(p3++p4))),x.block<W.heap.size:=λx hx=>by simpa using XO.lt x (by simpa using hx)
 refine(walk v0 l0 v1 l1 v2 l2 n3 n4 w4 W (NQ hL hS) s0 s1 s2).mono λe W' ⟨he,hB⟩=>?_
 subst he;refine⟨_,rfl,_,_,_,[],_,[],XO,trodAll_mk1 (shut_bool underlying4 _),trodAll_cons_mk (Below.trod laidOut aa (of_decide_eq_true aa) h0 hB (λx hx=>hlt x (by simp[hx]))) (trodAll_cons_mk (Below.trod laidOut aa (of_decide_eq_true aa) h1 hB (λx hx=>hlt x (by simp[hx]))) (trodAll_cons_mk (Below.trod laidOut aa (of_decide_eq_true aa) h2 hB (λx hx=>hlt x (by simp[hx]))) (trodAll_cons_mk (Below.trod laidOut aa (of_decide_eq_true aa) h3 hB (λx hx=>hlt x (by simp[hx]))) (trodAll_cons_mk (Below.trod laidOut aa (of_decide_eq_true aa) h4 hB (λx hx=>hlt x (by simp[hx]))) (trodAll_mk0))))),rfl,hB.frame _,λh=>by cases h⟩
theorem over:Rows.TopReplayedSaid:=
 OpenClaim.holds_of_wide 3 Tryz.f3 rfl rfl rfl rfl rfl rfl rfl ⟨rfl,rfl,rfl,rfl,rfl⟩ rfl rfl rfl rfl rfl facts.nm func3 facts.closed facts._L facts._K
  (λos started H enc _=>lifted os started H enc)
theorem proved:Rows.TopReplayedCardSaid:=
 Claim7.holds_tied_plain_at .later [] [.pinned,.data,.data,.data,.data,.sentinel,.sentinel] true (true,"77894248d16a043d6c9f020fa6a8f752c927bd606996f3464fb1cc4eb4f2b31c") true
  over (λ_ h=>by cases h) aa (λ_ h=>by cases h) Nz rfl ⟨rfl,rfl⟩ aa rfl
  (λf fn hf Xu=>by
   obtain rfl:f=3:=ez ((show prog.funcNamed "sewershed/sewershedtop.TopReplayed" =some 3 by kernel_rfl).symm.trans hf)|>.symm
   obtain rfl:fn=Tryz.f3:=(ez (func3.symm.trans Xu)).symm;exact⟨aa,λj t ht=>by
    rw[params3]at ht;have hall:(Tryz.f3.params.toList.all λu=> !Tryz.prog.wantsStandIn u)=true:=aa
    rw[params3]at hall;have hm:=iU ht;exact(show prog.wantsStandIn t=false by simpa using aP.1 hall t (by simpa using hm))⟩)
  UC
end
end Go.Proofs.YtfmamkmmohilgaaGreatDoor.topReplayed
