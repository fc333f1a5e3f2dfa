/- survey.line: a word and numbers, written into a builder; a contract of the lift, by hand. -/
import Derived.Test.YtnofdcckddfooaaGreatDoorIT
import Derived.Test.YtnofdcckddfooaaGreatDoorBX
import Derived.Deep.LoopGhost
import Derived.Lib.ItoaLen
namespace Go.Proofs.YtnofdcckddfooaaGreatDoor
set_option linter.unusedSectionVars false
set_option linter.unusedSimpArgs false
set_option linter.unusedVariables false
open Go.RowKit
noncomputable def numsS:List Int→List UInt8
  | []=>[]
  | n :: ns=>(([byteOf 32]:List UInt8)++Lib.itoa n)++numsS ns
noncomputable def lineS (wd:List UInt8) (ns:List Int):List UInt8:=(wd++numsS ns)++[byteOf 10]
theorem numsS_snoc (ns:List Int) (n:Int):numsS (ns++[n])=(numsS ns++[byteOf 32])++Lib.itoa n:=by
  induction ns with
  | nil=>simp [numsS]
  | cons m ns ih=>simp only [List.cons_append,numsS,ih,List.append_assoc]
section
variable {X:Ctx U El}
def LineP (X:Ctx U El) (B:Bd) (S0:Nat→Prop) (w0:World) (a:Act) (st:St U El) (id j rr:Nat) (lb lr:Loc) (ys:List UInt8) (w:World):Prop :=
  ∃ S ρ,Inv X B S0 w0 S ρ (bst U.u8 st id j ys) a w∧ρ id=some lb∧ρ rr=some lr
variable {B:Bd} {S0:Nat→Prop} {w0:World} {a:Act} {st:St U El} {id j rr:Nat} {lb lr:Loc} {ys:List UInt8} {w:World}
theorem LineP.ws (hX:CtxOk Tryz.prog X) (hE:X.E=E) (hne:id≠j) (hrj:rr≠j) (h:LineP X B S0 w0 a st id j rr lb lr ys w) (s:List UInt8) (hlen:ys.length+s.length≤140737488355328) :
    Calls Tryz.prog 62 #[.pointer (some ⟨lb.b,0,none⟩),.string ⟨s.toArray⟩] w fun e w'=>e = .returned (.tuple #[.int .i64 (Int.ofNat s.length),.nilIface])∧LineP X B S0 w0 a st id j rr lb lr (ys++s) w':=by
  obtain ⟨S,ρ,hi,h1,h2⟩:=h
  refine (ws1 hX (u8:=U.u8) (mk:=fun s=>s) (un:=fun s=>s) (by rw [hE]; exact byteU) (by rw [hE]; rfl) hi s (bst_id U.u8 st id j ys) (bst_j U.u8 st hne ys) hne h1 hlen).mono ?_
  rintro e w' ⟨rfl,l',hi'⟩
  refine ⟨rfl,S,_,bst_again hne hi',?_,?_⟩
  · simp [Rho.set,Rho.del,hne,h1]
  · simp [Rho.set,Rho.del,hrj,h2]
theorem LineP.wb (hX:CtxOk Tryz.prog X) (hE:X.E=E) (hne:id≠j) (hrj:rr≠j) (h:LineP X B S0 w0 a st id j rr lb lr ys w) (x:Int) (hx0:0≤x) (hx9:x≤255) (hlen:ys.length+1≤140737488355328) :
    Calls Tryz.prog 63 #[.pointer (some ⟨lb.b,0,none⟩),.int .u8 x] w fun e w'=>e = .returned .nilIface∧LineP X B S0 w0 a st id j rr lb lr (ys++[byteOf x]) w':=by
  obtain ⟨S,ρ,hi,h1,h2⟩:=h
  refine (wb1 hX (u8:=U.u8) (mk:=fun s=>s) (un:=fun s=>s) (by rw [hE]; exact byteU) (by rw [hE]; rfl) hi x hx0 hx9 (bst_id U.u8 st id j ys) (bst_j U.u8 st hne ys) hne h1 hlen).mono ?_
  rintro e w' ⟨rfl,l',hi'⟩
  refine ⟨rfl,S,_,bst_again hne hi',?_,?_⟩
  · simp [Rho.set,Rho.del,hne,h1]
  · simp [Rho.set,Rho.del,hrj,h2]
theorem LineP.itoa (hE:X.E=E) (h:LineP X B S0 w0 a st id j rr lb lr ys w) (n:Int) (h0 : -9223372036854775808≤n) (h1:n≤9223372036854775807) :
    Calls Tryz.prog 64 #[.int .i64 n] w fun e w'=>e = .returned (.string ⟨(Lib.itoa n).toArray⟩)∧LineP X B S0 w0 a st id j rr lb lr ys w':=by
  obtain ⟨S,ρ,hi,g1,g2⟩:=h
  have hG:E.G w:=by have:=hi.g0 _ hi.below; rw [hE] at this; exact this
  refine ((itoa.spec n h0 h1).2.2 S w #[.int .i64 n] hi.heap.lt hG ⟨rfl,fun i c v hc hv => ?_⟩).mono ?_
  · match i, hc, hv with
    | 0,hc,hv=>cases hc; cases hv; exact .int _ _
  · rintro e w' ⟨v, S', ρ', rfl, hst, hN, hr⟩
    cases hr
    exact ⟨rfl,S',ρ,hi.step hst (by rw [hE]; exact hN),g1,g2⟩
theorem LineP.cells (hE:X.E=E) {ns:List Int} (hne:id≠j) (hri:rr≠id) (hrj:rr≠j) (hgr:hget st.h rr=some (.rows .int ns)) (h:LineP X B S0 w0 a st id j rr lb lr ys w):∀ i (hi:i < ns.length),w.cell? ⟨lr.b,i,none⟩=some (.int .i64 ns[i]):=by
  intro i hil
  obtain ⟨S,ρ,hi,g1,g2⟩:=h
  have hg:hget (bst U.u8 st id j ys).h rr=some (.rows .int ns):=(bst_o U.u8 st hri hrj ys).trans (by rw [hgr]; rfl)
  obtain ⟨l,hl,c1,c2,c3,c4⟩:=hi.heap.get _ _ hg
  rw [g2] at hl; cases hl
  have hsz:X.E.sz .int=1:=by rw [hE]; rfl
  have hn:lr.n≠0:=by
    rw [hsz] at c3
    have c3':ns.length * 1≤lr.n:=c3
    omega
  obtain ⟨c5,c6,c,hh,c7,c8⟩:=c4 hn
  obtain ⟨v,h1,h2⟩:=c8 i ns[i] 0 (.int .i64 ns[i]) (List.getElem?_eq_getElem hil) (by rw [hE]; rfl)
  cases h2
  rw [hsz,show i * 1+0=i by omega] at h1
  rw [Lib.cell_of_heap hh]
  exact h1
theorem LineP.lt (h:LineP X B S0 w0 a st id j rr lb lr ys w):lb.b < w.heap.size:=by
  obtain ⟨S,ρ,hi,g1,g2⟩:=h
  obtain ⟨l,hl,hb⟩:=hi.heap.get _ _ (bst_id U.u8 st id j ys)
  rw [g1] at hl; cases hl
  exact (hb.lt (by have:=hb.1; omega)).1
theorem take_next (ns:List Int) {i:Nat} (h:i < ns.length):numsS (ns.take (i+1))=(numsS (ns.take i)++[byteOf 32])++Lib.itoa ns[i]:=by
  rw [List.take_succ_eq_append_getElem h,numsS_snoc]
theorem numsS_len (ns:List Int) (h:∀ n∈ns,-9223372036854775808≤n∧n≤9223372036854775807):(numsS ns).length≤22 * ns.length:=by
  induction ns with
  | nil=>simp [numsS]
  | cons n ns ih =>
    have h1:=Lib.itoa_length_le n (h n (by simp)).1 (h n (by simp)).2
    have h2:=ih fun m hm=>h m (by simp [hm])
    simp only [numsS,List.length_append,List.length_cons,List.length_nil]
    omega
set_option maxHeartbeats 4000000 in
set_option maxRecDepth 100000 in
theorem line_any (hX:CtxOk Tryz.prog X) (hE:X.E=E) {ns:List Int} (hne:id≠j) (hri:rr≠id) (hrj:rr≠j) (hgr:hget st.h rr=some (.rows .int ns)) (hns:∀ n∈ns,-9223372036854775808≤n∧n≤9223372036854775807) (hnl:ns.length≤1000) (wd:List UInt8) (xs:List UInt8) (hxs:xs.length+wd.length≤140000000000000)
    (vb:Option Addr) (cap:Nat) (hvb:ns≠[]→vb=some ⟨lr.b,0,none⟩)
    (hfirst:Calls Tryz.prog 62 #[.pointer (some ⟨lb.b,0,none⟩),.string ⟨wd.toArray⟩] w fun e w'=>e = .returned (.tuple #[.int .i64 (Int.ofNat wd.length),.nilIface])∧LineP X B S0 w0 a st id j rr lb lr (xs++wd) w') :
    Calls Tryz.prog 36 #[.pointer (some ⟨lb.b,0,none⟩),.string ⟨wd.toArray⟩,.slice vb ns.length cap] w fun e w'=>e = .returned (.tuple #[])∧LineP X B S0 w0 a st id j rr lb lr (xs++lineS wd ns) w':=by
  go_enter Tryz.func36,Tryz.ntmps36
  go_wp2_with fail
  refine hfirst.mono ?_
  rintro e w1 ⟨rfl,hP1⟩
  have hP1:=Lib.hid hP1
  go_wp2_with fail
  go_loopg [13] (ns.length+1) (fun g v13 wr=>∃ i:Nat,v13 = .int .i64 i∧i≤ns.length∧ns.length - i≤g∧Hid (LineP X B S0 w0 a st id j rr lb lr (xs++wd++numsS (ns.take i)) wr))
  case atStart=>exact ⟨0,rfl,by omega,by omega,Lib.hid (by simpa [numsS] using hP1.out)⟩
  case round =>
    obtain ⟨i,rfl,hil,hg,hP⟩:=hrel
    by_cases hlt:i < ns.length
    · have hc := hP.out.cells hE hne hri hrj hgr i hlt
      have hvb':=hvb (by rintro rfl; simp at hlt)
      have hn1:=hns _ (List.getElem_mem hlt)
      have htn:=take_next ns hlt
      have hnt:=numsS_len (ns.take i) fun m hm=>hns m (List.mem_of_mem_take hm)
      have hntl:(ns.take i).length≤1000:=by rw [List.length_take]; omega
      have hlen1:(xs++wd++numsS (ns.take i)).length+1≤140737488355328:=by simp only [List.length_append]; omega
      have hil2:=Lib.itoa_length_le _ hn1.1 hn1.2
      have hlen2:(xs++wd++numsS (ns.take i)++[byteOf 32]).length+(Lib.itoa ns[i]).length≤140737488355328:=by simp only [List.length_append,List.length_cons,List.length_nil]; omega
      generalize ns[i]=n at hc hn1 htn hlen2
      subst hvb'
      go_wp2_with fail
      refine (hP.out.wb hX hE hne hrj 32 (by omega) (by omega) hlen1).mono ?_
      rintro e w2 ⟨rfl,hP2⟩
      have hP2:=Lib.hid hP2
      go_wp2_with fail
      refine (hP2.out.itoa hE n hn1.1 hn1.2).mono ?_
      rintro e w3 ⟨rfl,hP3⟩
      have hP3:=Lib.hid hP3
      go_wp2_with fail
      refine (hP3.out.ws hX hE hne hrj (Lib.itoa n) hlen2).mono ?_
      rintro e w4 ⟨rfl,hP4⟩
      have hP4:=Lib.hid hP4
      go_wp2_with fail
      go_roundg (ns.length - (i+1))
      case measure=>omega
      case rel=>exact ⟨i+1,by go_num,by omega,by omega,Lib.hid (by rw [htn]; simpa [List.append_assoc] using hP4.out)⟩
    · have hie : i = ns.length := by omega
      subst hie
      rw [List.take_length] at hP
      have hnt:=numsS_len ns hns
      have hlen1:(xs++wd++numsS ns).length+1≤140737488355328:=by simp only [List.length_append]; omega
      go_wp2_with fail
      refine (hP.out.wb hX hE hne hrj 10 (by omega) (by omega) hlen1).mono ?_
      rintro e w2 ⟨rfl,hP2⟩
      have hP2:=Lib.hid hP2
      go_wp2_with fail
      refine bodyPost_end (results_none rfl _ _ _) rfl ?_
      refine ⟨rfl,?_⟩
      unfold lineS
      simpa [List.append_assoc] using hP2.out
def nsOk (ns:List Int):Bool:=List.all ns (fun n=>ile (-9223372036854775808) n&&ile n 9223372036854775807)&&nle (List.length ns) 1000
def catU (xs s:List UInt8):List UInt8:=xs++s
noncomputable def lineSp:SpM U El:=fun d args st k=>match args with
  | [.ptr id 0, .str wd, .ful r] => match hget st.h id with
    | some (.bld T j) => match hget st.h j, hget st.h r with
      | some (.rows .u8 xs),some (.rows .int ns)=>chk ((Nat.beq T 77&&(!(Nat.beq id j)&&(!(Nat.beq r id) && !(Nat.beq r j))))&&(nsOk ns&&nle (List.length xs+List.length wd) 140000000000000))
          (k (.tup []) (bst U.u8 st id j (catU xs (lineS wd ns))))
      | _,_=>none
    | _=>none
  | _=>none
theorem three_vals {S:Nat→Prop} {ρ:Rho} {w:World} {c d e:AV U El} {vs:Array Value} (h:RelL X.E S ρ w [c,d,e] vs):∃ v1 v2 v3,vs=#[v1,v2,v3]∧Rel X.E S ρ w c v1∧Rel X.E S ρ w d v2∧Rel X.E S ρ w e v3:=by
  obtain ⟨h1,h2⟩:=h
  match vs,h1,h2 with
  | ⟨[v1,v2,v3]⟩,_,h2=>exact ⟨v1,v2,v3,rfl,h2 0 c v1 rfl rfl,h2 1 d v2 rfl rfl,h2 2 e v3 rfl rfl⟩
theorem lineOk (hX : CtxOk Tryz.prog X) (hE : X.E = E) : SpMOk Tryz.prog X 36 lineSp := by
  refine ⟨Tryz.call36,?_⟩
  intro B S0 w0 S ρ st a w d args vs k r hi hr hv
  unfold lineSp at hv
  split at hv
  · rename_i id wd rr
    split at hv
    · rename_i T j hg
      split at hv
      · rename_i xs ns hgj hgr
        obtain ⟨hck,hk⟩:=chk_some hv
        simp only [Bool.and_eq_true,Bool.not_eq_true'] at hck
        obtain ⟨⟨hT,hne,hri,hrj⟩,hnsk,hxs⟩:=hck
        obtain ⟨hns,hnl⟩:=Bool.and_eq_true_iff.1 (show (List.all (α:=Int) ns (fun n=>ile (-9223372036854775808) n&&ile n 9223372036854775807)&&nle (List.length (α:=Int) ns) 1000)=true from hnsk)
        obtain rfl:=Nat.eq_of_beq_eq_true hT
        have hne:id≠j:=by rintro rfl; rw [Nat.beq_refl] at hne; cases hne
        have hri:rr≠id:=by rintro rfl; rw [Nat.beq_refl] at hri; cases hri
        have hrj:rr≠j:=by rintro rfl; rw [Nat.beq_refl] at hrj; cases hrj
        have hns':∀ (n:Int),List.Mem n (ns:List Int) → -9223372036854775808≤n∧n≤9223372036854775807:=fun n hn=>by
          have:=List.all_eq_true.1 hns n hn
          simp only [Bool.and_eq_true,ile,decide_eq_true_eq] at this
          exact this
        have hnl:(ns:List Int).length≤1000:=of_decide_eq_true hnl
        have hxs:(xs:List UInt8).length+wd.length≤140000000000000:=of_decide_eq_true hxs
        obtain ⟨v1,v2,v3,rfl,r1,r2,r3⟩:=three_vals hr
        cases r2
        cases r1 with
        | ptr _ _ lb hlb =>
          obtain ⟨lr,hlr,hbr⟩:=hi.heap.get _ _ hgr
          have hln:lr.ln=(ns:List Int).length:=hbr.2.1
          have hw1:Calls Tryz.prog 62 #[.pointer (some ⟨lb.b,0,none⟩),.string ⟨wd.toArray⟩] w fun e w'=>e = .returned (.tuple #[.int .i64 (Int.ofNat wd.length),.nilIface])∧LineP X B S0 w0 a st id j rr lb lr (catU xs wd) w':=by
            refine (ws1 hX (u8:=U.u8) (mk:=fun s=>s) (un:=fun s=>s) (by rw [hE]; exact byteU) (by rw [hE]; rfl) hi wd hg hgj hne hlb (Nat.le_trans hxs (by omega))).mono ?_
            rintro e w' ⟨rfl,l',hi'⟩
            refine ⟨rfl,S,_,hi',?_,?_⟩
            · simp [Rho.set,Rho.del,hne,hlb]
            · simp [Rho.set,Rho.del,hrj,hlr]
          have fin:∀ (vb:Option Addr) (cap:Nat),((ns:List Int)≠[]→vb=some ⟨lr.b,0,none⟩)→Calls Tryz.prog 36 #[.pointer (some ⟨lb.b,0,none⟩),.string ⟨wd.toArray⟩,.slice vb (ns:List Int).length cap] w fun e w'=>∃ v res st' S' ρ',e = .returned v∧k res st'=some r∧Inv X B S0 w0 S' ρ' st' a w'∧Rel X.E S' ρ' w' res v:=fun vb cap hvb=>by
            refine (line_any hX hE hne hri hrj hgr hns' hnl wd xs hxs vb cap hvb hw1).mono ?_
            rintro e w' ⟨rfl,S',ρ',hi',_,_⟩
            exact ⟨_,_,_,S',ρ',rfl,hk,hi',.tup _ _ rfl fun i c v hc _=>by cases hc⟩
          cases r3 with
          | ful _ cap l2 hl2 e1 e2 =>
            rw [hlr] at hl2; cases hl2
            rw [hln]
            exact fin _ cap fun _=>rfl
          | fulN _ l2 hl2 e1 e2 =>
            rw [hlr] at hl2; cases hl2
            have h0:(ns:List Int).length=0:=by rw [← hln]; exact e2
            have:=fin none 0 fun h=>absurd (List.eq_nil_of_length_eq_zero h0) h
            rw [h0] at this
            exact this
      · cases hv
    · cases hv
  · cases hv
end
end Go.Proofs.YtnofdcckddfooaaGreatDoor
