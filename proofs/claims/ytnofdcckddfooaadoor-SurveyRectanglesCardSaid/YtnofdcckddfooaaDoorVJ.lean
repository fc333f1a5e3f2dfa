/- Small grids are valid surfaces with one border. -/
import Derived.Test.YtnofdcckddfooaaDoorVI
namespace Go.Proofs.YtnofdcckddfooaaDoor
set_option linter.unusedSectionVars false
set_option linter.unusedSimpArgs false
set_option linter.unusedVariables false
set_option maxRecDepth 100000
noncomputable def xN (C t:Nat):Nat:=t%(C+1)
noncomputable def yN (C t:Nat):Nat:=t / (C+1)
noncomputable def lhsN (C a b c:Nat):Nat:=xN C b * yN C c+xN C a * yN C b+yN C a * xN C c
noncomputable def rhsN (C a b c:Nat):Nat:=xN C b * yN C a+xN C a * yN C c+yN C b * xN C c
noncomputable def trN (C a b c:Nat):Bool:=Nat.ble (lhsN C a b c) (rhsN C a b c)
noncomputable def sepSN (C p q:Nat) (g:Face):Bool:=trN C p q g.fa.toNat&&(trN C p q g.fb.toNat&&trN C p q g.fc.toNat)
noncomputable def sepN (C:Nat) (f g:Face):Bool:=sepSN C f.fa.toNat f.fb.toNat g||(sepSN C f.fb.toNat f.fc.toNat g||sepSN C f.fc.toNat f.fa.toNat g)
noncomputable def overN (C:Nat) (f g:Face):Bool := !(sepN C f g) && !(sepN C g f)
noncomputable def okF (n:Nat) (f:Face):Bool:=inb f.fa n&&(inb f.fb n&&(inb f.fc n&&(!(f.fa == f.fb)&&(!(f.fb == f.fc)&&(!(f.fc == f.fa)&&(f.fk == 0))))))
noncomputable def oneN (C:Nat) (f:Face):Bool:=Nat.beq (lhsN C f.fa.toNat f.fb.toNat f.fc.toNat) (rhsN C f.fa.toNat f.fb.toNat f.fc.toNat+1)
noncomputable def cleanN (C:Nat):List (Pr×Bool)→List Face→List Face→Bool
  | _,_,[]=>true
  | mp,sd,f :: r=>oneN C f&&(!(takenB mp f)&&(!(List.any sd (overN C f))&&cleanN C (takeF mp f) (sd++[f]) r))
noncomputable def shapeB (R C:Nat):Bool:=List.all (gridG C 0 R) (okF ((R+1) * (C+1)))&&cleanN C [] [] (gridG C 0 R)
noncomputable def brdB (r:R) (n:Nat):Bool:=match r with
  | some (.tup [.lst .ints [b],.int .i64 e],[])=>Nat.beq b.length n&&e == 0
  | _=>false
noncomputable def brdR (Q C:Nat) (sp:List Spot):R:=border.f2 100000 (neighF (gridG C 0 Q)) (List.replicate (gridG C 0 Q).length d_b3) [] (Int.ofNat (gridG C 0 Q).length) 0 sp (gridG C 0 Q)
theorem brdB_of {r:R} {n:Nat} (h:brdB r n=true):∃ b,r=border.outBd [b] 0∧b.length=n:=by
  unfold brdB at h
  split at h
  · rename_i b e
    simp only [Bool.and_eq_true,beq_iff_eq] at h
    obtain ⟨h1,rfl⟩:=h
    exact ⟨b,rfl,Nat.eq_of_beq_eq_true h1⟩
  · cases h
structure SG (st:Int) (lv:List Int) (Q C:Nat):Prop where
  q:Q≤5
  c:C≤5
  s1:1≤st
  s2:st≤1000000
  l:lv.length=(Q+1) * (C+1)
theorem inbI {a:Int} {n:Nat} (h:inb a n=true):0≤a∧a.toNat < n:=by
  simp only [inb,ile,ilt,Bool.and_eq_true,decide_eq_true_eq] at h; omega
theorem small_mul {x:Int} {st:Int} (s1:1≤st) (s2:st≤1000000) {b:Nat} (h:x.natAbs≤b):(x * st).natAbs≤b * 1000000:=by
  rw [Int.natAbs_mul]; exact Nat.mul_le_mul h (by omega)
theorem xN_le {C t:Nat}:xN C t≤C:=by unfold xN; have:=Nat.mod_lt t (show 0 < C+1 by omega); omega
theorem yN_le {Q C t:Nat} (h:t < (Q+1) * (C+1)):yN C t≤Q:=by
  unfold yN
  have:t / (C+1) < Q+1:=Nat.div_lt_of_lt_mul (by rw [Nat.mul_comm]; exact h)
  omega
theorem coord {st:Int} (s1:1≤st) (s2:st≤1000000) {n:Nat} (h:n≤5):IntKind.wrap .i64 ((n:Int) * st)=(n:Int) * st:=by
  have:=small_mul s1 s2 (x:=(n:Int)) (b:=5) (by omega)
  exact wrapI (by omega) (by omega)
theorem spot_eq {st:Int} {lv:List Int} {Q C:Nat} (h:SG st lv Q C) {t:Nat} (ht:t < (Q+1) * (C+1)):spotG C st lv t=⟨(xN C t:Int) * st,(yN C t:Int) * st,List.getD lv t d_int⟩:=by
  unfold spotG
  have h1:=coord h.s1 h.s2 (n:=t%(C+1)) (Nat.le_trans (xN_le (C:=C) (t:=t)) h.c)
  have h2:=coord h.s1 h.s2 (n:=t / (C+1)) (Nat.le_trans (yN_le ht) h.q)
  rw [h1,h2]
  rfl
theorem pt_eq {st:Int} {lv:List Int} {Q C:Nat} (h:SG st lv Q C) (g:List Face) {a:Int} (ha:inb a ((Q+1) * (C+1))=true):pointM ⟨gridS C st lv,g⟩ a=⟨(xN C a.toNat:Int) * st,(yN C a.toNat:Int) * st⟩:=by
  have h1:=(inbI ha).2
  have h2:a.toNat < lv.length:=by rw [h.l]; exact h1
  unfold pointM
  rw [getD_lt (show a.toNat < (gridS C st lv).length by rw [gridS_len]; exact h2),gridS_get h2,spot_eq h h1]
theorem turn_eq {st:Int} (s1:1≤st) (s2:st≤1000000) {xa ya xb yb xc yc:Nat} (h1:xa≤5) (h2:ya≤5) (h3:xb≤5) (h4:yb≤5) (h5:xc≤5) (h6:yc≤5) :
    turnZ ⟨(xa:Int) * st,(ya:Int) * st⟩ ⟨(xb:Int) * st,(yb:Int) * st⟩ ⟨(xc:Int) * st,(yc:Int) * st⟩=(((xb * yc+xa * yb+ya * xc:Nat):Int) - ((xb * ya+xa * yc+yb * xc:Nat):Int)) * (st * st):=by
  have e:∀ (p q:Nat),p≤5→q≤5→IntKind.wrap .i64 ((p:Int) * st - (q:Int) * st)=((p:Int) - (q:Int)) * st∧(((p:Int) - (q:Int)) * st).natAbs≤5000000:=fun p q hp hq=>by
    have h:=small_mul s1 s2 (x:=(p:Int) - (q:Int)) (b:=5) (by omega)
    rw [← Int.sub_mul]
    exact ⟨wrapI (by omega) (by omega),h⟩
  have m:∀ (u v:Int),u.natAbs≤5000000→v.natAbs≤5000000→IntKind.wrap .i64 (u * v)=u * v∧(u * v).natAbs≤25000000000000:=fun u v hu hv=>by
    have h:(u * v).natAbs≤5000000 * 5000000:=by rw [Int.natAbs_mul]; exact Nat.mul_le_mul hu hv
    exact ⟨wrapI (by omega) (by omega),by omega⟩
  have ea:=e xb xa h3 h1; have eb:=e yc ya h6 h2; have ec:=e yb ya h4 h2; have ed:=e xc xa h5 h1
  have m1:=m _ _ ea.2 eb.2; have m2:=m _ _ ec.2 ed.2
  show IntKind.wrap .i64 (IntKind.wrap .i64 (IntKind.wrap .i64 ((xb:Int) * st - (xa:Int) * st) * IntKind.wrap .i64 ((yc:Int) * st - (ya:Int) * st)) - IntKind.wrap .i64 (IntKind.wrap .i64 ((yb:Int) * st - (ya:Int) * st) * IntKind.wrap .i64 ((xc:Int) * st - (xa:Int) * st)))=_
  rw [ea.1,eb.1,ec.1,ed.1,m1.1,m2.1,wrapI (by have:=m1.2; have:=m2.2; omega) (by have:=m1.2; have:=m2.2; omega)]
  simp only [Int.natCast_add,Int.natCast_mul]
  grind
section
variable {st:Int} {lv:List Int} {Q C:Nat} (h:SG st lv Q C)
include h
theorem trn {g:List Face} {a b c:Int} (ha:inb a ((Q+1) * (C+1))=true) (hb:inb b ((Q+1) * (C+1))=true) (hc:inb c ((Q+1) * (C+1))=true) :
    turnZ (pointM ⟨gridS C st lv,g⟩ a) (pointM ⟨gridS C st lv,g⟩ b) (pointM ⟨gridS C st lv,g⟩ c)=(((lhsN C a.toNat b.toNat c.toNat:Nat):Int) - ((rhsN C a.toNat b.toNat c.toNat:Nat):Int)) * (st * st):=by
  rw [pt_eq h g ha,pt_eq h g hb,pt_eq h g hc]
  have hx:∀ t,xN C t≤5:=fun t=>Nat.le_trans xN_le h.c
  have hy:∀ {a:Int},inb a ((Q+1) * (C+1))=true→yN C a.toNat≤5:=fun ha=>Nat.le_trans (yN_le (inbI ha).2) h.q
  exact turn_eq h.s1 h.s2 (hx _) (hy ha) (hx _) (hy hb) (hx _) (hy hc)
theorem sq_pos:0 < st * st:=Int.mul_pos (by have:=h.s1; omega) (by have:=h.s1; omega)
theorem trn_le {g:List Face} {a b c:Int} (ha:inb a ((Q+1) * (C+1))=true) (hb:inb b ((Q+1) * (C+1))=true) (hc:inb c ((Q+1) * (C+1))=true) :
    ile (turnZ (pointM ⟨gridS C st lv,g⟩ a) (pointM ⟨gridS C st lv,g⟩ b) (pointM ⟨gridS C st lv,g⟩ c)) 0=trN C a.toNat b.toNat c.toNat:=by
  rw [trn h ha hb hc]
  have hp:=sq_pos h
  unfold trN
  cases hq:Nat.ble (lhsN C a.toNat b.toNat c.toNat) (rhsN C a.toNat b.toNat c.toNat) with
  | true =>
    have:=Nat.le_of_ble_eq_true hq
    exact ileT (Int.mul_nonpos_of_nonpos_of_nonneg (by omega) (Int.le_of_lt hp))
  | false =>
    have:¬ lhsN C a.toNat b.toNat c.toNat≤rhsN C a.toNat b.toNat c.toNat:=fun hh=>by rw [Nat.ble_eq_true_of_le hh] at hq; cases hq
    exact ileF (Int.not_le.2 (Int.mul_pos (by omega) hp))
theorem okF_in {n:Nat} {f:Face} (hf:okF n f=true):inb f.fa n=true∧inb f.fb n=true∧inb f.fc n=true∧(f.fa == f.fb)=false∧(f.fb == f.fc)=false∧(f.fc == f.fa)=false∧(f.fk == 0)=true:=by
  simpa only [okF,Bool.and_eq_true,Bool.not_eq_true'] using hf
theorem sep_eq {g:List Face} {f k:Face} (hf:okF ((Q+1) * (C+1)) f=true) (hk:okF ((Q+1) * (C+1)) k=true):sepB (triM ⟨gridS C st lv,g⟩ f) (triM ⟨gridS C st lv,g⟩ k)=sepN C f k:=by
  obtain ⟨f1,f2,f3,_⟩:=okF_in h hf
  obtain ⟨k1,k2,k3,_⟩:=okF_in h hk
  have e:∀ {a b:Int},inb a ((Q+1) * (C+1))=true→inb b ((Q+1) * (C+1))=true→sepS (pointM ⟨gridS C st lv,g⟩ a) (pointM ⟨gridS C st lv,g⟩ b) (triM ⟨gridS C st lv,g⟩ k)=sepSN C a.toNat b.toNat k:=fun ha hb=>by
    unfold sepS sepSN
    rw [← trn_le h (g:=g) ha hb k1,← trn_le h (g:=g) ha hb k2,← trn_le h (g:=g) ha hb k3]
    rfl
  unfold sepB sepN
  rw [← e f1 f2,← e f2 f3,← e f3 f1]
  rfl
theorem over_eq {g:List Face} {f k:Face} (hf:okF ((Q+1) * (C+1)) f=true) (hk:okF ((Q+1) * (C+1)) k=true):overT (triM ⟨gridS C st lv,g⟩ f) (triM ⟨gridS C st lv,g⟩ k)=overN C f k:=by
  unfold overT overN
  rw [sep_eq h hf hk,sep_eq h hk hf]
theorem twice_eq {g:List Face} {f:Face} (hf:okF ((Q+1) * (C+1)) f=true) (h1:oneN C f=true):turnT (triM ⟨gridS C st lv,g⟩ f)=st * st:=by
  obtain ⟨f1,f2,f3,_⟩:=okF_in h hf
  have:=trn h (g:=g) f1 f2 f3
  have e:=Nat.eq_of_beq_eq_true h1
  refine this.trans ?_
  rw [e]
  have:(((rhsN C f.fa.toNat f.fb.toNat f.fc.toNat+1:Nat):Int) - ((rhsN C f.fa.toNat f.fb.toNat f.fc.toNat:Nat):Int))=1:=by omega
  rw [this,Int.one_mul]
theorem bad_eq {g:List Face} {f:Face} (hf:okF ((Q+1) * (C+1)) f=true):badF ⟨gridS C st lv,g⟩ (List.replicate (gridS C st lv).length false) f=false:=by
  obtain ⟨f1,f2,f3,f4,f5,f6,f7⟩:=okF_in h hf
  have hb:∀ {a:Int},inb a ((Q+1) * (C+1))=true→badK (gridS C st lv) (List.replicate (gridS C st lv).length false) a=false:=fun {a} ha=>by
    have hi:=inbI ha
    have hl:(gridS C st lv).length=(Q+1) * (C+1):=by rw [gridS_len,h.l]
    unfold badK
    have hn:¬ Int.ofNat (gridS C st lv).length≤a:=fun hh=>by
      have hh:((gridS C st lv).length:Int)≤a:=hh
      rw [hl] at hh
      generalize (Q+1) * (C+1)=m at *
      omega
    rw [iltF (by omega),ileF hn,getD_lt (by rw [List.length_replicate,hl]; exact hi.2)]
    simp
  have hk:f.fk=0:=by simpa using f7
  unfold badF
  rw [f4,f5,f6,hk]
  simp only [List.any_cons,List.any_nil,hb f1,hb f2,hb f3]
  rfl
theorem clean_faces (g : List Face) : ∀ (r : List Face) (mp : List (Pr × Bool)) (sd : List Face), List.all r (okF ((Q + 1) * (C + 1))) = true → List.all sd (okF ((Q + 1) * (C + 1))) = true → cleanN C mp sd r = true →
    cleanF ⟨gridS C st lv,g⟩ (List.replicate (gridS C st lv).length false) mp (sd.map (triM ⟨gridS C st lv,g⟩)) r=true:=by
  intro r
  induction r with
  | nil=>intro mp sd _ _ _; rfl
  | cons f r ih =>
    intro mp sd h1 h2 h3
    simp only [List.all_cons,Bool.and_eq_true] at h1
    simp only [cleanN,Bool.and_eq_true,Bool.not_eq_true'] at h3
    have:=ih (takeF mp f) (sd++[f]) h1.2 (by simp [List.all_append,h2,h1.1]) h3.2.2.2
    rw [List.map_append] at this
    have ho:List.any (sd.map (triM ⟨gridS C st lv,g⟩)) (overT (triM ⟨gridS C st lv,g⟩ f))=false:=by
      rw [List.any_map,← h3.2.2.1]
      have:∀ l:List Face,List.all l (okF ((Q+1) * (C+1)))=true→List.any l (overT (triM ⟨gridS C st lv,g⟩ f)∘triM ⟨gridS C st lv,g⟩)=List.any l (overN C f):=by
        intro l
        induction l with
        | nil=>intro _; rfl
        | cons x l ih =>
          intro hl
          simp only [List.all_cons,Bool.and_eq_true] at hl
          rw [List.any_cons,List.any_cons,ih hl.2]
          show (overT _ (triM _ x)||_)=_
          rw [over_eq h h1.1 hl.1]
      exact this sd h2
    unfold cleanF
    rw [bad_eq h h1.1,twice_eq h h1.1 h3.1,iltT (sq_pos h),h3.2.1,ho]
    exact this
theorem total_faces (g : List Face) : ∀ (r : List Face) (n : Nat) (mp : List (Pr × Bool)) (sd : List Face), List.all r (okF ((Q + 1) * (C + 1))) = true → cleanN C mp sd r = true → n + r.length ≤ 4000 →
    totalF ⟨gridS C st lv,g⟩ ((n:Int) * (st * st)) r=((n+r.length:Nat):Int) * (st * st):=by
  intro r
  induction r with
  | nil=>intro n _ _ _ _ _; rfl
  | cons f r ih =>
    intro n mp sd h1 h3 hn
    simp only [List.all_cons,Bool.and_eq_true] at h1
    simp only [cleanN,Bool.and_eq_true,Bool.not_eq_true'] at h3
    rw [List.length_cons] at hn
    have hst:(st * st).natAbs≤1000000 * 1000000:=small_mul h.s1 h.s2 (by have:=h.s1; have:=h.s2; omega)
    have hb:(((n+1:Nat):Int) * (st * st)).natAbs≤4000 * (1000000 * 1000000):=by rw [Int.natAbs_mul]; exact Nat.mul_le_mul (by omega) hst
    have e:IntKind.wrap .i64 ((n:Int) * (st * st)+twiceZ ⟨gridS C st lv,g⟩ f)=((n+1:Nat):Int) * (st * st):=by
      have:(n:Int) * (st * st)+twiceZ ⟨gridS C st lv,g⟩ f=((n+1:Nat):Int) * (st * st):=by
        unfold twiceZ
        rw [twice_eq h h1.1 h3.1]
        simp only [Int.natCast_add,Int.natCast_one,Int.add_mul,Int.one_mul]
      rw [this]
      exact wrapI (by omega) (by omega)
    show totalF _ (IntKind.wrap .i64 ((n:Int) * (st * st)+twiceZ _ f)) r=_
    rw [e,ih (n+1) _ _ h1.2 h3.2.2.2 (by omega),List.length_cons]
    congr 2
    omega
end
theorem mget_none {mp:List (Pt×Bool)} {k:Pt} (h:∀ p∈mp,kq_pt k p.1=false):mgetD kq_pt mp k d_bool=false:=by
  have:mfind kq_pt mp k=none:=by
    induction mp with
    | nil=>rfl
    | cons p l ih =>
      simp only [mfind]
      rw [h p (List.mem_cons_self ..)]
      exact ih fun q hq=>h q (List.mem_cons_of_mem _ hq)
  unfold mgetD
  rw [this]
  rfl
theorem mput_keys (k : Pt) (v : Bool) : ∀ (mp : List (Pt × Bool)) (p : Pt × Bool), p ∈ mput kq_pt mp k v → p.1 = k ∨ ∃ q ∈ mp, q.1 = p.1 := by
  intro mp
  induction mp with
  | nil =>
    intro p hp
    rcases List.mem_singleton.1 hp with rfl
    exact .inl rfl
  | cons q l ih =>
    intro p hp
    simp only [mput] at hp
    cases hq:kq_pt k q.1 with
    | true =>
      rw [hq,cond_true] at hp
      rcases List.mem_cons.1 hp with rfl | hp
      · exact .inl rfl
      · exact .inr ⟨p,List.mem_cons_of_mem _ hp,rfl⟩
    | false =>
      rw [hq,cond_false] at hp
      rcases List.mem_cons.1 hp with rfl | hp
      · exact .inr ⟨p,List.mem_cons_self ..,rfl⟩
      · rcases ih p hp with h | ⟨r, hr, e⟩
        · exact .inl h
        · exact .inr ⟨r,List.mem_cons_of_mem _ hr,e⟩
theorem clean_spots:∀ (l:List Spot) (mp:List (Pt×Bool)),(∀ s∈l,rightB s=true)→List.Pairwise (fun s t=>kq_pt (ptS t) (ptS s)=false) l→(∀ p∈mp,∀ s∈l,kq_pt (ptS s) p.1=false)→cleanS mp l=true:=by
  intro l
  induction l with
  | nil=>intro _ _ _ _; rfl
  | cons s l ih =>
    intro mp h1 h2 h3
    rw [List.pairwise_cons] at h2
    unfold cleanS
    rw [h1 s (List.mem_cons_self ..),mget_none fun p hp=>h3 p hp s (List.mem_cons_self ..)]
    refine ih _ (fun t ht=>h1 t (List.mem_cons_of_mem _ ht)) h2.2 fun p hp t ht => ?_
    rcases mput_keys _ _ _ p hp with e | ⟨q,hq,e⟩
    · rw [e]; exact h2.1 t ht
    · rw [← e]; exact h3 q hq t (List.mem_cons_of_mem _ ht)
theorem kq_apart {a b:Pt} (h:¬ (a.qx=b.qx∧a.qy=b.qy)):kq_pt a b=false:=by
  unfold kq_pt
  cases h1:(a.qx == b.qx) with
  | false=>rfl
  | true =>
    cases h2:(a.qy == b.qy) with
    | false=>rfl
    | true=>exact absurd ⟨by simpa using h1,by simpa using h2⟩ h
theorem spots_clean {st:Int} {lv:List Int} {Q C:Nat} (h:SG st lv Q C) (hz:List.any lv badZ=false):cleanS [] (gridS C st lv)=true:=by
  refine clean_spots _ _ ?_ ?_ fun p hp=>by cases hp
  · intro s hs
    obtain ⟨t,ht,rfl⟩:=List.mem_map.1 hs
    have ht:=List.mem_range.1 ht
    have ht2:t < (Q+1) * (C+1):=by rw [← h.l]; exact ht
    rw [spot_eq h ht2,getD_lt ht]
    have a1:xN C t≤5:=Nat.le_trans xN_le h.c
    have a2:yN C t≤5:=Nat.le_trans (yN_le ht2) h.q
    have b1:=small_mul h.s1 h.s2 (x:=(xN C t:Int)) (b:=5) (by omega)
    have b2:=small_mul h.s1 h.s2 (x:=(yN C t:Int)) (b:=5) (by omega)
    have z:badZ lv[t]=false:=by
      have:=List.any_eq_false.1 hz lv[t] (List.getElem_mem ht)
      simpa using this
    simp only [badZ,Bool.or_eq_false_iff] at z
    have z1:=iltN z.1; have z2:=iltN z.2
    unfold rightB validP
    dsimp only
    rw [ileT (by omega),ileT (by omega),ileT (by omega),ileT (by omega),ileT (by omega),ileT (by omega)]
    rfl
  · rw [gridS, List.pairwise_map]
    refine List.Pairwise.imp_of_mem (fun {a b} ha hb hab => ?_) List.pairwise_lt_range
    have ha:=List.mem_range.1 ha; have hb:=List.mem_range.1 hb
    rw [h.l] at ha hb
    refine kq_apart fun hq => ?_
    rw [spot_eq h ha,spot_eq h hb] at hq
    obtain ⟨hx,hy⟩:=hq
    dsimp only [ptS] at hx hy
    have hs:st≠0:=by have:=h.s1; omega
    have ex:=Int.eq_of_mul_eq_mul_right hs hx
    have ey:=Int.eq_of_mul_eq_mul_right hs hy
    have e1:xN C b=xN C a:=by omega
    have e2:yN C b=yN C a:=by omega
    unfold xN yN at *
    have d1:=Nat.div_add_mod a (C+1); have d2:=Nat.div_add_mod b (C+1)
    rw [e1,e2] at d2
    omega
theorem shapes:List.all (List.range' 1 5) (fun R=>List.all (List.range' 1 5) (shapeB R))=true:=by kernel_rfl
theorem brds (sp:List Spot):List.all (List.range' 1 5) (fun Q=>List.all (List.range' 1 5) (fun C=>brdB (brdR Q C sp) (2 * Q+2 * C)))=true:=by kernel_rfl
theorem all_of {α:Type} {p:α→Bool} {l:List α} (h:List.all l p=true) {x:α} (hx:x∈l):p x=true:=List.all_eq_true.1 h x hx
theorem in15 {n:Nat} (h1:1≤n) (h2:n≤5):n∈List.range' 1 5:=by rw [List.mem_range']; exact ⟨n - 1,by omega,by omega⟩
theorem grid_valid {st:Int} {lv:List Int} {Q C:Nat} (h:SG st lv Q C) (hq:1≤Q) (hc:1≤C) (hz:List.any lv badZ=false):validM ⟨gridS C st lv,gridG C 0 Q⟩=true:=by
  have hs:=all_of (all_of shapes (in15 hq h.q)) (in15 hc h.c)
  simp only [shapeB,Bool.and_eq_true] at hs
  have hf:=clean_faces h (gridG C 0 Q) (gridG C 0 Q) [] [] hs.1 rfl hs.2
  have hl:(gridG C 0 Q).length=2 * C * Q:=gridG_len C Q 0
  have hb:2 * C * Q≤2 * 5 * 5:=Nat.mul_le_mul (Nat.mul_le_mul_left _ h.c) h.q
  have hn:(Q+1) * (C+1)≤(5+1) * (5+1):=Nat.mul_le_mul (by have:=h.q; omega) (by have:=h.c; omega)
  unfold validM smallB cleanM
  have e1:Int.ofNat (gridS C st lv).length≤2000:=by
    rw [gridS_len,h.l]
    generalize (Q+1) * (C+1)=m at *
    show (m:Int)≤2000
    omega
  have e2:Int.ofNat (gridG C 0 Q).length≤4000:=by
    rw [hl]
    generalize 2 * C * Q=m at *
    show (m:Int)≤4000
    omega
  rw [ileT e1,ileT e2,spots_clean h hz]
  exact hf
theorem grid_total {st:Int} {lv:List Int} {Q C:Nat} (h:SG st lv Q C) (hq:1≤Q) (hc:1≤C) (hz:List.any lv badZ=false):totalZ ⟨gridS C st lv,gridG C 0 Q⟩=((2 * C * Q:Nat):Int) * (st * st):=by
  have hs:=all_of (all_of shapes (in15 hq h.q)) (in15 hc h.c)
  simp only [shapeB,Bool.and_eq_true] at hs
  have hl:(gridG C 0 Q).length=2 * C * Q:=gridG_len C Q 0
  have hb:2 * C * Q≤2 * 5 * 5:=Nat.mul_le_mul (Nat.mul_le_mul_left _ h.c) h.q
  have ht:=total_faces h (gridG C 0 Q) (gridG C 0 Q) 0 [] [] hs.1 hs.2 (by omega)
  unfold totalZ
  rw [grid_valid h hq hc hz,cond_true]
  simp only [Int.natCast_zero,Int.zero_mul,Nat.zero_add,hl] at ht
  exact ht
end Go.Proofs.YtnofdcckddfooaaDoor
