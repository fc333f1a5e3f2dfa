/- Turns of points; the chain of sorted points, the hull that it gives, and its sides: plain facts. -/
import Derived.Test.YtcabnkclelgoeaaV
import Derived.Test.YtcabnkclelgoeaaPL
namespace Go.Proofs.Ytcabnkclelgoeaa
set_option linter.unusedSectionVars false
set_option linter.unusedSimpArgs false
set_option linter.unusedVariables false
set_option maxRecDepth 100000
def crs (a b c d:Pt):Int:=(b.px - a.px) * (d.py - c.py) - (b.py - a.py) * (d.px - c.px)
def trn (a b c:Pt):Int:=(b.px - a.px) * (c.py - a.py) - (b.py - a.py) * (c.px - a.px)
def ltP (a b:Pt):Prop:=a.px < b.px∨(a.px=b.px∧a.py < b.py)
def leP (a b:Pt):Prop:=a=b∨ltP a b
theorem Pt.ext' {a b:Pt} (h1:a.px=b.px) (h2:a.py=b.py):a=b:=by cases a; cases b; simp_all
theorem ltP_irrefl (a:Pt):¬ ltP a a:=by unfold ltP; omega
theorem ltP_trans {a b c:Pt} (h:ltP a b) (k:ltP b c):ltP a c:=by unfold ltP at *; omega
theorem ltP_total (a b:Pt):leP a b∨ltP b a:=by
  unfold leP ltP
  by_cases h1:a.px=b.px
  · by_cases h2 : a.py = b.py
    · exact .inl (.inl (Pt.ext' h1 h2))
    · omega
  · omega
theorem ltP_asymm {a b:Pt} (h:ltP a b):¬ leP b a:=by
  rintro (rfl | k)
  · exact ltP_irrefl _ h
  · exact ltP_irrefl _ (ltP_trans h k)
theorem lt_le {a b c:Pt} (h:ltP a b) (k:leP b c):ltP a c:=by
  rcases k with rfl | k
  · exact h
  · exact ltP_trans h k
theorem leP_trans {a b c:Pt} (h:leP a b) (k:leP b c):leP a c:=by
  rcases h with rfl | h
  · exact k
  · exact .inr (lt_le h k)
theorem trn_crs (a b c:Pt):trn a b c=crs a b a c:=rfl
theorem crs_same (a b:Pt):crs a b a b=0:=by unfold crs; grind
theorem crs_swap (a b c d:Pt):crs a b c d = - crs c d a b:=by unfold crs; grind
theorem crs_add (a b c d e:Pt):crs a b c e=crs a b c d+crs a b d e:=by unfold crs; grind
theorem crs_add1 (a b c d e:Pt):crs a c d e=crs a b d e+crs b c d e:=by unfold crs; grind
theorem crs_rev (a b c d:Pt):crs a b c d = - crs a b d c:=by unfold crs; grind
theorem mul_nn {a b:Int} (h:0≤a) (k:0≤b):0≤a * b:=Int.mul_nonneg h k
theorem nn_of_mul {a b:Int} (h:0 < a) (k:0≤a * b):0≤b:=by
  rcases Int.lt_or_le b 0 with h1 | h1
  · have:=Int.mul_neg_of_pos_of_neg h h1; omega
  · exact h1
def HH (x y:Int):Prop:=0 < x∨(x=0∧0 < y)
theorem tr_key (ux uy vx vy wx wy:Int):vx * (ux * wy - uy * wx)=ux * (vx * wy - vy * wx)+wx * (ux * vy - uy * vx):=by grind
theorem tr0 {ux uy vx vy wx wy:Int} (hu:HH ux uy) (hv:HH vx vy) (hw:HH wx wy) (h1:0≤ux * vy - uy * vx) (h2:0≤vx * wy - vy * wx):0≤ux * wy - uy * wx:=by
  have ux0:0≤ux:=by unfold HH at hu; omega
  have wx0:0≤wx:=by unfold HH at hw; omega
  rcases hv with hv | ⟨rfl,hv⟩
  · refine nn_of_mul hv ?_
    rw [tr_key ux uy vx vy wx wy]
    have:=mul_nn ux0 h2
    have:=mul_nn wx0 h1
    omega
  · simp only [Int.zero_mul, Int.zero_sub] at h2
    have:wx=0:=by
      rcases Int.lt_or_le 0 wx with h | h
      · have:=Int.mul_pos hv h; omega
      · omega
    subst this
    rcases hw with hw | ⟨_,hw⟩
    · omega
    · have := mul_nn ux0 (show 0 ≤ wy by omega)
      simpa using this
theorem tr1 {ux uy vx vy wx wy:Int} (hu:HH ux uy) (hv:HH vx vy) (hw:HH wx wy) (h1:0 < ux * vy - uy * vx) (h2:0≤vx * wy - vy * wx):0 < ux * wy - uy * wx:=by
  have h0:=tr0 hu hv hw (by omega) h2
  rcases Int.lt_or_le 0 (ux * wy - uy * wx) with h | h
  · exact h
  exfalso
  have hz:ux * wy - uy * wx=0:=by omega
  have ux0:0≤ux:=by unfold HH at hu; omega
  have wx0:0≤wx:=by unfold HH at hw; omega
  have key:=tr_key ux uy vx vy wx wy
  rw [hz,Int.mul_zero] at key
  have k1:=mul_nn ux0 h2
  have k2:=mul_nn wx0 (Int.le_of_lt h1)
  have hw0:wx=0:=by
    rcases Int.lt_or_le 0 wx with h | h
    · have:=Int.mul_pos h h1; omega
    · omega
  subst hw0
  have hwy:0 < wy:=by rcases hw with h | ⟨_,h⟩; omega; exact h
  have hu0:ux=0:=by
    rcases Int.lt_or_le 0 ux with h | h
    · have:=Int.mul_pos h hwy; simp at hz; omega
    · omega
  subst hu0
  have huy:0 < uy:=by rcases hu with h | ⟨_,h⟩; omega; exact h
  have vx0:0≤vx:=by unfold HH at hv; omega
  have:=mul_nn (Int.le_of_lt huy) vx0
  simp at h1
  omega
theorem tr2 {ux uy vx vy wx wy:Int} (hu:HH ux uy) (hv:HH vx vy) (hw:HH wx wy) (h1:0≤ux * vy - uy * vx) (h2:0 < vx * wy - vy * wx):0 < ux * wy - uy * wx:=by
  have h0:=tr0 hu hv hw h1 (by omega)
  rcases Int.lt_or_le 0 (ux * wy - uy * wx) with h | h
  · exact h
  exfalso
  have hz:ux * wy - uy * wx=0:=by omega
  have ux0:0≤ux:=by unfold HH at hu; omega
  have wx0:0≤wx:=by unfold HH at hw; omega
  have key:=tr_key ux uy vx vy wx wy
  rw [hz,Int.mul_zero] at key
  have k1:=mul_nn ux0 (Int.le_of_lt h2)
  have k2:=mul_nn wx0 h1
  have hu0:ux=0:=by
    rcases Int.lt_or_le 0 ux with h | h
    · have:=Int.mul_pos h h2; omega
    · omega
  subst hu0
  have huy:0 < uy:=by rcases hu with h | ⟨_,h⟩; omega; exact h
  have hw0:wx=0:=by
    rcases Int.lt_or_le 0 wx with h | h
    · have:=Int.mul_pos huy h; simp at hz; omega
    · omega
  subst hw0
  have hwy:0 < wy:=by rcases hw with h | ⟨_,h⟩; omega; exact h
  simp at h1 h2
  rcases hv with hv | ⟨rfl,hv⟩
  · have:=Int.mul_pos huy hv; omega
  · simp at h2
theorem HH_lt {a b:Pt} (h:ltP a b):HH (b.px - a.px) (b.py - a.py):=by unfold ltP at h; unfold HH; omega
theorem trX {a b c d e f:Pt} (h1:ltP a b) (h2:ltP c d) (h3:ltP e f) (k1:0≤crs a b c d) (k2:0≤crs c d e f):0≤crs a b e f:=tr0 (HH_lt h1) (HH_lt h2) (HH_lt h3) k1 k2
theorem trX1 {a b c d e f:Pt} (h1:ltP a b) (h2:ltP c d) (h3:ltP e f) (k1:0 < crs a b c d) (k2:0≤crs c d e f):0 < crs a b e f:=tr1 (HH_lt h1) (HH_lt h2) (HH_lt h3) k1 k2
theorem trX2 {a b c d e f:Pt} (h1:ltP a b) (h2:ltP c d) (h3:ltP e f) (k1:0≤crs a b c d) (k2:0 < crs c d e f):0 < crs a b e f:=tr2 (HH_lt h1) (HH_lt h2) (HH_lt h3) k1 k2
noncomputable def popR (p:Pt):List Pt→List Pt
  | a :: b :: l=>bif ile (trn b a p) 0 then popR p (b :: l) else a :: b :: l
  | l=>l
def EdgeP (P:List Pt) (b a:Pt):Prop:=ltP b a∧∀ x∈P,0≤trn b a x∧(trn b a x=0→leP b x∧leP x a)
def Ch (P:List Pt):List Pt→Prop
  | []=>False
  | [v]=>v∈P∧∀ x∈P,leP v x
  | a :: b :: l=>a∈P∧EdgeP P b a∧(∀ c r,l=c :: r→0 < trn c b a)∧Ch P (b :: l)
theorem ch_mem {P:List Pt} {a:Pt} {l:List Pt} (h:Ch P (a :: l)):a∈P:=by
  cases l with
  | nil=>exact h.1
  | cons b l=>exact h.1
theorem pop_step {P : List Pt} {p u v : Pt} (hP : ∀ x ∈ P, ltP x p) (hvP : v ∈ P) (hE : EdgeP P u v) (hpop : trn u v p ≤ 0) (hJ : ∀ x ∈ P, leP v x → 0 ≤ trn v p x) : ∀ x ∈ P, leP u x → 0 ≤ trn u p x := by
  intro x hx hux
  have huv:=hE.1
  have hvp:=hP v hvP
  have hxp:=hP x hx
  rw [trn_crs] at hpop ⊢
  rcases ltP_total v x with hvx | hxv
  · rcases hvx with rfl | hvx
    · rw [crs_swap]; omega
    · have j := hJ x hx (.inr hvx)
      rw [trn_crs,crs_add1 v x p v x,crs_same] at j
      have e:crs u p u x=crs x p u v+crs x p v x:=by
        rw [crs_add1 u x p u x,crs_same,crs_add x p u v x]; omega
      rw [e]
      have:0≤crs x p u v:=by
        rcases Int.lt_or_le (crs x p u v) 0 with h | h
        · exfalso
          have h1:0 < crs u v x p:=by rw [crs_swap]; omega
          have h2:=trX1 huv hxp hvx h1 (by omega)
          have e2:crs u v u p=crs u v u v+crs u v v x+crs u v x p:=by
            rw [crs_add u v u v p,crs_add u v v x p]; omega
          rw [crs_same] at e2
          omega
        · exact h
      omega
  · have hx2 := (hE.2 x hx).1
    rw [trn_crs] at hx2
    rcases hux with rfl | hux
    · have : crs u p u u = 0 := by unfold crs; grind
      omega
    · rw [crs_add1 u v p u x]
      have h1:0≤crs v p u v:=by
        rw [crs_swap]
        rw [crs_add u v u v p,crs_same] at hpop
        omega
      have:=trX hvp huv hux h1 hx2
      omega
theorem pop_spec {P : List Pt} {p : Pt} (hP : ∀ x ∈ P, ltP x p) : ∀ (rs : List Pt), Ch P rs → (∀ a l, rs = a :: l → ∀ x ∈ P, leP a x → 0 ≤ trn a p x) →
    ∃ a l,popR p rs=a :: l∧Ch P (a :: l)∧(∀ x∈P,leP a x→0≤trn a p x)∧(∀ b r,l=b :: r→0 < trn b a p):=by
  intro rs
  induction rs with
  | nil=>intro h; exact absurd h (by simp [Ch])
  | cons a rs ih =>
    intro h hJ
    cases rs with
    | nil=>exact ⟨a,[],rfl,h,hJ a [] rfl,fun b r e=>by cases e⟩
    | cons b l =>
      simp only [popR]
      by_cases ht:trn b a p≤0
      · rw [ileT ht]
        exact ih h.2.2.2 fun a' l' e=>by
          cases e
          exact pop_step hP h.1 h.2.1 ht (hJ a _ rfl)
      · rw [ileF (by omega)]
        exact ⟨a,b :: l,rfl,h,hJ a _ rfl,fun b' r e=>by cases e; omega⟩
theorem ch_ext {P:List Pt} {p:Pt} (hP:∀ x∈P,ltP x p):∀ (l:List Pt) (a:Pt),Ch P (a :: l)→(∀ b r,l=b :: r→0 < trn b a p)→Ch (P++[p]) (a :: l):=by
  intro l
  induction l with
  | nil =>
    intro a h _
    refine ⟨List.mem_append_left _ h.1,fun x hx => ?_⟩
    rcases List.mem_append.1 hx with hx | hx
    · exact h.2 x hx
    · rw [List.mem_singleton.1 hx]; exact .inr (hP a h.1)
  | cons b l ih =>
    intro a h hb
    have hba:=hb b l rfl
    obtain ⟨h1,h2,h3,h4⟩:=h
    refine ⟨List.mem_append_left _ h1,⟨h2.1,fun x hx => ?_⟩,h3,ih b h4 fun c r e => ?_⟩
    · rcases List.mem_append.1 hx with hx | hx
      · exact h2.2 x hx
      · rw [List.mem_singleton.1 hx]; exact ⟨by omega,fun e=>by omega⟩
    · have h3' := h3 c r e
      subst e
      have hcb:ltP c b:=h4.2.1.1
      rw [trn_crs] at h3' hba ⊢
      rw [crs_add c b c b a,crs_same] at h3'
      rw [crs_add b a b a p,crs_same] at hba
      have:=trX1 hcb h2.1 (hP a h1) (show 0 < crs c b b a by omega) (show 0≤crs b a a p by omega)
      rw [crs_add c b c b p,crs_same,crs_add c b b a p]
      omega
theorem ch_push {P : List Pt} {p : Pt} {rs : List Pt} (hP : ∀ x ∈ P, ltP x p) (h : Ch P rs) (hmax : ∀ a l, rs = a :: l → ∀ x ∈ P, leP x a) : Ch (P ++ [p]) (p :: popR p rs) := by
  obtain ⟨a,l,e,hC,hJ,hb⟩:=pop_spec hP rs h fun a l e x hx hax=>by
    have:x=a:=by
      rcases hmax a l e x hx with h | h
      · exact h
      · exact absurd hax (ltP_asymm h)
    subst this
    unfold trn; grind
  rw [e]
  have haP:=ch_mem hC
  have hap:=hP a haP
  refine ⟨by simp,⟨hap,fun x hx => ?_⟩,fun c r ec=>hb c r ec,ch_ext hP l a hC hb⟩
  rcases List.mem_append.1 hx with hx | hx
  · rcases ltP_total a x with hax | hxa
    · exact ⟨hJ x hx hax,fun _=>⟨hax,.inr (hP x hx)⟩⟩
    · cases l with
      | nil=>exact absurd (hC.2 x hx) (ltP_asymm hxa)
      | cons b r =>
        have hbp:=hb b r rfl
        obtain ⟨_,h2,_,_⟩:=hC
        have hx2:=(h2.2 x hx).1
        rw [trn_crs] at hbp hx2
        rw [crs_add b a b a p,crs_same] at hbp
        rw [crs_add b a b a x,crs_same,crs_rev b a a x] at hx2
        have h5:0≤crs x a b a:=by rw [crs_swap]; omega
        have:=trX2 hxa h2.1 hap h5 (show 0 < crs b a a p by omega)
        have e2:trn a p x=crs x a a p:=by unfold trn crs; grind
        rw [e2]
        exact ⟨by omega,fun e=>by omega⟩
  · rw [List.mem_singleton.1 hx]
    have e2:trn a p p=0:=by unfold trn; grind
    rw [e2]
    exact ⟨Int.le_refl _,fun _=>⟨.inr hap,.inl rfl⟩⟩
noncomputable def chainL (l:List Pt):List Pt:=l.foldl (fun rs p=>p :: popR p rs) []
theorem chain_snoc (l:List Pt) (p:Pt):chainL (l++[p])=p :: popR p (chainL l):=by simp [chainL]
theorem snocI {α:Type} {q:List α→Prop} (h0:q []) (h1:∀ l c,q l→q (l++[c])):∀ l,q l:=by
  intro l
  rw [← List.reverse_reverse l]
  induction l.reverse with
  | nil=>exact h0
  | cons c l ih=>rw [List.reverse_cons]; exact h1 _ _ ih
theorem chain_ch (l : List Pt) : l.Pairwise ltP → l ≠ [] → Ch l (chainL l) ∧ ∃ a r, chainL l = a :: r ∧ l.getLast? = some a ∧ ∀ x ∈ l, leP x a := by
  induction l using snocI with
  | h0=>intro _ h; exact absurd rfl h
  | h1 l p ih =>
    intro h _
    obtain ⟨h1,_,h3⟩:=List.pairwise_append.1 h
    have hP:∀ x∈l,ltP x p:=fun x hx=>h3 x hx p (by simp)
    rw [chain_snoc]
    refine ⟨?_,p,_,rfl,by simp,fun x hx => ?_⟩
    · cases l with
      | nil=>exact ⟨by simp,fun x hx=>by rw [List.mem_singleton.1 hx]; exact .inl rfl⟩
      | cons y l =>
        obtain ⟨c1,a,r,c2,_,c4⟩:=ih h1 (by simp)
        exact ch_push hP c1 fun a' l' e=>by rw [c2] at e; cases e; exact c4
    · rcases List.mem_append.1 hx with hx | hx
      · exact .inr (hP x hx)
      · rw [List.mem_singleton.1 hx]; exact .inl rfl
def sqr (a b:Pt):Int:=(a.px - b.px) * (a.px - b.px)+(a.py - b.py) * (a.py - b.py)
def dot (a b x:Pt):Int:=(b.px - a.px) * (x.px - a.px)+(b.py - a.py) * (x.py - a.py)
def Side (P:List Pt) (a b:Pt):Prop:=a≠b∧∀ x∈P,0≤trn a b x∧(trn a b x=0→(x=b∨sqr a x < sqr a b)∧0≤dot a b x)
theorem dot_nn {ex ey fx fy : Int} (he : HH ex ey) (hf : HH fx fy) (h : ex * fy = ey * fx) : 0 ≤ ex * fx + ey * fy := by
  have ex0:0≤ex:=by unfold HH at he; omega
  have fx0:0≤fx:=by unfold HH at hf; omega
  have h1:=mul_nn ex0 fx0
  rcases Int.lt_or_le (ey * fy) 0 with hn | hn
  · exfalso
    rcases Int.lt_or_le 0 ey with hy | hy
    · have hfy : fy < 0 := by
        rcases Int.lt_or_le fy 0 with k | k
        · exact k
        · have:=mul_nn (Int.le_of_lt hy) k; omega
      have hfx:0 < fx:=by rcases hf with k | ⟨_,k⟩; exact k; omega
      have:=Int.mul_pos hy hfx
      have:=Int.mul_nonneg ex0 (show 0 ≤ -fy by omega)
      rw [Int.mul_neg] at this
      omega
    · have hfy : 0 < fy := by
        rcases Int.lt_or_le 0 fy with k | k
        · exact k
        · have := Int.mul_nonneg (show 0 ≤ -ey by omega) (show 0 ≤ -fy by omega)
          rw [Int.neg_mul_neg] at this; omega
      have hey:ey < 0:=by
        rcases Int.lt_or_le ey 0 with k | k
        · exact k
        · have : ey = 0 := by omega
          subst this; simp at hn
      have hex:0 < ex:=by rcases he with k | ⟨_,k⟩; exact k; omega
      have:=Int.mul_pos hex hfy
      have:=Int.mul_nonneg (show 0 ≤ -ey by omega) fx0
      rw [Int.neg_mul] at this
      omega
  · omega
theorem sq_pos {fx fy:Int} (hf:HH fx fy):0 < fx * fx+fy * fy:=by
  have h1:0≤fx * fx:=by
    rcases Int.lt_or_le fx 0 with k | k
    · have:=Int.mul_nonneg (show 0 ≤ -fx by omega) (show 0 ≤ -fx by omega); rw [Int.neg_mul_neg] at this; exact this
    · exact mul_nn k k
  have h2:0≤fy * fy:=by
    rcases Int.lt_or_le fy 0 with k | k
    · have:=Int.mul_nonneg (show 0 ≤ -fy by omega) (show 0 ≤ -fy by omega); rw [Int.neg_mul_neg] at this; exact this
    · exact mul_nn k k
  rcases hf with k | ⟨_,k⟩
  · have:=Int.mul_pos k k; omega
  · have:=Int.mul_pos k k; omega
theorem sqr_between {a x b:Pt} (h1:leP a x) (h2:ltP x b) (h:trn a b x=0):sqr a x < sqr a b:=by
  have hf:=sq_pos (HH_lt h2)
  rcases h1 with rfl | h1
  · have e : sqr a b = (b.px - a.px) * (b.px - a.px) + (b.py - a.py) * (b.py - a.py) := by unfold sqr; grind
    have e0:sqr a a=0:=by unfold sqr; grind
    rw [e,e0]; exact hf
  · have hd := dot_nn (HH_lt h1) (HH_lt h2) (by unfold trn at h; grind)
    have e:sqr a b=sqr a x+2 * ((x.px - a.px) * (b.px - x.px)+(x.py - a.py) * (b.py - x.py))+((b.px - x.px) * (b.px - x.px)+(b.py - x.py) * (b.py - x.py)):=by unfold sqr; grind
    omega
theorem edge_side {P:List Pt} {a b:Pt} (h:EdgeP P a b):Side P a b:=by
  refine ⟨fun e=>ltP_irrefl a (by have:=h.1; rw [← e] at this; exact this),fun x hx=>⟨(h.2 x hx).1,fun e => ?_⟩⟩
  obtain ⟨k1,k2⟩:=(h.2 x hx).2 e
  refine ⟨?_,?_⟩
  · rcases k2 with k2 | k2
    · exact .inl k2
    · exact .inr (sqr_between k1 k2 e)
  · unfold dot
    rcases k1 with rfl | k1
    · rw [Int.sub_self,Int.sub_self,Int.mul_zero,Int.mul_zero]; exact Int.le_refl _
    · exact dot_nn (HH_lt h.1) (HH_lt k1) (by unfold trn at e; omega)
theorem dot_neg (a b x:Pt):dot (⟨-a.px,-a.py⟩:Pt) ⟨-b.px,-b.py⟩ ⟨-x.px,-x.py⟩=dot a b x:=by simp only [dot]; grind
def negP (a:Pt):Pt:=⟨-a.px,-a.py⟩
theorem neg_neg (a:Pt):negP (negP a)=a:=by simp [negP]
theorem trn_neg (a b c:Pt):trn (negP a) (negP b) (negP c)=trn a b c:=by simp only [trn,negP]; grind
theorem sqr_neg (a b:Pt):sqr (negP a) (negP b)=sqr a b:=by simp only [sqr,negP]; grind
theorem lt_neg (a b:Pt):ltP (negP a) (negP b)↔ltP b a:=by simp only [ltP,negP]; omega
theorem neg_inj {a b:Pt} (h:negP a=negP b):a=b:=by have:=congrArg negP h; rwa [neg_neg,neg_neg] at this
theorem le_neg (a b:Pt):leP (negP a) (negP b)↔leP b a:=by
  unfold leP
  rw [lt_neg]
  exact ⟨fun h=>h.imp (fun e=>(neg_inj e).symm) id,fun h=>h.imp (fun e=>by rw [e]) id⟩
theorem pop_neg (p : Pt) : ∀ rs : List Pt, popR (negP p) (rs.map negP) = (popR p rs).map negP := by
  intro rs
  induction rs with
  | nil=>rfl
  | cons a rs ih =>
    cases rs with
    | nil=>rfl
    | cons b l =>
      simp only [List.map_cons,popR,trn_neg]
      cases ile (trn b a p) 0
      · rfl
      · simp only [cond_true]
        rw [← ih]
        rfl
theorem chain_neg (l:List Pt):chainL (l.map negP)=(chainL l).map negP:=by
  induction l using snocI with
  | h0=>rfl
  | h1 l p ih=>rw [List.map_append,List.map_singleton,chain_snoc,ih,pop_neg,chain_snoc]; rfl
theorem side_neg {P:List Pt} {a b:Pt} (h:EdgeP (P.map negP) (negP a) (negP b)):Side P a b:=by
  obtain ⟨h1,h2⟩:=edge_side h
  refine ⟨fun e=>h1 (by rw [e]),fun x hx => ?_⟩
  have:=h2 (negP x) (List.mem_map.2 ⟨x,hx,rfl⟩)
  rw [trn_neg,sqr_neg,sqr_neg] at this
  exact ⟨this.1,fun e=>⟨(this.2 e).1.imp neg_inj id,(dot_neg a b x) ▸ (this.2 e).2⟩⟩
def Pa (S:Pt→Pt→Prop):List Pt→Prop
  | a :: b :: l=>S a b∧Pa S (b :: l)
  | _=>True
theorem pa_join {S:Pt→Pt→Prop} {a:Pt} {m:List Pt}:∀ {l:List Pt},Pa S (l++[a])→Pa S (a :: m)→Pa S (l++a :: m):=by
  intro l
  induction l with
  | nil=>intro _ h; exact h
  | cons x l ih =>
    intro h k
    cases l with
    | nil=>exact ⟨h.1,k⟩
    | cons y l=>exact ⟨h.1,ih h.2 k⟩
theorem pa_at {S:Pt→Pt→Prop}:∀ {l:List Pt},Pa S l→∀ (k:Nat) (h:k+1 < l.length),S l[k] l[k+1]:=by
  intro l
  induction l with
  | nil=>intro _ k h; simp at h
  | cons a l ih =>
    intro hp k hk
    cases l with
    | nil=>simp at hk
    | cons b l =>
      cases k with
      | zero=>exact hp.1
      | succ k=>exact ih hp.2 k (by simpa using hk)
theorem ch_pa {P:List Pt} {S:Pt→Pt→Prop} (hS:∀ a b,EdgeP P a b→S a b):∀ {rs:List Pt},Ch P rs→Pa S rs.reverse:=by
  intro rs
  induction rs with
  | nil=>intro _; trivial
  | cons a rs ih =>
    intro h
    cases rs with
    | nil=>trivial
    | cons b l =>
      rw [List.reverse_cons,List.reverse_cons,List.append_assoc]
      have:=ih h.2.2.2
      rw [List.reverse_cons] at this
      exact pa_join this ⟨hS b a h.2.1,trivial⟩
theorem ch_down {P:List Pt}:∀ {rs:List Pt},Ch P rs→rs.Pairwise (fun a b=>ltP b a):=by
  intro rs
  induction rs with
  | nil=>intro _; exact .nil
  | cons a rs ih =>
    intro h
    cases rs with
    | nil=>simp
    | cons b l =>
      have hp:=ih h.2.2.2
      refine List.pairwise_cons.2 ⟨fun x hx => ?_,hp⟩
      rcases List.mem_cons.1 hx with rfl | hx
      · exact h.2.1.1
      · exact ltP_trans ((List.pairwise_cons.1 hp).1 x hx) h.2.1.1
theorem ch_sub {P:List Pt}:∀ {rs:List Pt},Ch P rs→∀ x∈rs,x∈P:=by
  intro rs
  induction rs with
  | nil=>intro _ x hx; cases hx
  | cons a rs ih =>
    intro h x hx
    rcases List.mem_cons.1 hx with rfl | hx
    · exact ch_mem h
    · cases rs with
      | nil=>cases hx
      | cons b l=>exact ih h.2.2.2 x hx
theorem ch_last {P:List Pt}:∀ {rs:List Pt},Ch P rs→∃ l v,rs=l++[v]∧∀ x∈P,leP v x:=by
  intro rs
  induction rs with
  | nil=>intro h; exact absurd h (by simp [Ch])
  | cons a rs ih =>
    intro h
    cases rs with
    | nil=>exact ⟨[],a,rfl,h.2⟩
    | cons b l =>
      obtain ⟨l',v,e,hv⟩:=ih h.2.2.2
      exact ⟨a :: l',v,by rw [e]; rfl,hv⟩
theorem ch_inner {P : List Pt} : ∀ {rs : List Pt}, Ch P rs → ∀ v ∈ rs, (∃ y ∈ P, ltP v y ∧ y ∈ rs) → (∃ z ∈ P, ltP z v) → ∃ y u, EdgeP P v y ∧ EdgeP P u v ∧ 0 < trn u v y ∧ u ∈ P ∧ y ∈ P := by
  intro rs
  induction rs with
  | nil=>intro h; exact absurd h (by simp [Ch])
  | cons a rs ih =>
    intro h v hv hy hz
    cases rs with
    | nil =>
      exfalso
      obtain ⟨y,_,hvy,hy⟩:=hy
      rw [List.mem_singleton.1 hv,List.mem_singleton.1 hy] at hvy
      exact ltP_irrefl _ hvy
    | cons b l =>
      rcases List.mem_cons.1 hv with rfl | hv
      · exfalso
        obtain ⟨y,_,hvy,hy⟩:=hy
        rcases List.mem_cons.1 hy with rfl | hy
        · exact ltP_irrefl _ hvy
        · exact ltP_irrefl _ (ltP_trans hvy ((List.pairwise_cons.1 (ch_down h)).1 y hy))
      · rcases List.mem_cons.1 hv with rfl | hv'
        · cases l with
          | nil =>
            exfalso
            obtain ⟨z,hz,hzv⟩:=hz
            exact ltP_asymm hzv (h.2.2.2.2 z hz)
          | cons c r=>exact ⟨a,c,h.2.1,h.2.2.2.2.1,h.2.2.1 c r rfl,ch_mem h.2.2.2.2.2.2,h.1⟩
        · refine ih h.2.2.2 v hv ?_ hz
          have hb:ltP v b:=(List.pairwise_cons.1 (ch_down h.2.2.2)).1 v hv'
          exact ⟨b,ch_mem h.2.2.2,hb,by simp⟩
noncomputable def hullS (l:List Pt):List Pt:=(chainL l).tail.reverse++(chainL l.reverse).tail.reverse
theorem le_antisymm {a b:Pt} (h:leP a b) (k:leP b a):a=b:=by
  rcases h with h | h
  · exact h
  · exact absurd k (ltP_asymm h)
theorem pa_map {S:Pt→Pt→Prop} {f:Pt→Pt}:∀ {l:List Pt},Pa S (l.map f)→Pa (fun a b=>S (f a) (f b)) l:=by
  intro l
  induction l with
  | nil=>intro _; trivial
  | cons a l ih =>
    intro h
    cases l with
    | nil=>trivial
    | cons b l=>exact ⟨h.1,ih h.2⟩
theorem pa_imp {S S':Pt→Pt→Prop} (hS:∀ a b,S a b→S' a b):∀ {l:List Pt},Pa S l→Pa S' l:=by
  intro l
  induction l with
  | nil=>intro _; trivial
  | cons a l ih =>
    intro h
    cases l with
    | nil=>trivial
    | cons b l=>exact ⟨hS _ _ h.1,ih h.2⟩
theorem side_mem {P Q:List Pt} (h:∀ x∈Q,x∈P) {a b:Pt} (k:Side P a b):Side Q a b:=⟨k.1,fun x hx=>k.2 x (h x hx)⟩
theorem hull_apart {P:List Pt} {u v y z:Pt} (h1:ltP u v) (h2:ltP v y) (h3:ltP z v) (k1:0 < trn u v y) (k2:0≤trn v z u) (k3:0≤trn v z y):False:=by
  have e1:crs v y z v=trn v z y:=by unfold trn crs; grind
  have e2:crs z v u v=trn v z u:=by unfold trn crs; grind
  have e3:crs v y u v = - trn u v y:=by unfold trn crs; grind
  have:=trX h2 h3 h1 (by rw [e1]; exact k3) (by rw [e2]; exact k2)
  omega
theorem nodup_up {l:List Pt} (h:l.Pairwise ltP):l.Nodup:=List.Pairwise.imp (fun {a b} (k:ltP a b) (e:a=b)=>ltP_irrefl a (by subst e; exact k)) h
theorem nodup_dn {l:List Pt} (h:l.Pairwise (fun a b=>ltP b a)):l.Nodup:=List.Pairwise.imp (fun {a b} (k:ltP b a) (e:a=b)=>ltP_irrefl a (by subst e; exact k)) h
structure HullOf (P h:List Pt):Prop where
  path:∃ m,h.head? = some m∧(∀ x∈P,leP m x)∧Pa (Side P) (h++[m])
  nodup:h.Nodup
  sub:∀ x∈h,x∈P
  two:2≤h.length
theorem hull_of {l : List Pt} (hl : l.Pairwise ltP) (h2 : 2 ≤ l.length) : HullOf l (hullS l) := by
  have hne:l≠[]:=fun e=>by rw [e] at h2; simp at h2
  obtain ⟨c1,M,r1,e1,_,hM⟩:=chain_ch l hl hne
  have hN:(l.reverse.map negP).Pairwise ltP:=by
    refine List.pairwise_map.2 (List.pairwise_reverse.2 (hl.imp fun {a b} h=>(lt_neg b a).2 h))
  obtain ⟨c2,m',r2',e2,_,hm'⟩:=chain_ch (l.reverse.map negP) hN (by simpa using hne)
  rw [chain_neg] at c2 e2
  obtain ⟨m,r2,e3⟩:∃ m r2,chainL l.reverse=m :: r2:=by
    cases h:chainL l.reverse with
    | nil=>rw [h] at e2; cases e2
    | cons a b=>exact ⟨a,b,rfl⟩
  rw [e3] at c2 e2
  have em:negP m=m':=by simp only [List.map_cons,List.cons.injEq] at e2; exact e2.1
  have hm:∀ x∈l,leP m x:=fun x hx=>by
    have:=hm' (negP x) (List.mem_map.2 ⟨x,by simpa using hx,rfl⟩)
    rw [← em] at this
    exact (le_neg _ _).1 this
  have mN:∀ {x},x∈l.reverse.map negP→negP x∈l:=fun {x} hx=>by
    obtain ⟨y,hy,rfl⟩:=List.mem_map.1 hx
    rw [neg_neg]; simpa using hy
  rw [e1] at c1
  have Ml:M∈l:=ch_mem c1
  have ml:m∈l:=by have:=mN (ch_mem c2); rwa [neg_neg] at this
  have hmM:ltP m M:=by
    rcases hm M Ml with e | h
    · exfalso
      match l,h2,hl with
      | a :: b :: r, _, hl =>
        have ha:a=m:=le_antisymm (by rw [e]; exact hM a (by simp)) (hm a (by simp))
        have hb:b=m:=le_antisymm (by rw [e]; exact hM b (by simp)) (hm b (by simp))
        have:=(List.pairwise_cons.1 hl).1 b (by simp)
        rw [ha,hb] at this
        exact ltP_irrefl _ this
    · exact h
  obtain ⟨q1,v1,f1,g1⟩:=ch_last c1
  have hv1:v1=m:=le_antisymm (g1 m ml) (hm v1 (ch_sub c1 v1 (by rw [f1]; simp)))
  subst hv1
  obtain ⟨q1',f1'⟩:∃ q,r1=q++[v1]:=by
    cases q1 with
    | nil=>simp at f1; rw [f1.1] at hmM; exact absurd hmM (ltP_irrefl _)
    | cons a q=>simp at f1; exact ⟨q,f1.2⟩
  obtain ⟨q2,v2,f2,g2⟩:=ch_last c2
  have hv2:v2=negP M:=by
    have k1:=g2 (negP M) (List.mem_map.2 ⟨M,by simpa using Ml,rfl⟩)
    have k2:negP v2∈l:=mN (ch_sub c2 v2 (by rw [f2]; simp))
    have k3:=hM _ k2
    have k4:leP (negP M) v2:=by have:=(le_neg M (negP v2)).2 k3; rwa [neg_neg] at this
    exact le_antisymm k1 k4
  obtain ⟨q2',f2'⟩:∃ q,r2=q++[M]:=by
    cases q2 with
    | nil =>
      simp only [List.nil_append,List.map_cons,List.cons.injEq] at f2
      rw [hv2] at f2
      have:=neg_inj f2.1
      rw [this] at hmM
      exact absurd hmM (ltP_irrefl _)
    | cons a q =>
      simp only [List.cons_append,List.map_cons,List.cons.injEq] at f2
      obtain ⟨q',x,e,_,ex⟩:=List.map_eq_append_iff.1 f2.2
      obtain ⟨y,rfl,ey⟩:∃ y,x=[y]∧negP y=v2:=by
        match x,ex with
        | [y],ex=>simp at ex; exact ⟨y,rfl,ex⟩
      exact ⟨q',by rw [e,neg_inj (ey.trans hv2)]⟩
  have hh:hullS l=r1.reverse++r2.reverse:=by unfold hullS; rw [e1,e3]; rfl
  have d1:=ch_down c1
  have d2:(v1 :: r2).Pairwise ltP:=by
    have:=ch_down c2
    exact (List.pairwise_map.1 this).imp fun {a b} h=>(lt_neg b a).1 h
  rw [hh]
  refine ⟨⟨v1,?_,hm,?_⟩,?_,?_,?_⟩
  · rw [f1']; simp
  · have p1 := ch_pa (S := Side l) (fun a b h => edge_side h) c1
    have p2:=ch_pa (S:=fun a b=>Side l (negP a) (negP b)) (fun a b h=>by
      refine side_mem (P:=l.reverse) (fun x hx=>by simpa using hx) (side_neg ?_)
      rw [neg_neg,neg_neg]; exact h) c2
    rw [← List.map_reverse] at p2
    have p3:=pa_imp (S':=Side l) (fun a b h=>by simp only [neg_neg] at h; exact h) (pa_map p2)
    rw [List.reverse_cons] at p1 p3
    rw [List.append_assoc]
    rw [f2'] at p3 ⊢
    simp only [List.reverse_append,List.reverse_cons,List.reverse_nil,List.nil_append,List.cons_append] at p3 ⊢
    exact pa_join p1 p3
  · refine List.nodup_append.2 ⟨?_, ?_, fun a ha b hb e => ?_⟩
    · exact (List.reverse_perm r1).nodup_iff.2 (nodup_dn (List.pairwise_cons.1 d1).2)
    · exact (List.reverse_perm r2).nodup_iff.2 (nodup_up (List.pairwise_cons.1 d2).2)
    · subst e
      have ha:=List.mem_reverse.1 ha
      have hb:=List.mem_reverse.1 hb
      have haM:=(List.pairwise_cons.1 d1).1 a ha
      have hma:=(List.pairwise_cons.1 d2).1 a hb
      obtain ⟨y,u,i1,i2,i3,i4,i5⟩:=ch_inner c1 a (List.mem_cons_of_mem _ ha) ⟨M,Ml,haM,by simp⟩ ⟨v1,ml,hma⟩
      have hna:negP a∈(v1 :: r2).map negP:=List.mem_map.2 ⟨a,List.mem_cons_of_mem _ hb,rfl⟩
      obtain ⟨y',u',j1,_,_,_,_⟩:=ch_inner c2 (negP a) hna ⟨negP v1,List.mem_map.2 ⟨v1,by simpa using ml,rfl⟩,(lt_neg _ _).2 hma,by simp⟩ ⟨negP M,List.mem_map.2 ⟨M,by simpa using Ml,rfl⟩,(lt_neg _ _).2 haM⟩
      have hz:ltP (negP y') a:=(lt_neg _ _).1 (by rw [neg_neg]; exact j1.1)
      have key:∀ x∈l,0≤trn a (negP y') x:=fun x hx=>by
        have:=(j1.2 (negP x) (List.mem_map.2 ⟨x,by simpa using hx,rfl⟩)).1
        have e:=trn_neg a (negP y') x
        rw [neg_neg] at e
        rw [← e]; exact this
      exact hull_apart (P:=l) i2.1 i1.1 hz i3 (key u i4) (key y i5)
  · intro x hx
    rcases List.mem_append.1 hx with hx | hx
    · exact ch_sub c1 x (List.mem_cons_of_mem _ (List.mem_reverse.1 hx))
    · have := mN (ch_sub c2 (negP x) (List.mem_map.2 ⟨x, List.mem_cons_of_mem _ (List.mem_reverse.1 hx), rfl⟩))
      rwa [neg_neg] at this
  · rw [f1',f2']; simp; omega
noncomputable def eqP (a b:Pt):Bool:=(a.px == b.px)&&((a.py == b.py)&&true)
theorem eqP_iff {a b:Pt}:eqP a b=true↔a=b:=by
  unfold eqP
  simp only [Bool.and_true,Bool.and_eq_true,beq_iff_eq]
  exact ⟨fun h=>Pt.ext' h.1 h.2,fun h=>by rw [h]; exact ⟨rfl,rfl⟩⟩
noncomputable def scanS (a nx x:Pt):Pt:=bif eqP nx a||(ilt (trn a nx x) 0||((trn a nx x == 0)&&ilt (sqr a nx) (sqr a x))) then x else nx
noncomputable def scanL (a:Pt) (l:List Pt):Pt:=l.foldl (scanS a) a
theorem trn_swap (a b c:Pt):trn a b c = - trn a c b:=by unfold trn; grind
theorem scan_keep {P:List Pt} {a b:Pt} (h:Side P a b) {x:Pt} (hx:x∈P):scanS a b x=b:=by
  unfold scanS
  have h1:eqP b a=false:=by
    cases e:eqP b a with
    | false=>rfl
    | true=>exact absurd (eqP_iff.1 e).symm h.1
  obtain ⟨k1,k2⟩:=h.2 x hx
  rw [h1,iltF (by omega)]
  by_cases e:trn a b x=0
  · rcases (k2 e).1 with rfl | k
    · cases (false||(false||(trn a x x == 0&&ilt (sqr a x) (sqr a x))))<;>rfl
    · rw [show ilt (sqr a b) (sqr a x)=false from iltF (by omega)]; simp
  · rw [beq_eq_false_iff_ne.2 e]; rfl
theorem scan_take {P : List Pt} {a b c : Pt} (h : Side P a b) (hc : c = a ∨ c ∈ P) : scanS a c b = b := by
  unfold scanS
  rcases hc with rfl | hc
  · rw [eqP_iff.2 rfl]; rfl
  · by_cases hb : c = b
    · subst hb; cases (eqP c a||(ilt (trn a c c) 0||(trn a c c == 0&&ilt (sqr a c) (sqr a c))))<;>rfl
    · obtain ⟨k1, k2⟩ := h.2 c hc
      have e:trn a c b = - trn a b c:=trn_swap a c b
      by_cases e0:trn a b c=0
      · rcases (k2 e0).1 with k | k
        · exact absurd k hb
        · rw [e,e0,iltT k]; simp
      · rw [iltT (show trn a c b < 0 by omega)]; simp
theorem scan_mem (a:Pt):∀ (l:List Pt) (c:Pt),l.foldl (scanS a) c=c∨l.foldl (scanS a) c∈l:=by
  intro l
  induction l with
  | nil=>intro c; exact .inl rfl
  | cons x l ih =>
    intro c
    rw [List.foldl_cons]
    have hs:scanS a c x=x∨scanS a c x=c:=by unfold scanS; cases (eqP c a||(ilt (trn a c x) 0||(trn a c x == 0&&ilt (sqr a c) (sqr a x))))<;>simp
    rcases ih (scanS a c x) with h | h
    · rw [h]
      rcases hs with e | e
      · exact .inr (by rw [e]; simp)
      · exact .inl e
    · exact .inr (List.mem_cons_of_mem _ h)
theorem scan_side {P:List Pt} {a b:Pt} (h:Side P a b) (hb:b∈P):scanL a P=b:=by
  obtain ⟨l1,l2,e⟩:=List.append_of_mem hb
  have keep:∀ (m:List Pt),(∀ x∈m,x∈P)→m.foldl (scanS a) b=b:=by
    intro m
    induction m with
    | nil=>intro _; rfl
    | cons x m ih=>intro hm; rw [List.foldl_cons,scan_keep h (hm x (by simp))]; exact ih fun y hy=>hm y (by simp [hy])
  unfold scanL
  rw [e,List.foldl_append,List.foldl_cons]
  have hc:l1.foldl (scanS a) a=a∨l1.foldl (scanS a) a∈P:=(scan_mem a l1 a).imp id fun k=>by rw [e]; exact List.mem_append_left _ k
  rw [scan_take h hc]
  exact keep l2 fun x hx=>by rw [e]; simp [hx]
end Go.Proofs.Ytcabnkclelgoeaa
