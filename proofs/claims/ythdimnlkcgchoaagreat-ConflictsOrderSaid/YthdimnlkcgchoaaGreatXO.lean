import Derived.Test.YthdimnlkcgchoaaGreatVZ
namespace Go.Proofs.YthdimnlkcgchoaaGreat
set_option linter.all false
set_option maxRecDepth 100000
noncomputable def flipR (r:Rule):Rule:=⟨r.rn,r.rw.reverse,r.rl,r.rs⟩
noncomputable def flipL (l:List Rule):List Rule:=l.reverse.map flipR
theorem flip_flip (r:Rule):flipR (flipR r)=r:=by unfold flipR; simp
theorem flipL_flip (l:List Rule):flipL (flipL l)=l:=by
 unfold flipL
 rw [← List.map_reverse,List.reverse_reverse,List.map_map]
 have:flipR∘flipR=id:=by funext r; exact flip_flip r
 rw [this,List.map_id]
theorem flipL_len (l:List Rule):(flipL l).length=l.length:=by simp [flipL]
theorem mem_flipL {l:List Rule} {r:Rule}:r∈flipL l↔∃ q∈l,flipR q=r:=by simp [flipL]
theorem flipL_get (l:List Rule) (i:Nat) (h:i < (flipL l).length):(flipL l)[i]=flipR (l[l.length - 1 - i]'(by rw [flipL_len] at h; omega)):=by
 simp only [flipL,List.getElem_map,List.getElem_reverse]
theorem ruleB_flip (r:Rule):ruleB (flipR r)=ruleB r:=by
 unfold ruleB flipR
 simp only [List.length_reverse,List.all_reverse]
theorem goodR_iff : ∀ (l : List Rule) (seen : List (List UInt8)), seen.Nodup → (goodR seen l = true ↔ (∀ r ∈ l, ruleB r = true) ∧ (seen ++ l.map Rule.rn).Nodup) := by
  intro l
  induction l with
  | nil=>intro seen h; simp [goodR,h]
  | cons r l ih =>
    intro seen h
    simp only [goodR,Bool.and_eq_true,Bool.not_eq_true']
    by_cases hr:List.elem r.rn seen=true
    · have hm : r.rn ∈ seen := by simpa using hr
      constructor
      · rintro ⟨_,h2,_⟩; rw [hr] at h2; cases h2
      · rintro ⟨_, h2⟩
        have:=(List.nodup_append.1 h2).2.2 _ hm r.rn (by simp)
        exact absurd rfl this
    · have hm : r.rn ∉ seen := by simpa using hr
      have hs:(seen++[r.rn]).Nodup:=List.nodup_append.2 ⟨h,by simp,fun a ha b hb e=>hm (by rw [← List.mem_singleton.1 hb,← e]; exact ha)⟩
      have e:seen++(r :: l).map Rule.rn=(seen++[r.rn])++l.map Rule.rn:=by simp
      rw [ih (seen++[r.rn]) hs,e]
      constructor
      · rintro ⟨h1, _, h2, h3⟩
        exact ⟨fun q hq=>(List.mem_cons.1 hq).elim (fun e=>e ▸ h1) (h2 q),h3⟩
      · rintro ⟨h1, h2⟩
        exact ⟨h1 r (by simp),by simpa using hr,fun q hq=>h1 q (by simp [hq]),h2⟩
theorem rulesB_flip {l:List Rule} (h:rulesB l=true):rulesB (flipL l)=true:=by
 unfold rulesB at h ⊢
 rw [flipL_len]
 simp only [Bool.and_eq_true] at h ⊢
 obtain ⟨h1,h2⟩:=(goodR_iff l [] List.nodup_nil).1 h.2
 refine ⟨h.1,(goodR_iff (flipL l) [] List.nodup_nil).2 ⟨fun r hr=>?_,?_⟩⟩
 ·obtain ⟨q,hq,rfl⟩:=mem_flipL.1 hr
  rw [ruleB_flip]; exact h1 q hq
 ·have e:(flipL l).map Rule.rn=(l.map Rule.rn).reverse:=by unfold flipL; rw [List.map_map,← List.map_reverse]; rfl
  rw [e]
  simp only [List.nil_append] at h2 ⊢
  exact (List.reverse_perm _).nodup_iff.2 h2
theorem knownR_flip (n:Net) (r:Rule):knownR n (flipR r)=knownR n r:=by
 unfold knownR flipR
 simp only [List.all_reverse]
theorem knownB_flip (l:List Rule) (n:Net):knownB (flipL l) n=knownB l n:=by
 unfold knownB flipL
 rw [List.all_map,List.all_reverse]
 congr 1
 funext r
 exact knownR_flip n r
theorem given_flip {l:List Rule} {n:Net} (h:givenZ l n=0):givenZ (flipL l) n=0:=by
 obtain ⟨h1,h2,h3⟩:=given0 h
 unfold givenZ
 rw [rulesB_flip h1,h2,knownB_flip,h3]
 rfl
theorem mx_comm (a x y:Int):(bif ilt (bif ilt a x then x else a) y then y else (bif ilt a x then x else a))=(bif ilt (bif ilt a y then y else a) x then x else (bif ilt a y then y else a)):=by
 by_cases h1:a < x<;>by_cases h2:a < y<;>by_cases h3:x < y<;>by_cases h4:y < x<;>simp only [iltT,iltF,h1,h2,h3,h4,cond_true,cond_false,not_false_eq_true]<;>omega
theorem mn_comm (a x y:Int):(bif ilt y (bif ilt x a then x else a) then y else (bif ilt x a then x else a))=(bif ilt x (bif ilt y a then y else a) then x else (bif ilt y a then y else a)):=by
 by_cases h1:x < a<;>by_cases h2:y < a<;>by_cases h3:x < y<;>by_cases h4:y < x<;>simp only [iltT,iltF,h1,h2,h3,h4,cond_true,cond_false,not_false_eq_true]<;>omega
theorem narC_comm (m : List UInt8) (s : Span) (c d : Cnd) : narC m (narC m s c) d = narC m (narC m s d) c := by
  unfold narC
  cases c.cn == m with
  | false=>rfl
  | true =>
    cases d.cn == m with
    | false=>rfl
    | true =>
      cases c.cb with
      | true =>
        cases d.cb with
        | true =>
          simp only [cond_true]
          rw [mn_comm]
        | false=>rfl
      | false =>
        cases d.cb with
        | true=>rfl
        | false =>
          simp only [cond_true,cond_false]
          rw [mx_comm]
theorem nar_comm (m:List UInt8) (c:Cnd):∀ (w:List Cnd) (s:Span),narC m (nar m s w) c=nar m (narC m s c) w:=by
 intro w
 induction w with
 | nil=>intro s; rfl
 | cons d w ih=>intro s; simp only [nar]; rw [ih,narC_comm]
theorem nar_rev (m:List UInt8):∀ (w:List Cnd) (s:Span),nar m s w.reverse=nar m s w:=by
  intro w
  induction w with
  | nil=>intro s; rfl
  | cons c w ih =>
    intro s
    rw [List.reverse_cons,nar_append,ih]
    exact nar_comm m c w s
theorem leastO_rev (w:List Cnd):∀ (nds:List Node),leastO nds w.reverse=leastO nds w:=by
 intro nds
 induction nds with
 | nil=>rfl
 | cons x l ih=>simp only [leastO,nar_rev,ih]
theorem leastB_rev (nds:List Node) (w:List Cnd):leastB nds w.reverse=leastB nds w:=by unfold leastB; rw [leastO_rev]
theorem contra_flip (n:Net) (a b:Rule):contraB n (flipR b) (flipR a)=contraB n a b:=by
 unfold contraB flipR
 simp only
 rw [← List.reverse_append,leastB_rev]
 congr 1
 ·exact Bool.beq_comm
 ·congr 1
  simp only [bne]
  rw [Bool.beq_comm]
theorem mem_findFrom (n : Net) (i : Int) (a : Rule) : ∀ (l : List Rule) (k : Nat) (x : Pair), x ∈ findFrom n i a k l ↔ ∃ j, ∃ hj : j < l.length, x = ⟨i, ((k + j : Nat) : Int)⟩ ∧ contraB n a l[j] = true := by
  intro l
  induction l with
  | nil=>intro k x; simp [findFrom]
  | cons b l ih =>
    intro k x
    have rest:x∈findFrom n i a (k+1) l↔∃ j,∃ hj:j+1 < (b :: l).length,x=⟨i,((k+(j+1):Nat):Int)⟩∧contraB n a (b :: l)[j+1]=true:=by
      rw [ih]
      constructor
      · rintro ⟨j,hj,e1,e2⟩; exact ⟨j,by simp; omega,by rw [e1,show k+1+j=k+(j+1) by omega],e2⟩
      · rintro ⟨j,hj,e1,e2⟩; exact ⟨j,by simp at hj; omega,by rw [e1,show k+1+j=k+(j+1) by omega],e2⟩
    simp only [findFrom]
    constructor
    · intro h
      cases hc:contraB n a b with
      | true =>
        rw [hc,cond_true] at h
        rcases List.mem_cons.1 h with rfl | h
        · exact ⟨0,by simp,rfl,hc⟩
        · obtain ⟨j,hj,e⟩:=rest.1 h; exact ⟨j+1,hj,e⟩
      | false =>
        rw [hc,cond_false] at h
        obtain ⟨j,hj,e⟩:=rest.1 h; exact ⟨j+1,hj,e⟩
    · rintro ⟨j, hj, e1, e2⟩
      cases j with
      | zero =>
        have:contraB n a b=true:=e2
        rw [this,cond_true,e1]
        exact List.mem_cons_self
      | succ j =>
        have:=rest.2 ⟨j,hj,e1,e2⟩
        cases contraB n a b with
        | true=>exact List.mem_cons_of_mem _ this
        | false=>exact this
theorem mem_findI (n:Net):∀ (l:List Rule) (i:Nat) (x:Pair),x∈findI n i l↔∃ j k,∃ (hj:j < k) (hk:k < l.length),x=⟨((i+j:Nat):Int),((i+k:Nat):Int)⟩∧contraB n (l[j]'(by omega)) l[k]=true:=by
  intro l
  induction l with
  | nil=>intro i x; simp [findI]
  | cons a l ih =>
    intro i x
    simp only [findI,List.mem_append]
    rw [mem_findFrom,ih]
    constructor
    · rintro (⟨k, hk, e1, e2⟩ | ⟨j, k, hj, hk, e1, e2⟩)
      · exact ⟨0,k+1,by omega,by simp; omega,by rw [e1,show i+1+k=i+(k+1) by omega]; rfl,e2⟩
      · exact ⟨j+1,k+1,by omega,by simp; omega,by rw [e1,show i+1+j=i+(j+1) by omega,show i+1+k=i+(k+1) by omega],e2⟩
    · rintro ⟨j, k, hj, hk, e1, e2⟩
      obtain ⟨k,rfl⟩:∃ q,k=q+1:=⟨k - 1,by omega⟩
      cases j with
      | zero=>exact .inl ⟨k,by simp at hk; omega,by rw [e1,show i+1+k=i+(k+1) by omega]; rfl,e2⟩
      | succ j=>exact .inr ⟨j,k,by omega,by simp at hk; omega,by rw [e1,show i+1+j=i+(j+1) by omega,show i+1+k=i+(k+1) by omega],e2⟩
theorem findFrom_nodup (n:Net) (i:Int) (a:Rule):∀ (l:List Rule) (k:Nat),(findFrom n i a k l).Nodup:=by
  intro l
  induction l with
  | nil=>intro k; simp [findFrom]
  | cons b l ih =>
    intro k
    simp only [findFrom]
    cases contraB n a b with
    | false=>exact ih (k+1)
    | true =>
      refine List.nodup_cons.2 ⟨fun h=>?_,ih (k+1)⟩
      obtain ⟨j,hj,e,_⟩:=(mem_findFrom n i a l (k+1) _).1 h
      have:=congrArg Pair.p1 e
      simp only at this
      omega
theorem findI_nodup (n:Net):∀ (l:List Rule) (i:Nat),(findI n i l).Nodup:=by
  intro l
  induction l with
  | nil=>intro i; simp [findI]
  | cons a l ih =>
    intro i
    simp only [findI]
    refine List.nodup_append.2 ⟨findFrom_nodup n _ a l _,ih (i+1),fun x hx y hy e=>?_⟩
    obtain ⟨k,hk,e1,_⟩:=(mem_findFrom n _ a l _ _).1 hx
    obtain ⟨j,k',hj,hk',e2,_⟩:=(mem_findI n l (i+1) _).1 hy
    rw [e,e2] at e1
    have:=congrArg Pair.p0 e1
    simp only at this
    omega
theorem nodup_len {α:Type}:∀ {m l:List α},m.Nodup→(∀ x∈m,x∈l)→m.length≤l.length:=by
  classical
  intro m
  induction m with
  | nil=>intro l _ _; exact Nat.zero_le _
  | cons x m ih =>
    intro l h hs
    obtain ⟨h1,h2⟩:=List.nodup_cons.1 h
    have hx:=hs x (by simp)
    have:=ih (l:=l.erase x) h2 fun y hy=>(List.mem_erase_of_ne (fun e=>h1 (by rw [← e]; exact hy))).2 (hs y (by simp [hy]))
    rw [List.length_erase_of_mem hx] at this
    have:=List.length_pos_of_mem hx
    simp only [List.length_cons]
    omega
noncomputable def turnP (L:Int) (x:Pair):Pair:=⟨L - 1 - x.p1,L - 1 - x.p0⟩
theorem turn_mem {l:List Rule} {n:Net} {x:Pair} (h:x∈findP l n):turnP (l.length:Int) x∈findP (flipL l) n:=by
 obtain ⟨j,k,hj,hk,rfl,hc⟩:=(mem_findI n l 0 x).1 h
 refine (mem_findI n (flipL l) 0 _).2 ⟨l.length - 1 - k,l.length - 1 - j,by omega,by rw [flipL_len]; omega,?_,?_⟩
 ·unfold turnP
  simp only
  congr 1<;>omega
 ·rw [flipL_get,flipL_get]
  have e1:l.length - 1 - (l.length - 1 - k)=k:=by omega
  have e2:l.length - 1 - (l.length - 1 - j)=j:=by omega
  simp only [e1,e2]
  rw [contra_flip]; exact hc
theorem find_le (l:List Rule) (n:Net):(findP l n).length≤(findP (flipL l) n).length:=by
 have h:((findP l n).map (turnP (l.length:Int))).Nodup:=by
  refine (List.pairwise_map).2 ((findI_nodup n l 0).imp fun {a b} hab e=>hab ?_)
  unfold turnP at e
  have e0:=congrArg Pair.p0 e
  have e1:=congrArg Pair.p1 e
  simp only at e0 e1
  obtain ⟨a0,a1⟩:=a
  obtain ⟨b0,b1⟩:=b
  simp only at e0 e1
  congr 1<;>omega
 have:=nodup_len h fun x hx=>by
  obtain ⟨y,hy,rfl⟩:=List.mem_map.1 hx
  exact turn_mem hy
 rwa [List.length_map] at this
theorem find_len (l:List Rule) (n:Net):(findP (flipL l) n).length=(findP l n).length:=by
 have h1:=find_le l n
 have h2:=find_le (flipL l) n
 rw [flipL_flip] at h2
 omega
theorem mem_deadI (n : Net) : ∀ (l : List Rule) (i : Nat) (x : Int), x ∈ deadI n i l ↔ ∃ j, ∃ hj : j < l.length, x = ((i + j : Nat) : Int) ∧ leastB n.nds l[j].rw = false := by
  intro l
  induction l with
  | nil=>intro i x; simp [deadI]
  | cons r l ih =>
    intro i x
    have rest:x∈deadI n (i+1) l↔∃ j,∃ hj:j+1 < (r :: l).length,x=((i+(j+1):Nat):Int)∧leastB n.nds (r :: l)[j+1].rw=false:=by
      rw [ih]
      constructor
      · rintro ⟨j,hj,e1,e2⟩; exact ⟨j,by simp; omega,by rw [e1,show i+1+j=i+(j+1) by omega],e2⟩
      · rintro ⟨j,hj,e1,e2⟩; exact ⟨j,by simp at hj; omega,by rw [e1,show i+1+j=i+(j+1) by omega],e2⟩
    simp only [deadI]
    constructor
    · intro h
      cases hc:leastB n.nds r.rw with
      | false =>
        rw [hc,cond_false] at h
        rcases List.mem_cons.1 h with rfl | h
        · exact ⟨0,by simp,rfl,hc⟩
        · obtain ⟨j,hj,e⟩:=rest.1 h; exact ⟨j+1,hj,e⟩
      | true =>
        rw [hc,cond_true] at h
        obtain ⟨j,hj,e⟩:=rest.1 h; exact ⟨j+1,hj,e⟩
    · rintro ⟨j, hj, e1, e2⟩
      cases j with
      | zero =>
        have:leastB n.nds r.rw=false:=e2
        rw [this,cond_false,e1]
        exact List.mem_cons_self
      | succ j =>
        have:=rest.2 ⟨j,hj,e1,e2⟩
        cases leastB n.nds r.rw with
        | false=>exact List.mem_cons_of_mem _ this
        | true=>exact this
theorem deadI_nodup (n:Net):∀ (l:List Rule) (i:Nat),(deadI n i l).Nodup:=by
  intro l
  induction l with
  | nil=>intro i; simp [deadI]
  | cons r l ih =>
    intro i
    simp only [deadI]
    cases leastB n.nds r.rw with
    | true=>exact ih (i+1)
    | false =>
      refine List.nodup_cons.2 ⟨fun h=>?_,ih (i+1)⟩
      obtain ⟨j,hj,e,_⟩:=(mem_deadI n l (i+1) _).1 h
      omega
theorem dead_mem {l:List Rule} {n:Net} {x:Int} (h:x∈deadI n 0 l):(l.length:Int) - 1 - x∈deadI n 0 (flipL l):=by
 obtain ⟨j,hj,rfl,hc⟩:=(mem_deadI n l 0 x).1 h
 refine (mem_deadI n (flipL l) 0 _).2 ⟨l.length - 1 - j,by rw [flipL_len]; omega,by omega,?_⟩
 rw [flipL_get]
 have e2:l.length - 1 - (l.length - 1 - j)=j:=by omega
 simp only [e2]
 show leastB n.nds (l[j].rw.reverse)=false
 rw [leastB_rev]; exact hc
theorem dead_le (l:List Rule) (n:Net):(deadI n 0 l).length≤(deadI n 0 (flipL l)).length:=by
 have h:((deadI n 0 l).map (fun x=>(l.length:Int) - 1 - x)).Nodup:=(List.pairwise_map).2 ((deadI_nodup n l 0).imp fun {a b} hab e=>hab (by omega))
 have:=nodup_len h fun x hx=>by
  obtain ⟨y,hy,rfl⟩:=List.mem_map.1 hx
  exact dead_mem hy
 rwa [List.length_map] at this
theorem dead_len (l:List Rule) (n:Net):(deadI n 0 (flipL l)).length=(deadI n 0 l).length:=by
 have h1:=dead_le l n
 have h2:=dead_le (flipL l) n
 rw [flipL_flip] at h2
 omega
theorem mem_levM_flip (x:Node) (s:List UInt8) (l:List Rule) (z:Int):z∈levM x s (flipL l)↔z∈levM x s l:=by
 unfold levM levR
 simp only [List.mem_flatMap]
 constructor
 ·rintro ⟨r,hr,c,hc,hz⟩
  obtain ⟨q,hq,rfl⟩:=mem_flipL.1 hr
  exact ⟨q,hq,c,by simpa [flipR] using hc,hz⟩
 ·rintro ⟨r,hr,c,hc,hz⟩
  exact ⟨flipR r,mem_flipL.2 ⟨r,hr,rfl⟩,c,by simpa [flipR] using hc,hz⟩
theorem padX_flip (x:Node) (s:List UInt8) (l:List Rule):padX x s (flipL l)=padX x s l:=by
 obtain ⟨h1,h2⟩:=padX_asc x s (flipL l)
 obtain ⟨h3,h4⟩:=padX_asc x s l
 exact asc_ext h1 h3 fun z=>by rw [h2,h4,mem_levM_flip]
theorem padM_flip (l:List Rule) (n:Net) (s:List UInt8):padM (flipL l) n s=padM l n s:=by
 unfold padM
 congr 1
 funext x
 exact padX_flip x s l
theorem some_flip (l:List Rule) (s:List UInt8) (nds:List Node) (v:List Int):someB (flipL l) s nds v=someB l s nds v:=by
 unfold someB flipL
 rw [List.any_map,List.any_reverse]
 congr 1
 funext r
 simp only [Function.comp]
 unfold fitsR holdB holdN flipR
 simp only [List.any_reverse]
theorem count_flip (l:List Rule) (n:Net) (s:List UInt8):countP (flipL l) n s=countP l n s:=by unfold countP; rw [padM_flip]
theorem gap_flip (l:List Rule) (n:Net) (s:List UInt8):gapO (flipL l) n s (flipL l) s n.nds=gapO l n s l s n.nds:=by
 unfold gapO
 rw [padM_flip,count_flip]
 congr 1
 funext k
 rw [some_flip]
theorem compOk_flip {l:List Rule} {n:Net} (h:givenZ l n=0) (s:List UInt8):compOk (flipL l) n s=compOk l n s:=by
 unfold compOk fewB
 rw [given_flip h,h,count_flip]
theorem compB_flip {l:List Rule} {n:Net} (h:givenZ l n=0) (s:List UInt8):compB (flipL l) n s=compB l n s:=by
 unfold compB
 rw [compOk_flip h,gap_flip]
theorem compL_flip {l:List Rule} {n:Net} (h:givenZ l n=0) (s:List UInt8):compL (flipL l) n s=compL l n s:=by
 unfold compL gapL
 rw [compOk_flip h,gap_flip,padM_flip]
theorem compE_flip {l:List Rule} {n:Net} (h:givenZ l n=0) (s:List UInt8):compE (flipL l) n s=compE l n s:=by
 unfold compE fewB
 rw [given_flip h,h,count_flip]
end Go.Proofs.YthdimnlkcgchoaaGreat
