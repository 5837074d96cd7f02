/- straitref10: how two segments meet, by the document's answer. -/
import Derived.Test.YthhamejdmpjjlaaGreatDoorScm
import Derived.Test.YthhamejdmpjjlaaGreatDoorSsc
import Derived.Test.YthhamejdmpjjlaaGreatDoorSgf
import Derived.Test.YthhamejdmpjjlaaGreatDoorSsd
namespace Num
open Go Go.Proofs
abbrev dt (a b p:V2):Rat:=(p.1-a.1)*(p.1-b.1)+(p.2-a.2)*(p.2-b.2)
def onD (a b p:V2):Bool:=decide (cr a b p=0)&&decide (dt a b p≤0)
theorem zhF (x:Rat):0≤x*x:=by
 rcases Rat.le_total (a:=0) (b:=x) with h | h
 ·exact Rat.mul_nonneg h h
 ·have:=Rat.mul_nonneg (show 0≤ -x by grind) (show 0≤ -x by grind);grind
theorem JN {x:Rat} (h:x*x=0):x=0:=Classical.byContradiction fun hx=>hx (mz h hx)
theorem zhG {a b p:Rat} (h:btw a b p):(p-a)*(p-b)≤0:=by
 unfold btw at h
 rcases h with h | h
 ·have:=Rat.mul_nonneg (show 0≤p-a by grind) (show 0≤b-p by grind);grind
 ·have:=Rat.mul_nonneg (show 0≤a-p by grind) (show 0≤p-b by grind);grind
theorem YB {a b p:V2}:onD a b p=true↔onS a b p:=by
 unfold onD
 rw [Bool.and_eq_true,decide_eq_true_eq,decide_eq_true_eq]
 constructor
 ·rintro⟨h1,h2⟩
  by_cases hab:a=b
  ·subst hab
   have q1:=zhF (p.1-a.1)
   have q2:=zhF (p.2-a.2)
   unfold dt at h2
   have e1:=JN (x:=p.1-a.1) (by grind)
   have e2:=JN (x:=p.2-a.2) (by grind)
   have:p=a:=Prod.ext (by grind) (by grind)
   rw [this];exact zno _ _
  ·obtain⟨s,hs⟩:∃ s,p=atP a b s:=by
    unfold cr Uv at h1
    rcases ne2 hab with hd | hd
    ·refine⟨(p.1-a.1)/(b.1-a.1),?_⟩
     obtain⟨s,hs⟩:∃ s,s=(p.1-a.1)/(b.1-a.1):=⟨_,rfl⟩
     have e:s*(b.1-a.1)=p.1-a.1:=by rw [hs];exact Rat.div_mul_cancel hd
     rw [←hs]
     have e2:(b.1-a.1)*(p.2-(a.2+(b.2-a.2)*s))=0:=by
      have:p.1=a.1+s*(b.1-a.1):=by grind
      rw [this] at h1;grind
     have:=mz e2 hd
     exact Prod.ext (by show p.1=a.1+(b.1-a.1)*s;grind) (by show p.2=a.2+(b.2-a.2)*s;grind)
    ·refine⟨(p.2-a.2)/(b.2-a.2),?_⟩
     obtain⟨s,hs⟩:∃ s,s=(p.2-a.2)/(b.2-a.2):=⟨_,rfl⟩
     have e:s*(b.2-a.2)=p.2-a.2:=by rw [hs];exact Rat.div_mul_cancel hd
     rw [←hs]
     have e2:(b.2-a.2)*(p.1-(a.1+(b.1-a.1)*s))=0:=by
      have:p.2=a.2+s*(b.2-a.2):=by grind
      rw [this] at h1;grind
     have:=mz e2 hd
     exact Prod.ext (by show p.1=a.1+(b.1-a.1)*s;grind) (by show p.2=a.2+(b.2-a.2)*s;grind)
   refine zlw.2 ⟨s,?_,?_,hs⟩
   all_goals
    obtain⟨D,hD⟩:∃ D,D=(b.1-a.1)*(b.1-a.1)+(b.2-a.2)*(b.2-a.2):=⟨_,rfl⟩
    have q1:=zhF (b.1-a.1)
    have q2:=zhF (b.2-a.2)
    have hD0:0<D:=by
     refine Rat.not_le.1 fun g=>hab ?_
     have e1:=JN (x:=b.1-a.1) (by grind)
     have e2:=JN (x:=b.2-a.2) (by grind)
     exact Prod.ext (by grind) (by grind)
    have e:dt a b p=s*(s-1)*D:=by rw [hs,hD];unfold dt atP;grind
    rw [e] at h2
    refine Rat.not_lt.1 fun g=>?_
   ·have:=Rat.mul_pos (Rat.mul_pos (show 0< -s by grind) (show 0<1-s by grind)) hD0;grind
   ·have:=Rat.mul_pos (Rat.mul_pos (show 0<s by grind) (show 0<s-1 by grind)) hD0;grind
 ·rintro⟨h1,h2,h3⟩
  have:=zhG h2
  have:=zhG h3
  exact⟨h1,by unfold dt;grind⟩
def XP (l:List V2) (p:V2):Nat:=(l.takeWhile fun x=>decide (vM x p<0)).length
def Vo (l:List V2) (p:V2):List V2:=if l[XP l p]? =some p then l else l.take (XP l p)++[p]++l.drop (XP l p)
theorem zml {l:List V2} {p:V2} {K:Nat} (hK:K≤l.length) (h1:∀ x∈l.take K,vM x p<0) (h2:∀ x,l[K]? =some x→¬ vM x p<0):K=XP l p:=by
  induction l generalizing K with
  | nil=>simp at hK;subst hK;rfl
  | cons y l ih=>
    unfold XP
    cases K with
    | zero=>
      have:=h2 y rfl
      rw [List.takeWhile_cons,if_neg (by simpa using this)];rfl
    | succ K=>
      have:=h1 y (by simp)
      rw [List.takeWhile_cons,if_pos (by simpa using this),List.length_cons]
      congr 1
      exact ih (by simpa using hK) (fun x hx=>h1 x (by simp [hx])) (fun x hx=>h2 x (by simpa using hx))
theorem zob {l:List V2} {p x:V2} {K:Nat} (hK:K=XP l p) (hx:l[K]? =some x) (e:x=p):Vo l p=l:=by unfold Vo;rw [←hK,hx,if_pos (congrArg some e)]
theorem zek {l:List V2} {p:V2} {K:Nat} (hK:K=XP l p) (h:∀ x,l[K]? =some x→x≠p):Vo l p=l.take K++[p]++l.drop K:=by
 unfold Vo;rw [←hK,if_neg fun e=>h p e rfl]
theorem zpN (l:List V2) (p:V2):XP l p≤l.length:=(List.takeWhile_prefix _).length_le
theorem tkw_all {f:V2→Bool} {x:V2}:∀ {l:List V2},x∈l.takeWhile f→f x=true
  | [],h=>by simp at h
  | y::l,h=>by
    rw [List.takeWhile_cons] at h
    split at h
    · rename_i g;rcases List.mem_cons.1 h with rfl | h;exact g;exact tkw_all h
    · simp at h
theorem zoc (l:List V2) (p:V2):(Vo l p).length≤l.length+1:=by
 have:=zpN l p
 unfold Vo;split
 ·omega
 ·rw [List.length_append,List.length_append,List.length_take,List.length_drop,List.length_singleton];omega
theorem zod {l:List V2} {p x:V2}:x∈Vo l p↔x∈l∨x=p:=by
 unfold Vo
 split
 ·rename_i h
  exact⟨.inl,fun h2=>h2.elim id fun e=>e▸List.mem_of_getElem? h⟩
 ·rw [List.mem_append,List.mem_append,List.mem_singleton]
  have e:x∈l↔x∈l.take (XP l p)∨x∈l.drop (XP l p):=by rw [←List.mem_append,List.take_append_drop]
  rw [e];constructor
  ·rintro ((h | h) | h)
   ·exact .inl (.inl h)
   ·exact .inr h
   ·exact .inl (.inr h)
  ·rintro ((h | h) | h)
   ·exact .inl (.inl h)
   ·exact .inr h
   ·exact .inl (.inr h)
theorem zmm {l:List V2} {f:V2→Bool}:l.takeWhile f=l.take (l.takeWhile f).length:=by
  induction l with
  | nil=>rfl
  | cons y l ih=>
    rw [List.takeWhile_cons]
    split
    · rw [List.length_cons,List.take_succ_cons,←ih]
    · rfl
theorem zmn {l:List V2} {f:V2→Bool} {x:V2} (h:l[(l.takeWhile f).length]? =some x):f x=false:=by
  induction l with
  | nil=>simp at h
  | cons y l ih=>
    rw [List.takeWhile_cons] at h
    split at h
    · rw [List.length_cons,List.getElem?_cons_succ] at h;exact ih h
    · rename_i g;simp at h;subst h;simpa using g
abbrev Srt (l:List V2):Prop:=l.Pairwise fun x y=>vM x y<0
theorem zjI {p q:V2}:vM p q<0↔le2 p q∧p≠q:=by
 rw [qm]
 constructor
 ·exact fun h=>⟨(le2_total p q).elim id fun g=>absurd g h,fun e=>h (e▸YY p)⟩
 ·exact fun⟨h1,h2⟩ h3=>h2 (uq h1 h3)
theorem zhH {p q r:V2} (h1:vM p q<0) (h2:vM q r<0):vM p r<0:=by
 obtain⟨a,b⟩:=zjI.1 h1
 obtain⟨c,_⟩:=zjI.1 h2
 refine zjI.2 ⟨ZQ a c,fun e=>?_⟩
 subst e
 exact b (uq a c)
theorem zoe {l:List V2} {p:V2} (h:Srt l):Srt (Vo l p):=by
  unfold Vo
  split
  · exact h
  · rename_i hne
    have ht:l.takeWhile (fun x=>decide (vM x p<0))=l.take (XP l p):=zmm
    have lo:∀ x∈l.take (XP l p),vM x p<0:=fun x hx=>by
      rw [←ht] at hx
      simpa using tkw_all hx
    have hi:∀ x∈l.drop (XP l p),vM p x<0:=fun x hx=>by
      cases g:l[XP l p]? with
      | none=>rw [List.drop_eq_nil_of_le (List.getElem?_eq_none_iff.1 g)] at hx;simp at hx
      | some y=>
        have n1:¬ vM y p<0:=by have:=zmn g;simpa using this
        have n2:y≠p:=fun e=>hne (by rw [g,e])
        have n3:vM p y<0:=zjI.2 ⟨(le2_total p y).elim id fun q=>absurd (zjI.2 ⟨q,n2⟩) n1,Ne.symm n2⟩
        obtain⟨hk,hy⟩:=List.getElem?_eq_some_iff.1 g
        rw [List.drop_eq_getElem_cons hk,hy] at hx
        rcases List.mem_cons.1 hx with e | hx
        · rw [e];exact n3
        · have hp:=h.sublist (List.drop_sublist (XP l p) l)
          rw [List.drop_eq_getElem_cons hk,hy] at hp
          exact zhH n3 ((List.pairwise_cons.1 hp).1 x hx)
    have h1:=h.sublist (List.take_sublist (XP l p) l)
    have h2:=h.sublist (List.drop_sublist (XP l p) l)
    refine List.pairwise_append.2 ⟨List.pairwise_append.2 ⟨h1,List.pairwise_singleton _ _,fun x hx y hy=>?_⟩,h2,fun x hx y hy=>?_⟩
    · rw [List.mem_singleton.1 hy];exact lo x hx
    · rcases List.mem_append.1 hx with hx | hx
      · exact zhH (lo x hx) (hi y hy)
      · rw [List.mem_singleton.1 hx];exact hi y hy
def qO (a b c d:V2) (l:List V2) (x:V2):List V2:=if (onD a b x&&onD c d x)=true then Vo l x else l
def Ym (a b c d:V2) (k:Nat):List V2:=([a,b,c,d].take k).foldl (qO a b c d) []
abbrev xD (a b c d:V2):List V2:=Ym a b c d 4
theorem zbd {a b c d x:V2} {k:Nat} (h:[a,b,c,d][k]? =some x):Ym a b c d (k+1)=qO a b c d (Ym a b c d k) x:=by
 unfold Ym
 rw [List.take_add_one,h,List.foldl_append];rfl
theorem zbe {a b c d:V2}:∀ (r l:List V2),Srt l→Srt (r.foldl (qO a b c d) l)∧∀ x,x∈r.foldl (qO a b c d) l↔x∈l∨(x∈r∧Bo a b c d x)
  | [],l,h=>⟨h,fun x=>by simp⟩
  | y::r,l,h=>by
    rw [List.foldl_cons]
    have hb:Srt (qO a b c d l y)∧∀ x,x∈qO a b c d l y↔x∈l∨(x=y∧Bo a b c d y):=by
      unfold qO
      split
      · rename_i g
        rw [Bool.and_eq_true,YB,YB] at g
        exact⟨zoe h,fun x=>by rw [zod];exact⟨fun q=>q.imp id fun e=>⟨e,g⟩,fun q=>q.imp id fun e=>e.1⟩⟩
      · rename_i g
        rw [Bool.and_eq_true,YB,YB] at g
        exact⟨h,fun x=>⟨.inl,fun q=>q.elim id fun e=>absurd e.2 g⟩⟩
    obtain⟨i1,i2⟩:=zbe r _ hb.1
    refine⟨i1,fun x=>?_⟩
    rw [i2,hb.2,List.mem_cons]
    constructor
    · rintro ((q | ⟨rfl,q⟩) | ⟨q,w⟩)
      · exact .inl q
      · exact .inr ⟨.inl rfl,q⟩
      · exact .inr ⟨.inr q,w⟩
    · rintro (q | ⟨rfl | q,w⟩)
      · exact .inl (.inl q)
      · exact .inl (.inr ⟨rfl,w⟩)
      · exact .inr ⟨q,w⟩
theorem zcr (a b c d:V2) (k:Nat):Srt (Ym a b c d k)∧∀ x,x∈Ym a b c d k↔x∈[a,b,c,d].take k∧Bo a b c d x:=by
 obtain⟨h1,h2⟩:=zbe (a:=a) (b:=b) (c:=c) (d:=d) ([a,b,c,d].take k) [] List.Pairwise.nil
 exact⟨h1,fun x=>by unfold Ym;rw [h2];simp⟩
theorem qP (a b c d:V2):∀ k,(Ym a b c d k).length≤k
  | 0=>Nat.le_refl _
  | k+1=>by
    have ih:=qP a b c d k
    cases h:[a,b,c,d][k]? with
    | none=>
      have:Ym a b c d (k+1)=Ym a b c d k:=by
        have:=List.getElem?_eq_none_iff.1 h
        unfold Ym;rw [List.take_of_length_le this,List.take_of_length_le (Nat.le_succ_of_le this)]
      rw [this];omega
    | some x=>
      rw [zbd h];unfold qO;split
      · have:=zoc (Ym a b c d k) x;omega
      · omega
theorem UP {a b c d x:V2}:x∈xD a b c d↔(x=a∨x=b∨x=c∨x=d)∧Bo a b c d x:=by
 rw [(zcr a b c d 4).2];simp
def zgq (a b c d:V2):Int×V2×V2:=
 if 2≤(xD a b c d).length then (2,(xD a b c d).getD 0 (0,0),(xD a b c d).getD ((xD a b c d).length-1) (0,0))
 else if (xD a b c d).length=1 then (1,(xD a b c d).getD 0 (0,0),(xD a b c d).getD 0 (0,0))
 else if ¬den a b c d=0∧onD a b (Jq a b c d)=true∧onD c d (Jq a b c d)=true then (1,Jq a b c d,Jq a b c d) else qn
theorem zmo {a b c d P:V2} (hP:P=if den a b c d=0 then (0,0) else Jq a b c d) (n2:¬ 2≤(xD a b c d).length) (n1:¬ (xD a b c d).length=1):
  zgq a b c d=if (!decide (den a b c d=0)&&onD a b P&&onD c d P)=true then (1,P,P) else qn:=by
 unfold zgq
 rw [if_neg n2,if_neg n1]
 by_cases h:den a b c d=0
 ·rw [if_neg (fun q=>q.1 h),if_neg (by rw [decide_eq_true h];simp)]
 ·rw [if_neg h] at hP
  rw [←hP,decide_eq_false h]
  cases onD a b P <;> cases onD c d P <;> simp [h]
theorem zel (a b:V2):((xZ a b).1=a∧(xZ a b).2=b)∨((xZ a b).1=b∧(xZ a b).2=a):=by unfold xZ;split <;> simp
theorem zjJ (a b c d:V2):(UU a b c d=2→∃ p q,p∈xD a b c d∧q∈xD a b c d∧p≠q)∧(UU a b c d=1→(∃p,p∈xD a b c d)∨¬ den a b c d=0):=by
 have hs:=JF a b
 have ht:=JF c d
 have fa:=zel a b
 have fc:=zel c d
 have lo:VO (xZ a b) (xZ c d)=(xZ a b).1∨VO (xZ a b) (xZ c d)=(xZ c d).1:=by unfold VO;split <;> simp
 have hi:VP (xZ a b) (xZ c d)=(xZ a b).2∨VP (xZ a b) (xZ c d)=(xZ c d).2:=by unfold VP;split <;> simp
 have mem:∀ p,(p=VO (xZ a b) (xZ c d)∨p=VP (xZ a b) (xZ c d))→Ze (xZ a b) p=true→Ze (xZ c d) p=true→p∈xD a b c d:=fun p hp h1 h2=>by
  rw [Zj hs,JG] at h1
  rw [Zj ht,JG] at h2
  refine UP.2 ⟨?_,h1,h2⟩
  rcases hp with rfl | rfl
  ·rcases lo with e | e <;> rw [e]
   ·rcases fa with ⟨g,_⟩ | ⟨g,_⟩ <;> rw [g] <;> simp
   ·rcases fc with ⟨g,_⟩ | ⟨g,_⟩ <;> rw [g] <;> simp
  ·rcases hi with e | e <;> rw [e]
   ·rcases fa with ⟨_,g⟩ | ⟨_,g⟩ <;> rw [g] <;> simp
   ·rcases fc with ⟨_,g⟩ | ⟨_,g⟩ <;> rw [g] <;> simp
 have dd:den a b c d=0→den (xZ a b).1 (xZ a b).2 (xZ c d).1 (xZ c d).2=0:=fun h=>by
  unfold den at h ⊢
  rcases fa with ⟨g1,g2⟩ | ⟨g1,g2⟩ <;> rcases fc with ⟨g3,g4⟩ | ⟨g3,g4⟩ <;> rw [g1,g2,g3,g4] <;> grind
 unfold UU mtF
 split
 ·exact⟨fun e=>absurd e (by decide),fun e=>absurd e (by decide)⟩
 ·split
  ·rename_i _ h
   rw [Bool.and_eq_true,Bool.and_eq_true,Bool.and_eq_true] at h
   obtain⟨⟨⟨h1,h2⟩,h3⟩,h4⟩:=h
   refine⟨fun e=>⟨_,_,mem _ (.inl rfl) h1 h2,mem _ (.inr rfl) h3 h4,fun q=>?_⟩,fun _=>.inl ⟨_,mem _ (.inl rfl) h1 h2⟩⟩
   simp only at e
   rw [if_pos (Vc.2 q)] at e
   exact absurd e (by decide)
  ·split
   ·exact⟨fun e=>absurd e (by decide),fun e=>absurd e (by decide)⟩
   ·rename_i g
    split
    ·exact⟨fun e=>absurd (show (1:Int)=2 from e) (by decide),fun _=>.inr fun h=>g (dd h)⟩
    ·exact⟨fun e=>absurd e (by decide),fun e=>absurd e (by decide)⟩
theorem zof (a b c d:V2):(zgq a b c d).1=UU a b c d:=by
  obtain⟨k2,k1⟩:=zjJ a b c d
  have ks:=UE a b c d
  have srt:=(zcr a b c d 4).1
  unfold zgq
  split
  · rename_i h
    obtain⟨l,hl⟩:∃ l,l=xD a b c d:=⟨_,rfl⟩
    rw [←hl] at h
    match l,h with
    | x::y::r,_=>
      have hx:x∈xD a b c d:=by rw [←hl];simp
      have hy:y∈xD a b c d:=by rw [←hl];simp
      have hxy:x≠y:=by
        have:Srt (x::y::r):=by rw [hl];exact srt
        exact (zjI.1 ((List.pairwise_cons.1 this).1 y (by simp))).2
      have i1:=(UP.1 hx).2
      have i2:=(UP.1 hy).2
      rcases ks with ⟨_,e⟩ | ⟨_,p,_,e⟩ | ⟨e,_⟩
      · exact absurd i1 (e x)
      · exact absurd ((e x i1).trans (e y i2).symm) hxy
      · exact e.symm
  · rename_i h
    have n2:UU a b c d≠2:=fun e=>by
      obtain⟨p,q,hp,hq,hpq⟩:=k2 e
      obtain⟨l,hl⟩:∃ l,l=xD a b c d:=⟨_,rfl⟩
      rw [←hl] at h hp hq
      match l,h with
      | [],_=>simp at hp
      | [x],_=>rw [List.mem_singleton] at hp hq;exact hpq (hp.trans hq.symm)
      | x::y::r,h=>simp at h
    split
    · rename_i h1
      obtain⟨l,hl⟩:∃ l,l=xD a b c d:=⟨_,rfl⟩
      rw [←hl] at h1
      match l,h1 with
      | [x],_=>
        have hx:x∈xD a b c d:=by rw [←hl];simp
        have i1:=(UP.1 hx).2
        rcases ks with ⟨_,e⟩ | ⟨e,_⟩ | ⟨e,_⟩
        · exact absurd i1 (e x)
        · exact e.symm
        · exact absurd e n2
    · rename_i h1
      split
      · rename_i h2
        have i1:Bo a b c d (Jq a b c d):=⟨YB.1 h2.2.1,YB.1 h2.2.2⟩
        rcases ks with ⟨_,e⟩ | ⟨e,_⟩ | ⟨e,_⟩
        · exact absurd i1 (e _)
        · exact e.symm
        · exact absurd e n2
      · rename_i h2
        rcases ks with ⟨e,_⟩ | ⟨e,p,hp,_⟩ | ⟨e,_⟩
        · exact e.symm
        · exfalso
          rcases k1 e with ⟨q,hq⟩ | hd
          · obtain⟨l,hl⟩:∃ l,l=xD a b c d:=⟨_,rfl⟩
            rw [←hl] at h h1 hq
            match l,h,h1 with
            | [],_,_=>simp at hq
            | [x],_,h1=>simp at h1
            | x::y::r,h,_=>simp at h
          · have hl:=zlq hd
            have:p=Jq a b c d:=zaT hd hp.1.1 hp.2.1 hl.1 hl.2
            exact h2 ⟨hd,by rw [←this];exact YB.2 hp.1,by rw [←this];exact YB.2 hp.2⟩
        · exact absurd e n2
end Num
namespace Go.Proofs
open Go Go.Sv Num
variable {G:Imm}
def Ps (p:yE) (w:Nat):Prop:=∃ kx ky,kx+ky≤w∧IsQ p.1.1 p.1.2.1 p.1.2.2 (qv p.1) kx∧IsQ p.2.1 p.2.2.1 p.2.2.2 (qv p.2) ky
theorem QG {p:yE} (hp:UK p):Ps p (XB p+2):=⟨_,_,by unfold XB;omega,YI hp.1.1 hp.1.2,YI hp.2.1 hp.2.2⟩
theorem zhI {v:V2} {k j:Nat} (h1:Bq v.1 k) (h2:Bq v.2 j):Ps (uV v) (k+j):=by
 have e:=wW v
 have i1:IsQ (uV v).1.1 (uV v).1.2.1 (uV v).1.2.2 v.1 k:=isQ_can (h:=h1)
 have i2:IsQ (uV v).2.1 (uV v).2.2.1 (uV v).2.2.2 v.2 j:=isQ_can (h:=h2)
 refine⟨k,j,Nat.le_refl _,?_,?_⟩
 ·rw [show qv (uV v).1=v.1 from congrArg Prod.fst e];exact i1
 ·rw [show qv (uV v).2=v.2 from congrArg Prod.snd e];exact i2
theorem zpP {p:yE} {w:Nat} (h:Ps p w):Ps (uV (pv p)) w:=by
 obtain⟨k,j,hw,h1,h2⟩:=h
 obtain⟨k',j',hw',i⟩:=zhI (v:=pv p) h1.bq h2.bq
 exact⟨k',j',Nat.le_trans hw' hw,i⟩
theorem Jk {p:yE} {w u:Nat} (h:Ps p w) (hl:w≤u):Ps p u:=let ⟨k,j,hw,i⟩:=h;⟨k,j,Nat.le_trans hw hl,i⟩
theorem zgr {p q:yE} {w u:Nat} (hp:Ps p w) (hq:Ps q u) (hs:64*(w+u)+5000≤131072):zp Tryz.prog G 120 [zl (pc p),zl (pc q)] (zl (pc (uV (VQ (pv p) (pv q))))):=by
 obtain⟨k1,j1,hw,i1,i2⟩:=hp
 obtain⟨k2,j2,hu,i3,i4⟩:=hq
 exact VL (hx1:=i1) (hy1:=i2) (hx2:=i3) (hy2:=i4) (by omega)
theorem ZK {p q:yE} {w u:Nat} (hp:Ps p w) (hq:Ps q u):Ps (uV (VQ (pv p) (pv q))) (w+u+2):=by
 obtain⟨k1,j1,hw,i1,i2⟩:=hp
 obtain⟨k2,j2,hu,i3,i4⟩:=hq
 exact Jk (zhI (bq_sub (hp:=i1.bq) (hq:=i3.bq)) (bq_sub (hp:=i2.bq) (hq:=i4.bq))) (by omega)
theorem zgs {p q:yE} {w u:Nat} (hp:Ps p w) (hq:Ps q u) (hs:64*(w+u)+5000≤131072):zp Tryz.prog G 119 [zl (pc p),zl (pc q)] (zl (zR (x2 (pv p) (pv q)))):=by
 obtain⟨k1,j1,hw,i1,i2⟩:=hp
 obtain⟨k2,j2,hu,i3,i4⟩:=hq
 exact Uu (hx1:=i1) (hy1:=i2) (hx2:=i3) (hy2:=i4) (by omega)
theorem Xc {p q:yE} {w u:Nat} (hp:Ps p w) (hq:Ps q u):Bq (x2 (pv p) (pv q)) (w+u+1):=by
 obtain⟨k1,j1,hw,i1,i2⟩:=hp
 obtain⟨k2,j2,hu,i3,i4⟩:=hq
 have:=i1.bq;have:=i2.bq;have:=i3.bq;have:=i4.bq
 show Bq ((pv p).1*(pv q).2-(pv p).2*(pv q).1) _
 exact uU (k:=k1+j2+(j1+k2)+1) (bq_sub (hp:=bq_mul (hp:=i1.bq) (hq:=i4.bq)) (hq:=bq_mul (hp:=i2.bq) (hq:=i3.bq))) (by omega)
theorem atS {p q:yE} {t:Rat} {w u k:Nat} (hp:Ps p w) (hq:Ps q u) (ht:Bq t k) (hs:128*(w+u+2*k)+6000≤131072):zp Tryz.prog G 180 [zl (pc p),zl (pc q),zl (zR t)] (zl (pc (uV (atP (pv p) (pv q) t)))):=by
 obtain⟨k1,j1,hw,i1,i2⟩:=hp
 obtain⟨k2,j2,hu,i3,i4⟩:=hq
 exact ziD (hx1:=i1) (hy1:=i2) (hx2:=i3) (hy2:=i4) (ht:=isQ_can (h:=ht)) (by omega)
theorem zpQ {p q:yE} {t:Rat} {w u k:Nat} (hp:Ps p w) (hq:Ps q u) (ht:Bq t k):Ps (uV (atP (pv p) (pv q) t)) (2*w+u+2*k+4):=by
 obtain⟨k1,j1,hw,i1,i2⟩:=hp
 obtain⟨k2,j2,hu,i3,i4⟩:=hq
 exact Jk (zhI (v:=atP (pv p) (pv q) t) (bq_add (hp:=i1.bq) (hq:=bq_mul (hp:=bq_sub (hp:=i3.bq) (hq:=i1.bq)) (hq:=ht))) (bq_add (hp:=i2.bq) (hq:=bq_mul (hp:=bq_sub (hp:=i4.bq) (hq:=i2.bq)) (hq:=ht)))) (by omega)
theorem zmp {q:Rat}:ue q 0≤0↔q≤0:=by unfold ue;split <;> (try split) <;> constructor <;> intro h <;> first | grind | (exfalso;grind)
theorem zrz {a b c d:yE} {w g:Nat} (ha:Ps a w) (hb:Ps b w) (hc:Ps c w) (hd:Ps d w) (hg:g<4):∃ x,[a,b,c,d][g]? =some x∧Ps x w∧[pv a,pv b,pv c,pv d][g]? =some (pv x):=by
 match g,hg with
 | 0,_=>exact⟨a,rfl,ha,rfl⟩
 | 1,_=>exact⟨b,rfl,hb,rfl⟩
 | 2,_=>exact⟨c,rfl,hc,rfl⟩
 | 3,_=>exact⟨d,rfl,hd,rfl⟩
theorem zog {a b c d:yE} {w g:Nat} (ha:Ps a w) (hb:Ps b w) (hc:Ps c w) (hd:Ps d w):∀ y∈Ym (pv a) (pv b) (pv c) (pv d) g,Ps (uV y) w:=fun y hy=>by
 have:=List.mem_of_mem_take (((zcr ..).2 y).1 hy).1
 simp only [List.mem_cons,List.not_mem_nil,or_false] at this
 rcases this with rfl | rfl | rfl | rfl <;> apply zpP <;> assumption
theorem zrA {p q:yE} {w u:Nat} (hp:Ps p w) (hq:Ps q u) (hs:64*(w+u)+5000≤131072):zp Tryz.prog G 181 [zl (pc p),zl (pc q)] (zl (zR ((pv p).1*(pv q).1+(pv p).2*(pv q).2))):=by
 obtain⟨k1,j1,hw,i1,i2⟩:=hp
 obtain⟨k2,j2,hu,i3,i4⟩:=hq
 exact zfB (hx1:=i1) (hy1:=i2) (hx2:=i3) (hy2:=i4) (by omega)
theorem zoh {p q:yE} {w u:Nat} (hp:Ps p w) (hq:Ps q u):Bq ((pv p).1*(pv q).1+(pv p).2*(pv q).2) (w+u+1):=by
 obtain⟨k1,j1,hw,i1,i2⟩:=hp
 obtain⟨k2,j2,hu,i3,i4⟩:=hq
 exact uU (k:=k1+k2+(j1+j2)+1) (bq_add (hp:=bq_mul (hp:=i1.bq) (hq:=i3.bq)) (hq:=bq_mul (hp:=i2.bq) (hq:=i4.bq))) (by omega)
theorem zrB {p q:yE} {w u:Nat} (hp:Ps p w) (hq:Ps q u) (hs:64*(w+u)+5000≤131072):zp Tryz.prog G 81 [zl (pc p),zl (pc q)] (intS .i64 (vM (pv p) (pv q))):=by
 obtain⟨k1,j1,hw,i1,i2⟩:=hp
 obtain⟨k2,j2,hu,i3,i4⟩:=hq
 exact KU (hx1:=i1) (hy1:=i2) (hx2:=i3) (hy2:=i4) (by omega)
theorem zoJ {p q:yE} {w u:Nat} (hp:Ps p w) (hq:Ps q u) (hs:64*(w+u)+5000≤131072):zp Tryz.prog G 59 [zl (pc p),zl (pc q)] (zm (decide (pv p=pv q))):=by
 obtain⟨k1,j1,hw,i1,i2⟩:=hp
 obtain⟨k2,j2,hu,i3,i4⟩:=hq
 have h:zp Tryz.prog G 59 [zl (pc p),zl (pc q)] (zm (decide ((pv p).1=(pv q).1∧(pv p).2=(pv q).2))):=zdy (hx1:=i1) (hy1:=i2) (hx2:=i3) (hy2:=i4) (by omega)
 rw [decide_eq_decide.2 (show (pv p=pv q↔(pv p).1=(pv q).1∧(pv p).2=(pv q).2) from Prod.ext_iff)]
 exact h
theorem zoK {p:yE} {w:Nat} (hp:Ps p w) (hw:64*w+2000≤131072):zp Tryz.prog G 20 [zU 6 id [pc p]] (zU 6 yy [pv p]):=by
 obtain⟨k1,j1,hw1,i1,i2⟩:=hp
 have h:=Yy (G:=G) (xs:=[p]) (k:=max k1 j1) (by have:=i1.pos;omega) (fun q hq=>by
  rw [List.mem_singleton.1 hq]
  exact⟨⟨i1.lim,i1.limd,by have:=i1.len;omega,by have:=i1.lend;omega⟩,i2.lim,i2.limd,by have:=i2.len;omega,by have:=i2.lend;omega⟩) (by omega) (show 1≤cap by decide)
 exact h.args ⟨fun I v h=>sl_map (f:=pc) (l:=[p]) h,trivial⟩
theorem UQ {a b p:yE} {w u v:Nat} (ha:Ps a w) (hb:Ps b u) (hp:Ps p v) (hs:64*(2*w+u+2*v+5)+5000≤131072):zp Tryz.prog G 124 [zl (pc a),zl (pc b),zl (pc p)] (zm (onD (pv a) (pv b) (pv p))):=by
 have c1:=ZK hb ha
 have c2:=ZK hp ha
 have c3:=ZK hp hb
 have c4:=Xc c1 c2
 have c5:=zoh c2 c3
 rw [wW,wW] at c4 c5
 have c4:Bq (cr (pv a) (pv b) (pv p)) _:=c4
 have c5:Bq (dt (pv a) (pv b) (pv p)) _:=c5
 refine zs Tryz.func124 ?_;refine zr ?_;(iterate 4 refine zz ?_);refine zJ ?_;refine zh ?_;refine zS 9 (by kernel_rfl) ?_;refine zg ?_;refine zo (ze rfl rfl (zgr hb ha (by omega))) ?_;refine zg ?_;refine zo (ze rfl rfl (zgr hp ha (by omega))) ?_;refine zo (ze rfl rfl (show zp _ _ _ _ (zl (zR (cr (pv a) (pv b) (pv p)))) from by have h:=zgs (G:=G) c1 c2 (by omega);rw [wW,wW] at h;exact h)) ?_;refine zo (ze rfl rfl (show zp _ _ _ _ (intS .i64 (ue (cr (pv a) (pv b) (pv p)) 0)) from Wv (by omega))) ?_;refine zg ?_;refine zd (fun _ k15=>?_) fun _ k15=>?_
 ·have e0:¬ cr (pv a) (pv b) (pv p)=0:=fun e=>k15 (by rw [e];rfl)
  refine zg ?_
  exact zj (zu (e:=by unfold onD;rw [decide_eq_false e0];rfl))
 ·have e0:cr (pv a) (pv b) (pv p)=0:=Ww.1 k15
  refine zE ?_;refine zS 10 (by kernel_rfl) ?_;refine zg ?_;refine zo (ze rfl rfl (zgr hp ha (by omega))) ?_;refine zg ?_;refine zo (ze rfl rfl (zgr hp hb (by omega))) ?_;refine zo (ze rfl rfl (show zp _ _ _ _ (zl (zR (dt (pv a) (pv b) (pv p)))) from by have h:=zrA (G:=G) c2 c3 (by omega);rw [wW,wW] at h;exact h)) ?_;refine zo (ze rfl rfl (show zp _ _ _ _ (intS .i64 (ue (dt (pv a) (pv b) (pv p)) 0)) from Wv (by omega))) ?_;refine zg ?_
  exact zj (zu (e:=by unfold onD;rw [decide_eq_true e0,Bool.true_and];exact congrArg zm (decide_eq_decide.2 zmp)))
theorem zjK {l:List V2} {p:yE} {w:Nat} (hl:∀ x∈l,Ps (uV x) w) (hp:Ps p w) (hs:128*w+5000≤131072) (hn:l.length≤1000):zp Tryz.prog G 178 [zU 6 yy l,zl (pc p)] (zU 6 yy (Vo l (pv p))):=by
 refine zs Tryz.func178 ?_;refine zr ?_;(iterate 2 refine zz ?_);refine zx ?_;refine zz ?_;refine zJ ?_;refine zh ?_;refine zQ ?_
 refine yK (γ:=Nat) (fun k=>⟨_,[(5,intS .i64 (k:Nat)),(3,zT (pc p)),(0,zU 6 yy l)],[],[],(0,false)⟩) (fun k=>k≤l.length∧∀ x∈l.take k,vM x (pv p)<0) (fun k=>l.length-k) 0 ⟨Nat.zero_le _,fun x hx=>by simp at hx⟩ (yo (zb rfl (zb rfl (zb rfl (trivial))))) ?_
 rintro k ⟨hk,hlo⟩
 refine zh ?_;refine zS 13 (by kernel_rfl) ?_;(iterate 3 refine zz ?_)
 refine Run.oneB (zZ rfl rfl rfl rfl) rfl rfl rfl (fun h2_3=>?_) (fun h2_3=>?_)
 ·have k2_3:=of_decide_eq_true h2_3
  have hkl:k<l.length:=by omega
  obtain⟨x,hx⟩:∃ x,l[k]? =some x:=⟨_,List.getElem?_eq_getElem hkl⟩
  have ox:=hl x (List.mem_of_getElem? hx)
  refine zg ?_;refine zo (zi rfl rfl rfl (by omega) (y:=x) (hx)) ?_;refine zg ?_;refine zo (ze rfl rfl (show zp _ _ _ _ (intS .i64 (vM x (pv p))) from by have h:=zrB (G:=G) ox hp (by omega);rw [wW] at h;exact h)) ?_;refine zg ?_;refine zd (fun _ k19=>?_) fun _ k19=>?_
  ·refine zg ?_;refine za ((k+1:Nat):Int) ?_;refine zg ?_
   exact⟨k+1,⟨by omega,fun y hy=>by
    rw [List.take_add_one,hx] at hy
    rcases List.mem_append.1 hy with hy | hy
    ·exact hlo y hy
    ·simp at hy;subst hy;omega⟩,by omega,yo zk⟩
  ·have hlow:k=XP l (pv p):=zml hk hlo fun y hy=>by rw [hx] at hy;cases hy;omega
   refine zI ?_;refine zh ?_;refine zS 12 (by kernel_rfl) ?_;(iterate 3 refine zz ?_);refine zo ((zZ rfl rfl rfl rfl).sub (yx (c:=true) (decide_eq_true (by omega)))) ?_;refine zg ?_;refine zo (zi rfl rfl rfl (by omega) (y:=x) (hx)) ?_;refine zg ?_;refine zo (ze rfl rfl (show zp _ _ _ _ (zm (decide (x=pv p))) from by have h:=zoJ (G:=G) ox hp (by omega);rw [wW] at h;exact h)) ?_;refine zg ?_;refine wE (fun h33=>?_) fun h33=>?_
   ·refine zg ?_
    exact zj (zu (e:=by rw [zob hlow hx (of_decide_eq_true h33)]))
   ·have hmiss:Vo l (pv p)=l.take k++[pv p]++l.drop k:=zek hlow fun y hy=>by rw [hx] at hy;cases hy;exact of_decide_eq_false h33
    refine zg ?_;refine Run.buildRow rfl rfl rfl rfl rfl rfl (by decide) rfl (.inl rfl) rfl rfl fun b35 hb35=>?_;refine zg ?_;refine zo ((xX (lo:=0) (hi:=k) (m:=0) rfl rfl (.inl ⟨rfl,rfl⟩) (.inr ⟨_,_,rfl,rfl⟩) (.inl rfl) (by omega) (by omega)).sub (show ∀I v,(zU 6 yy ((l.take k).drop 0)).den I v→(zU 6 yy (l.take k)).den I v from fun I v h=>by rw [List.drop_zero] at h;exact h)) ?_;refine Run.append 0 rfl rfl rfl rfl rfl rfl rfl rfl hb35 rfl (fun z hz=>rfl) (by unfold yP;simp;omega) (by unfold yP;simp;omega) fun q39 hq39=>?_;refine zg ?_;refine zaw [0,1,2,3,5,6,7,4,8,9] 9 [7,8] _ (by kernel_rfl) (by kernel_rfl) (.cons _ .slnil) ?_;refine RunE.one (zG rfl rfl) rfl rfl rfl (by kernel_rfl) ?_;refine RunE.one ((show OpOK _ _ _ _ _ (zl (pc (p))) from zF rfl rfl rfl rfl)) rfl rfl rfl (by kernel_rfl) ?_;refine RunE.one (zB rfl rfl (by decide) rfl (by simp) (by kernel_rfl) (by kernel_rfl)) rfl rfl rfl (by kernel_rfl) ?_;refine RunE.one (ze rfl rfl (zoK hp (by omega))) rfl rfl rfl (by kernel_rfl) ?_;(iterate 2 refine RunE.lat (zG rfl rfl) rfl rfl rfl ?_);refine RunE.lat ((xX (lo:=k) (hi:=l.length) (m:=0) rfl rfl (.inr ⟨_,_,rfl,rfl⟩) (.inl ⟨rfl,rfl,rfl⟩) (.inl rfl) (by omega) (by omega)).sub (show ∀I v,(zU 6 yy ((l.take l.length).drop k)).den I v→(zU 6 yy (l.drop k)).den I v from fun I v h=>by rw [List.take_length] at h;exact h)) rfl rfl rfl ?_
    refine RunE.nil ⟨_,rfl,?_⟩
    refine EffM.append 0 rfl rfl rfl rfl rfl rfl rfl hq39 (by show (List.flatMap yy (l.take k)).length=_;rw [vO,Nat.zero_add]) (fun z hz=>rfl) (by unfold yP;simp;omega) (by unfold yP;simp;omega) fun q44 hq44=>⟨(.cons _ .slnil),?_⟩
    refine RunE.nil ⟨_,rfl,?_⟩
    refine EffM.append 0 rfl rfl rfl rfl rfl rfl rfl hq44 (by show (List.flatMap yy (l.take k)++[pv p].flatMap yy).length=_;rw [←List.flatMap_append,vO,List.length_append,Nat.zero_add]) (fun z hz=>rfl) (by unfold yP;simp;omega) (by unfold yP;simp;omega) fun q48 hq48=>⟨(.cons _ .slnil),?_⟩
    refine RunE.nil ?_;refine Run.ghost _ rfl (yU 0 48 rfl rfl hq48 (l:=Vo l (pv p)) (f:=yy) (by rw [hmiss,List.length_append,List.length_append,Nat.zero_add]) (by rw [hmiss];simp [List.flatMap_append]) (fun _ _=>rfl) (by rw [List.length_take,List.length_drop,List.length_singleton];unfold yP;omega)) ?_;refine zg ?_
    exact zj zt
 ·have k2_3:=of_decide_eq_false h2_3
  have hke:k=l.length:=by omega
  have hlow:k=XP l (pv p):=zml hk hlo fun x hx=>by rw [hke,List.getElem?_eq_none (Nat.le_refl _)] at hx;cases hx
  have hmiss:Vo l (pv p)=l.take k++[pv p]++l.drop k:=zek hlow fun x hx=>by rw [hke,List.getElem?_eq_none (Nat.le_refl _)] at hx;cases hx
  refine zg ?_;refine yM rfl rfl ?_;refine zI ?_;refine zh ?_;refine zS 12 (by kernel_rfl) ?_;(iterate 3 refine zz ?_);refine zo ((zZ rfl rfl rfl rfl).sub (yx (c:=false) (decide_eq_false (by omega)))) ?_;refine zg ?_;refine yM rfl rfl ?_;refine zg ?_;refine Run.buildRow rfl rfl rfl rfl rfl rfl (by decide) rfl (.inl rfl) rfl rfl fun b35 hb35=>?_;refine zg ?_;refine zo ((xX (lo:=0) (hi:=k) (m:=0) rfl rfl (.inl ⟨rfl,rfl⟩) (.inr ⟨_,_,rfl,rfl⟩) (.inl rfl) (by omega) (by omega)).sub (show ∀I v,(zU 6 yy ((l.take k).drop 0)).den I v→(zU 6 yy (l.take k)).den I v from fun I v h=>by rw [List.drop_zero] at h;exact h)) ?_;refine Run.append 0 rfl rfl rfl rfl rfl rfl rfl rfl hb35 rfl (fun z hz=>rfl) (by unfold yP;simp;omega) (by unfold yP;simp;omega) fun q39 hq39=>?_;refine zg ?_;refine zaw [0,1,2,3,5,6,7,4,8,9] 9 [7,8] _ (by kernel_rfl) (by kernel_rfl) (.cons _ .slnil) ?_;refine RunE.one (zG rfl rfl) rfl rfl rfl (by kernel_rfl) ?_;refine RunE.one ((show OpOK _ _ _ _ _ (zl (pc (p))) from zF rfl rfl rfl rfl)) rfl rfl rfl (by kernel_rfl) ?_;refine RunE.one (zB rfl rfl (by decide) rfl (by simp) (by kernel_rfl) (by kernel_rfl)) rfl rfl rfl (by kernel_rfl) ?_;refine RunE.one (ze rfl rfl (zoK hp (by omega))) rfl rfl rfl (by kernel_rfl) ?_;(iterate 2 refine RunE.lat (zG rfl rfl) rfl rfl rfl ?_);refine RunE.lat ((xX (lo:=k) (hi:=l.length) (m:=0) rfl rfl (.inr ⟨_,_,rfl,rfl⟩) (.inl ⟨rfl,rfl,rfl⟩) (.inl rfl) (by omega) (by omega)).sub (show ∀I v,(zU 6 yy ((l.take l.length).drop k)).den I v→(zU 6 yy (l.drop k)).den I v from fun I v h=>by rw [List.take_length] at h;exact h)) rfl rfl rfl ?_
  refine RunE.nil ⟨_,rfl,?_⟩
  refine EffM.append 0 rfl rfl rfl rfl rfl rfl rfl hq39 (by show (List.flatMap yy (l.take k)).length=_;rw [vO,Nat.zero_add]) (fun z hz=>rfl) (by unfold yP;simp;omega) (by unfold yP;simp;omega) fun q44 hq44=>⟨(.cons _ .slnil),?_⟩
  refine RunE.nil ⟨_,rfl,?_⟩
  refine EffM.append 0 rfl rfl rfl rfl rfl rfl rfl hq44 (by show (List.flatMap yy (l.take k)++[pv p].flatMap yy).length=_;rw [←List.flatMap_append,vO,List.length_append,Nat.zero_add]) (fun z hz=>rfl) (by unfold yP;simp;omega) (by unfold yP;simp;omega) fun q48 hq48=>⟨(.cons _ .slnil),?_⟩
  refine RunE.nil ?_;refine Run.ghost _ rfl (yU 0 48 rfl rfl hq48 (l:=Vo l (pv p)) (f:=yy) (by rw [hmiss,List.length_append,List.length_append,Nat.zero_add]) (by rw [hmiss];simp [List.flatMap_append]) (fun _ _=>rfl) (by rw [List.length_take,List.length_drop,List.length_singleton];unfold yP;omega)) ?_;refine zg ?_
  exact zj zt
theorem zgt {a b c d:yE} {w:Nat} (ha:Ps a w) (hb:Ps b w) (hc:Ps c w) (hd:Ps d w) (hs:64*(5*w+5)+5000≤131072):zp Tryz.prog G 122 [zl (pc a),zl (pc b),zl (pc c),zl (pc d)] (zU 6 yy (xD (pv a) (pv b) (pv c) (pv d))):=by
 refine zs Tryz.func122 ?_;refine zr ?_;(iterate 5 refine zz ?_);refine zx ?_;refine zo ((yS rfl rfl).sub (show ∀I v,(eqS (.slice none 0 0)).den I v→(zU 6 yy (Ym (pv a) (pv b) (pv c) (pv d) 0)).den I v from fun I v h=>by cases h;exact Wi)) ?_;refine zg ?_;refine zo (zB rfl rfl (by decide) rfl (by simp) (by kernel_rfl) (by kernel_rfl)) ?_;refine zz ?_;refine zJ ?_;refine zh ?_;refine zg ?_;refine yK (γ:=Nat) (fun g=>⟨_,[(11,intS .i64 (g:Nat)),(9,zU 6 yy (Ym (pv a) (pv b) (pv c) (pv d) g)),(10,zU 6 pc [a,b,c,d]),(7,zT (pc d)),(6,zT (pc c)),(5,zT (pc b)),(4,zT (pc a))],[],[],(0,false)⟩) (fun g=>g≤4) (fun g=>4-g) 0 (Nat.zero_le _) (yo (zb rfl (zb rfl ⟨⟨_,rfl,fun I v h=>sl_map (f:=pc) (l:=[a,b,c,d]) h⟩,zk⟩))) ?_
 intro g hg
 refine zh ?_;refine zg ?_;refine zd (fun _ k18=>?_) fun _ k18=>?_
 ·obtain⟨x,hx,ox,hv⟩:=zrz ha hb hc hd (show g<4 by omega)
  have hsc:=zbd hv
  refine zE ?_;refine zh ?_;refine zQ ?_;refine zS 16 (by kernel_rfl) ?_;refine zg ?_;refine zo (zi rfl rfl rfl (by omega) (y:=x) (hx)) ?_;refine zz ?_
  refine Run.oneB (ze rfl rfl (UQ ha hb ox (by omega))) rfl rfl rfl (fun h6_6=>?_) (fun h6_6=>?_)
  ·refine zg ?_;refine zo (zi rfl rfl rfl (by omega) (y:=x) (hx)) ?_;refine zz ?_;refine zo (ze rfl rfl (UQ hc hd ox (by omega))) ?_;refine zg ?_;refine wE (fun h36=>?_) fun h36=>?_
   ·refine zg ?_;refine zo (zi rfl rfl rfl (by omega) (y:=x) (hx)) ?_;refine zz ?_;refine zo (ze rfl rfl (zjK (zog ha hb hc hd) ox (by omega) (by have:=qP (pv a) (pv b) (pv c) (pv d) g;omega))) ?_;refine zg ?_;refine za ((g+1:Nat):Int) ?_;refine zg ?_
    exact⟨g+1,(by omega:g+1≤4),by omega,yo (zb rfl (xk rfl (by rw [hsc];unfold qO;rw [if_pos (by rw [h6_6,h36];rfl)]) (zb rfl (zb rfl (zb rfl (zb rfl (zb rfl (trivial))))))))⟩
   ·refine zg ?_;refine za ((g+1:Nat):Int) ?_;refine zg ?_
    exact⟨g+1,(by omega:g+1≤4),by omega,yo (zb rfl (xk rfl (by rw [hsc];unfold qO;rw [if_neg (by rw [h6_6,h36];decide)]) (zb rfl (zb rfl (zb rfl (zb rfl (zb rfl (trivial))))))))⟩
  ·refine zg ?_;refine yM rfl rfl ?_;refine zg ?_;refine za ((g+1:Nat):Int) ?_;refine zg ?_
   exact⟨g+1,(by omega:g+1≤4),by omega,yo (zb rfl (xk rfl (by rw [hsc];unfold qO;rw [if_neg (by rw [h6_6];simp)]) (zb rfl (zb rfl (zb rfl (zb rfl (zb rfl (trivial))))))))⟩
 ·obtain rfl:g=4:=by omega
  refine zI ?_;refine zg ?_
  exact zj zt
theorem zcs {a b c d:yE} {wa wb wc wd:Nat} (ha:Ps a wa) (hb:Ps b wb) (hc:Ps c wc) (hd:Ps d wd) (hs:128*(5*wa+3*wb+6*wc+4*wd+20)+6000≤131072):zp Tryz.prog G 123 [zl (pc a),zl (pc b),zl (pc c),zl (pc d)] (xn [zl (yy (if den (pv a) (pv b) (pv c) (pv d)=0 then (0,0) else Jq (pv a) (pv b) (pv c) (pv d))),zm (!decide (den (pv a) (pv b) (pv c) (pv d)=0))]):=by
 have c1:=ZK hb ha
 have c2:=ZK hd hc
 have c3:=ZK hc ha
 have c4:=Xc c1 c2
 have c5:=Xc c3 c2
 rw [wW,wW] at c4 c5
 have c4:Bq (den (pv a) (pv b) (pv c) (pv d)) _:=c4
 have c6:Bq (lnR (pv a) (pv b) (pv c) (pv d)) _:=bq_div (hp:=c5) (hq:=c4)
 refine zs Tryz.func123 ?_;refine zr ?_;(iterate 4 refine zz ?_);refine xg fun b8=>?_;refine zz ?_;refine zJ ?_;refine zc9 6 (by kernel_rfl) rfl rfl rfl rfl ?_;refine RunE.lat ((show OpOK _ _ _ _ _ (zl (pc (b))) from zF rfl rfl rfl rfl)) rfl rfl rfl ?_;refine RunE.lat ((show OpOK _ _ _ _ _ (zl (pc (a))) from zF rfl rfl rfl rfl)) rfl rfl rfl ?_;refine RunE.lat (ze rfl rfl (zgr hb ha (by omega))) rfl rfl rfl ?_;refine RunE.lat ((show OpOK _ _ _ _ _ (zl (pc (d))) from zF rfl rfl rfl rfl)) rfl rfl rfl ?_;refine RunE.lat ((show OpOK _ _ _ _ _ (zl (pc (c))) from zF rfl rfl rfl rfl)) rfl rfl rfl ?_;refine RunE.lat (ze rfl rfl (zgr hd hc (by omega))) rfl rfl rfl ?_;refine RunE.nil ?_
 refine⟨⟨_,_,_,_,_,_,_,_,(show 10≠11 by decide),NewB.mk1 rfl rfl rfl rfl rfl rfl rfl (by intro h;cases h) (by intro h;cases h) rfl rfl rfl,NewB.mk1 rfl rfl rfl rfl rfl rfl rfl (by intro h;cases h) (by intro h;cases h) rfl rfl rfl,fun b10 b11=>?_⟩⟩
 refine zx ?_;refine zo ((show OpOK _ _ _ _ _ (zl (pc (uV (VQ (pv b) (pv a))))) from zC 1 rfl rfl rfl (by kernel_rfl) rfl)) ?_;refine zo ((show OpOK _ _ _ _ _ (zl (pc (uV (VQ (pv d) (pv c))))) from zC 0 rfl rfl rfl (by kernel_rfl) rfl)) ?_;refine zo (ze rfl rfl (show zp _ _ _ _ (zl (zR (den (pv a) (pv b) (pv c) (pv d)))) from by have h:=zgs (G:=G) c1 c2 (by omega);rw [wW,wW] at h;exact h)) ?_;refine xg fun b12=>?_;refine zw ?_;refine zJ ?_;refine Yc 10 (by kernel_rfl) rfl rfl ?_;refine RunE.lat ((show OpOK _ _ _ _ _ (zl (pc (c))) from zF rfl rfl rfl rfl)) rfl rfl rfl ?_;refine RunE.lat ((show OpOK _ _ _ _ _ (zl (pc (a))) from zF rfl rfl rfl rfl)) rfl rfl rfl ?_;refine RunE.lat (ze rfl rfl (zgr hc ha (by omega))) rfl rfl rfl ?_;refine RunE.lat ((show OpOK _ _ _ _ _ (zl (pc (uV (VQ (pv d) (pv c))))) from zC 1 rfl rfl rfl (by kernel_rfl) rfl)) rfl rfl rfl ?_;refine RunE.lat (ze rfl rfl (show zp _ _ _ _ (zl (zR (x2 (VQ (pv c) (pv a)) (VQ (pv d) (pv c))))) from by have h:=zgs (G:=G) c3 c2 (by omega);rw [wW,wW] at h;exact h)) rfl rfl rfl ?_;refine RunE.lat ((show OpOK _ _ _ _ _ (zl (zR (den (pv a) (pv b) (pv c) (pv d)))) from zC 0 rfl rfl rfl (by kernel_rfl) rfl)) rfl rfl rfl ?_;refine RunE.lat (ze rfl rfl (show zp _ _ _ _ (xn [zl (zR (lnR (pv a) (pv b) (pv c) (pv d))),intS .i64 (if den (pv a) (pv b) (pv c) (pv d)=0 then 30 else 0)]) from zfy (hx:=isQ_can (h:=c5)) (hy:=isQ_can (h:=c4)) (by omega))) rfl rfl rfl ?_;refine RunE.lat (zG rfl rfl) rfl rfl rfl ?_;(iterate 2 refine RunE.lat (xo rfl rfl rfl) rfl rfl rfl ?_);refine RunE.nil ?_;refine EffAA.mk1 rfl rfl rfl rfl rfl rfl rfl rfl (by intro h;cases h) rfl rfl rfl fun b13=>?_;refine zz ?_;refine zJ ?_;refine zh ?_;refine zr ?_;(iterate 2 refine zz ?_);refine zJ ?_;refine wE (fun h35=>?_) fun h35=>?_
 ·have k35:=bne_iff_ne.1 h35
  have hd0:den (pv a) (pv b) (pv c) (pv d)=0:=Classical.byContradiction fun h=>k35 (if_neg h)
  refine zr ?_;refine zo (ze rfl rfl (YS (p:=0) (q:=0) (by decide) (by decide) (by decide) (by decide))) ?_;refine zw ?_;refine zz ?_;refine zJ ?_;refine zj ?_
  exact⟨_,[],.many (.cons (.agg 4 inferInstance rfl rfl rfl rfl) (.cons (.tmp rfl) (.nil))),List.nil_sublist _,by rw [if_pos hd0,decide_eq_true hd0];rfl,rfl⟩
 ·have k35:=bne_eq_false_iff_eq.1 h35
  have hd0:¬ den (pv a) (pv b) (pv c) (pv d)=0:=fun h=>by rw [if_pos h] at k35;exact absurd k35 (by decide)
  refine zE ?_;refine zr ?_;refine zo ((show OpOK _ _ _ _ _ (zl (pc (a))) from zF rfl rfl rfl rfl)) ?_;refine zo ((show OpOK _ _ _ _ _ (zl (pc (b))) from zF rfl rfl rfl rfl)) ?_;refine zo ((show OpOK _ _ _ _ _ (zl (zR (lnR (pv a) (pv b) (pv c) (pv d)))) from zC 0 rfl rfl rfl (by kernel_rfl) rfl)) ?_;refine zo (ze rfl rfl (show zp _ _ _ _ (zl (yy (Jq (pv a) (pv b) (pv c) (pv d)))) from atS ha hb c6 (by omega))) ?_;refine zw ?_;refine zz ?_;refine zJ ?_;refine zj ?_
  exact⟨_,[],.many (.cons (.agg 4 inferInstance rfl rfl rfl rfl) (.cons (.tmp rfl) (.nil))),List.nil_sublist _,by rw [if_neg hd0,decide_eq_false hd0];rfl,rfl⟩
theorem zgu {a b c d:yE} {wa wb wc wd w:Nat} (ha:Ps a wa) (hb:Ps b wb) (hc:Ps c wc) (hd:Ps d wd) (hw:wa≤w∧wb≤w∧wc≤w∧wd≤w) (hs:64*(5*w+5)+5000≤131072) (hs1:128*(5*wa+3*wb+6*wc+4*wd+20)+6000≤131072) (hs2:64*(14*wa+7*wb+12*wc+8*wd+60)+5000≤131072) (hs3:64*(12*wa+6*wb+14*wc+9*wd+60)+5000≤131072):zp Tryz.prog G 83 [zl (pc a),zl (pc b),zl (pc c),zl (pc d)] (zl (mtC (zgq (pv a) (pv b) (pv c) (pv d)))):=by
 refine zs Tryz.func83 ?_;refine zr ?_;(iterate 4 refine zz ?_);refine xg fun b8=>?_;refine zx ?_;refine zo ((show OpOK _ _ _ _ _ (zl (pc (a))) from zF rfl rfl rfl rfl)) ?_;refine zo ((show OpOK _ _ _ _ _ (zl (pc (b))) from zF rfl rfl rfl rfl)) ?_;refine zo ((show OpOK _ _ _ _ _ (zl (pc (c))) from zF rfl rfl rfl rfl)) ?_;refine zo ((show OpOK _ _ _ _ _ (zl (pc (d))) from zF rfl rfl rfl rfl)) ?_;refine zf (zgt (Jk ha hw.1) (Jk hb hw.2.1) (Jk hc hw.2.2.1) (Jk hd hw.2.2.2) hs) ?_;refine zz ?_;refine zJ ?_;refine zh ?_;refine zr ?_;(iterate 3 refine zz ?_);refine zJ ?_;refine wE (fun h19=>?_) fun h19=>?_
 ·have k19:=of_decide_eq_true h19
  have n2:2≤(xD (pv a) (pv b) (pv c) (pv d)).length:=by omega
  have n4:(xD (pv a) (pv b) (pv c) (pv d)).length≤4:=qP (pv a) (pv b) (pv c) (pv d) 4
  have g0:(xD (pv a) (pv b) (pv c) (pv d))[0]? =some ((xD (pv a) (pv b) (pv c) (pv d)).getD 0 (0,0)):=by rw [List.getD_eq_getElem?_getD,List.getElem?_eq_getElem (by omega)];rfl
  have g1:(xD (pv a) (pv b) (pv c) (pv d))[(xD (pv a) (pv b) (pv c) (pv d)).length-1]? =some ((xD (pv a) (pv b) (pv c) (pv d)).getD ((xD (pv a) (pv b) (pv c) (pv d)).length-1) (0,0)):=by rw [List.getD_eq_getElem?_getD,List.getElem?_eq_getElem (by omega)];rfl
  refine zS 10 (by kernel_rfl) ?_;refine zz ?_;refine zo (zi rfl rfl rfl (by omega) (y:=((xD (pv a) (pv b) (pv c) (pv d)).getD 0 (0,0))) (g0)) ?_;refine zo ((show OpOK _ _ _ _ _ (zl (yy ((xD (pv a) (pv b) (pv c) (pv d)).getD 0 (0,0)))) from zF rfl rfl rfl rfl)) ?_;(iterate 3 refine zz ?_);refine za (((xD (pv a) (pv b) (pv c) (pv d)).length-1:Nat):Int) ?_;refine zo (zi rfl rfl rfl (by omega) (y:=((xD (pv a) (pv b) (pv c) (pv d)).getD ((xD (pv a) (pv b) (pv c) (pv d)).length-1) (0,0))) (g1)) ?_;refine zo ((show OpOK _ _ _ _ _ (zl (yy ((xD (pv a) (pv b) (pv c) (pv d)).getD ((xD (pv a) (pv b) (pv c) (pv d)).length-1) (0,0)))) from zF rfl rfl rfl rfl)) ?_;refine zo ((show OpOK _ _ _ _ _ (zl (mtC (2,((xD (pv a) (pv b) (pv c) (pv d)).getD 0 (0,0)),((xD (pv a) (pv b) (pv c) (pv d)).getD ((xD (pv a) (pv b) (pv c) (pv d)).length-1) (0,0))))) from yW rfl rfl (by kernel_rfl))) ?_;refine zJ ?_;refine zw ?_;refine zJ ?_;refine zj ?_
  exact⟨_,[],.one (.agg 0 inferInstance rfl rfl rfl rfl),List.nil_sublist _,by unfold zgq;rw [if_pos n2];rfl,rfl⟩
 ·have k19:=of_decide_eq_false h19
  have n2:¬ 2≤(xD (pv a) (pv b) (pv c) (pv d)).length:=by omega
  refine zE ?_;refine zh ?_;refine zr ?_;(iterate 3 refine zz ?_);refine zJ ?_;refine wE (fun h32=>?_) fun h32=>?_
  ·have k32:=beq_iff_eq.1 h32
   have n1:(xD (pv a) (pv b) (pv c) (pv d)).length=1:=by omega
   have g0:(xD (pv a) (pv b) (pv c) (pv d))[0]? =some ((xD (pv a) (pv b) (pv c) (pv d)).getD 0 (0,0)):=by rw [List.getD_eq_getElem?_getD,List.getElem?_eq_getElem (by omega)];rfl
   refine zS 7 (by kernel_rfl) ?_;refine zz ?_;refine zo (zi rfl rfl rfl (by omega) (y:=((xD (pv a) (pv b) (pv c) (pv d)).getD 0 (0,0))) (g0)) ?_;refine zo ((show OpOK _ _ _ _ _ (zl (yy ((xD (pv a) (pv b) (pv c) (pv d)).getD 0 (0,0)))) from zF rfl rfl rfl rfl)) ?_;refine zz ?_;refine zo (zi rfl rfl rfl (by omega) (y:=((xD (pv a) (pv b) (pv c) (pv d)).getD 0 (0,0))) (g0)) ?_;refine zo ((show OpOK _ _ _ _ _ (zl (yy ((xD (pv a) (pv b) (pv c) (pv d)).getD 0 (0,0)))) from zF rfl rfl rfl rfl)) ?_;refine zo ((show OpOK _ _ _ _ _ (zl (mtC (1,((xD (pv a) (pv b) (pv c) (pv d)).getD 0 (0,0)),((xD (pv a) (pv b) (pv c) (pv d)).getD 0 (0,0))))) from yW rfl rfl (by kernel_rfl))) ?_;refine zJ ?_;refine zw ?_;refine zJ ?_;refine zj ?_
   exact⟨_,[],.one (.agg 0 inferInstance rfl rfl rfl rfl),List.nil_sublist _,by unfold zgq;rw [if_neg n2,if_pos n1];rfl,rfl⟩
  ·have k32:=beq_eq_false_iff_ne.1 h32
   have n1:¬ (xD (pv a) (pv b) (pv c) (pv d)).length=1:=by omega
   obtain⟨P,hP⟩:∃ P,P=(if den (pv a) (pv b) (pv c) (pv d)=0 then (0,0) else Jq (pv a) (pv b) (pv c) (pv d)):=⟨_,rfl⟩
   have e2:=zmo hP n2 n1
   have hln:=zcs (G:=G) ha hb hc hd hs1
   rw [←hP] at hln
   have c1:=ZK hb ha
   have c2:=ZK hd hc
   have c3:=ZK hc ha
   have c4:=Xc c1 c2
   have c5:=Xc c3 c2
   rw [wW,wW] at c4 c5
   have c4:Bq (den (pv a) (pv b) (pv c) (pv d)) _:=c4
   have c6:Bq (lnR (pv a) (pv b) (pv c) (pv d)) _:=bq_div (hp:=c5) (hq:=c4)
   have oP:Ps (uV P) (6*wa+3*wb+6*wc+4*wd+24):=by
    rw [hP];split
    ·exact Jk (zhI bq_zero bq_zero) (by omega)
    ·exact Jk (zpQ ha hb c6) (by omega)
   refine zE ?_;refine zr ?_;refine zo ((show OpOK _ _ _ _ _ (zl (pc (a))) from zF rfl rfl rfl rfl)) ?_;refine zo ((show OpOK _ _ _ _ _ (zl (pc (b))) from zF rfl rfl rfl rfl)) ?_;refine zo ((show OpOK _ _ _ _ _ (zl (pc (c))) from zF rfl rfl rfl rfl)) ?_;refine zo ((show OpOK _ _ _ _ _ (zl (pc (d))) from zF rfl rfl rfl rfl)) ?_;refine zf hln ?_;(iterate 3 refine zz ?_);refine xg fun b10=>?_;refine zw ?_;refine zz ?_;refine zJ ?_;refine zh ?_;refine zr ?_
   refine Run.oneB (zG rfl rfl) rfl rfl rfl (fun h7_0=>?_) (fun h7_0=>?_)
   ·refine zz ?_;refine zo ((show OpOK _ _ _ _ _ (zl (pc (a))) from zF rfl rfl rfl rfl)) ?_;refine zo ((show OpOK _ _ _ _ _ (zl (pc (b))) from zF rfl rfl rfl rfl)) ?_;refine zo ((show OpOK _ _ _ _ _ (zl (pc (uV P))) from zC 0 rfl rfl rfl (by kernel_rfl) rfl)) ?_;refine zo (ze rfl rfl (show zp _ _ _ _ (zm (onD (pv a) (pv b) P)) from by have h:=UQ (G:=G) ha hb oP (by omega);rw [wW] at h;exact h)) ?_
    refine Run.oneB (wg rfl rfl rfl) rfl rfl rfl (fun h7_6=>?_) (fun h7_6=>?_)
    ·refine zz ?_;refine zo ((show OpOK _ _ _ _ _ (zl (pc (c))) from zF rfl rfl rfl rfl)) ?_;refine zo ((show OpOK _ _ _ _ _ (zl (pc (d))) from zF rfl rfl rfl rfl)) ?_;refine zo ((show OpOK _ _ _ _ _ (zl (pc (uV P))) from zC 0 rfl rfl rfl (by kernel_rfl) rfl)) ?_;refine zo (ze rfl rfl (show zp _ _ _ _ (zm (onD (pv c) (pv d) P)) from by have h:=UQ (G:=G) hc hd oP (by omega);rw [wW] at h;exact h)) ?_;refine zz ?_;refine zJ ?_;refine wE (fun h60=>?_) fun h60=>?_
     ·refine zr ?_;(iterate 2 refine zo ((show OpOK _ _ _ _ _ (zl (yy P)) from zC 0 rfl rfl rfl (by kernel_rfl) rfl)) ?_);refine zo ((show OpOK _ _ _ _ _ (zl (mtC (1,P,P))) from yW rfl rfl (by kernel_rfl))) ?_;refine zw ?_;refine zJ ?_;refine zj ?_
      exact⟨_,[],.one (.agg 1 inferInstance rfl rfl rfl rfl),List.nil_sublist _,by rw [e2,if_pos (by rw [h7_0,h7_6,h60];rfl)];rfl,rfl⟩
     ·refine zE ?_;refine zr ?_;(iterate 2 refine zo (ze rfl rfl (YS (p:=0) (q:=0) (by decide) (by decide) (by decide) (by decide))) ?_);refine zo ((show OpOK _ _ _ _ _ (zl (mtC qn)) from yW rfl rfl (by kernel_rfl))) ?_;refine zw ?_;refine zJ ?_;refine zj ?_
      exact⟨_,[],.one (.agg 1 inferInstance rfl rfl rfl rfl),List.nil_sublist _,by rw [e2,if_neg (by rw [h7_0,h7_6,h60];decide)];rfl,rfl⟩
    ·refine zz ?_;(iterate 4 refine zq ?_);refine zz ?_;refine zJ ?_;refine yM rfl rfl ?_;refine zE ?_;refine zr ?_;(iterate 2 refine zo (ze rfl rfl (YS (p:=0) (q:=0) (by decide) (by decide) (by decide) (by decide))) ?_);refine zo ((show OpOK _ _ _ _ _ (zl (mtC qn)) from yW rfl rfl (by kernel_rfl))) ?_;refine zw ?_;refine zJ ?_;refine zj ?_
     exact⟨_,[],.one (.agg 1 inferInstance rfl rfl rfl rfl),List.nil_sublist _,by rw [e2,if_neg (by rw [h7_0,h7_6];simp)];rfl,rfl⟩
   ·refine zz ?_;(iterate 4 refine zq ?_);(iterate 2 refine zz ?_);(iterate 4 refine zq ?_);refine zz ?_;refine zJ ?_;refine yM rfl rfl ?_;refine zE ?_;refine zr ?_;(iterate 2 refine zo (ze rfl rfl (YS (p:=0) (q:=0) (by decide) (by decide) (by decide) (by decide))) ?_);refine zo ((show OpOK _ _ _ _ _ (zl (mtC qn)) from yW rfl rfl (by kernel_rfl))) ?_;refine zw ?_;refine zJ ?_;refine zj ?_
    exact⟨_,[],.one (.agg 1 inferInstance rfl rfl rfl rfl),List.nil_sublist _,by rw [e2,if_neg (by rw [h7_0];simp)];rfl,rfl⟩
end Go.Proofs
namespace Num
open Go Go.Lib Go.Proofs
end Num
namespace Go.Proofs
open Go Go.Sv Num
variable {G:Imm}
end Go.Proofs
namespace Num
open Go Go.Lib Go.Proofs
end Num
namespace Go.Proofs
open Go Go.Sv Num
variable {G:Imm}
end Go.Proofs
