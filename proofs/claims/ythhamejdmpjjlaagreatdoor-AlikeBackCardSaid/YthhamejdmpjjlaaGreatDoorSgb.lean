/- Polygons: which are simple, by each two of their edges; begun elsewhere, turned about, moved; plain facts. -/
import Derived.Test.YthhamejdmpjjlaaGreatDoorScg
import Derived.Test.YthhamejdmpjjlaaGreatDoorSsd
namespace Num
open Go Go.Proofs
def ZR (l:List V2) (i:Nat):V2:=l.getD (i%l.length) (0,0)
def Wx (n i j:Nat):Int:=if j=i+1∨(i=0∧j+1=n) then 1 else 0
def prs (n:Nat):List (Nat×Nat):=(List.range n).flatMap fun i=>((List.range n).filter fun j=>decide (i<j)).map fun j=>(i,j)
def Qu (l:List V2) (x:Nat×Nat):Bool:= !decide (ZR l x.1=ZR l x.2)&&decide (UU (ZR l x.1) (ZR l (x.1+1)) (ZR l x.2) (ZR l (x.2+1))=Wx l.length x.1 x.2)
def vN (l:List V2):Bool:=decide (3≤l.length)&&(prs l.length).all (Qu l)
theorem XG {n i j:Nat}:(i,j)∈prs n↔i<j∧j<n:=by
 unfold prs
 simp only [List.mem_flatMap,List.mem_map,List.mem_filter,List.mem_range,decide_eq_true_eq,Prod.mk.injEq]
 constructor
 ·rintro⟨a,_,b,⟨hb,hab⟩,rfl,rfl⟩;exact⟨hab,hb⟩
 ·rintro⟨h1,h2⟩;exact⟨i,by omega,j,⟨h2,h1⟩,rfl,rfl⟩
def adj (n i j:Nat):Prop:=(i+1)%n=j%n∨(j+1)%n=i%n
instance (n i j:Nat):Decidable (adj n i j):=inferInstanceAs (Decidable (_∨_))
def Sim (n:Nat) (c:Nat→V2):Prop:=3≤n∧∀ i j,i%n≠j%n→c i≠c j∧UU (c i) (c (i+1)) (c j) (c (j+1))=if adj n i j then 1 else 0
def Per (n:Nat) (c:Nat→V2):Prop:=∀ i,c (i%n)=c i
theorem uz (l:List V2):Per l.length (ZR l):=fun i=>by unfold ZR;rw [Nat.mod_mod]
theorem Wy {n:Nat} {c:Nat→V2} (h:Per n c) (i:Nat):c (i%n+1)=c (i+1):=by rw [←h (i%n+1),Nat.mod_add_mod,h]
theorem UF {n i:Nat} (hn:0<n):(i+1)%n=if i%n+1=n then 0 else i%n+1:=by
 rw [←Nat.mod_add_mod]
 have:=Nat.mod_lt i hn
 split
 ·rename_i h;rw [h,Nat.mod_self]
 ·exact Nat.mod_eq_of_lt (by omega)
theorem zdH {n i j:Nat}:adj n i j↔adj n j i:=Or.comm
theorem zlu {n i j:Nat} (hi:i<j) (hj:j<n):Wx n i j=if adj n i j then 1 else 0:=by
 have ha:adj n i j↔(j=i+1∨(i=0∧j+1=n)):=by
  unfold adj
  rw [UF (show 0<n by omega),UF (show 0<n by omega),Nat.mod_eq_of_lt hj,Nat.mod_eq_of_lt (show i<n by omega),if_neg (show ¬i+1=n by omega)]
  by_cases h:j+1=n
  ·rw [if_pos h];omega
  ·rw [if_neg h];omega
 unfold Wx
 by_cases h1:j=i+1∨(i=0∧j+1=n)
 ·rw [if_pos h1,if_pos (ha.2 h1)]
 ·rw [if_neg h1,if_neg (fun x=>h1 (ha.1 x))]
theorem XH {l:List V2}:vN l=true↔Sim l.length (ZR l):=by
 unfold vN Sim
 rw [Bool.and_eq_true,decide_eq_true_iff,List.all_eq_true]
 have key:∀ i j,i<j→j<l.length→(Qu l (i,j)=true↔ZR l i≠ZR l j∧UU (ZR l i) (ZR l (i+1)) (ZR l j) (ZR l (j+1))=if adj l.length i j then 1 else 0):=fun i j h1 h2=>by
  unfold Qu
  rw [Bool.and_eq_true,Bool.not_eq_true',decide_eq_false_iff_not,decide_eq_true_iff,zlu h1 h2]
 constructor
 ·rintro⟨hn,h⟩
  refine⟨hn,fun i j hij=>?_⟩
  have hi:=Nat.mod_lt i (show 0<l.length by omega)
  have hj:=Nat.mod_lt j (show 0<l.length by omega)
  have hp:=uz l
  have ad:∀ a b,adj l.length (a%l.length) (b%l.length)↔adj l.length a b:=fun a b=>by unfold adj;rw [Nat.mod_add_mod,Nat.mod_add_mod,Nat.mod_mod,Nat.mod_mod]
  rcases Nat.lt_or_gt_of_ne hij with hlt | hlt
  ·have:=(key _ _ hlt hj).1 (h _ (XG.2 ⟨hlt,hj⟩))
   rw [hp,hp,Wy hp,Wy hp] at this
   refine⟨this.1,this.2.trans ?_⟩
   by_cases e:adj l.length i j
   ·rw [if_pos e,if_pos ((ad i j).2 e)]
   ·rw [if_neg e,if_neg (fun x=>e ((ad i j).1 x))]
  ·have:=(key _ _ hlt hi).1 (h _ (XG.2 ⟨hlt,hi⟩))
   rw [hp,hp,Wy hp,Wy hp] at this
   refine⟨fun e=>this.1 e.symm,(zlr ..).symm.trans (this.2.trans ?_)⟩
   by_cases e:adj l.length i j
   ·rw [if_pos e,if_pos ((ad j i).2 (zdH.1 e))]
   ·rw [if_neg e,if_neg (fun x=>e (zdH.1 ((ad j i).1 x)))]
 ·rintro⟨hn,h⟩
  refine⟨hn,fun⟨i,j⟩ hx=>?_⟩
  obtain⟨h1,h2⟩:=XG.1 hx
  refine (key i j h1 h2).2 (h i j ?_)
  rw [Nat.mod_eq_of_lt (show i<l.length by omega),Nat.mod_eq_of_lt h2];omega
theorem zg4 {n a b:Nat}:a%n=b%n↔∃ u v,a+n*u=b+n*v:=by
 constructor
 ·intro h
  refine⟨b/n,a/n,?_⟩
  have h1:=Nat.div_add_mod a n
  have h2:=Nat.div_add_mod b n
  omega
 ·rintro⟨u,v,h⟩
  rw [←Nat.add_mul_mod_self_left a n u,h,Nat.add_mul_mod_self_left]
theorem Qv {n a b k:Nat}:(a+k)%n=(b+k)%n↔a%n=b%n:=by
 rw [zg4,zg4]
 constructor <;> rintro⟨u,v,h⟩ <;> exact⟨u,v,by omega⟩
theorem zaU {n i j k:Nat}:adj n (i+k) (j+k)↔adj n i j:=by
 unfold adj
 rw [show i+k+1=i+1+k by omega,show j+k+1=j+1+k by omega,Qv,Qv]
theorem zaV {n:Nat} {c:Nat→V2} (k:Nat) (h:Sim n c):Sim n fun i=>c (i+k):=by
 refine⟨h.1,fun i j hij=>?_⟩
 have:=h.2 (i+k) (j+k) (fun e=>hij (Qv.1 e))
 show c (i+k)≠c (j+k)∧UU (c (i+k)) (c (i+1+k)) (c (j+k)) (c (j+1+k))=_
 rw [show i+1+k=i+k+1 by omega,show j+1+k=j+k+1 by omega]
 refine⟨this.1,this.2.trans ?_⟩
 by_cases e:adj n i j
 ·rw [if_pos e,if_pos (zaU.2 e)]
 ·rw [if_neg e,if_neg (fun x=>e (zaU.1 x))]
theorem zb0 {n:Nat} {c d:Nat→V2} (he:∀ i,c i=d i) (h:Sim n c):Sim n d:=by rwa [←show c=d from funext he]
theorem Vx {n:Nat} {c:Nat→V2} (hp:Per n c) (hn:0<n) (k:Nat):Sim n (fun i=>c (i+k))↔Sim n c:=by
 refine⟨fun h=>?_,zaV k⟩
 refine zb0 (fun i=>?_) (zaV (n*k-k) h)
 show c (i+(n*k-k)+k)=c i
 have:k≤n*k:=Nat.le_mul_of_pos_left k hn
 rw [show i+(n*k-k)+k=i+n*k by omega,←hp,Nat.add_mul_mod_self_left,hp]
theorem znl {n:Nat} {c:Nat→V2} (hp:Per n c) (h:Sim n c):Sim n fun i=>c (n-1-i%n):=by
 obtain⟨hn,h⟩:=h
 refine⟨hn,fun i j hij=>?_⟩
 have hi:=Nat.mod_lt i (show 0<n by omega)
 have hj:=Nat.mod_lt j (show 0<n by omega)
 obtain⟨u,hu⟩:∃ u,u=i%n:=⟨_,rfl⟩
 obtain⟨v,hv⟩:∃ v,v=j%n:=⟨_,rfl⟩
 have si:∀ m,(m+1)%n=if m%n+1=n then 0 else m%n+1:=fun m=>UF (by omega)
 have e1:∀ m,c (n-1-m%n)=c (n-1-(m+1)%n+1):=fun m=>by
  have:=Nat.mod_lt m (show 0<n by omega)
  rw [si m]
  split
  ·rename_i e
   rw [show n-1-m%n=0 by omega,←hp (n-1-0+1),show n-1-0+1=n by omega,Nat.mod_self]
  ·congr 1;omega
 refine⟨?_,?_⟩
 ·refine (h _ _ ?_).1
  rw [Nat.mod_eq_of_lt (show n-1-i%n<n by omega),Nat.mod_eq_of_lt (show n-1-j%n<n by omega)];omega
 ·show UU (c (n-1-i%n)) (c (n-1-(i+1)%n)) (c (n-1-j%n)) (c (n-1-(j+1)%n))=_
  rw [e1 i,e1 j,zls,zlt]
  have hsi:=Nat.mod_lt (i+1) (show 0<n by omega)
  have hsj:=Nat.mod_lt (j+1) (show 0<n by omega)
  have hne:n-1-(i+1)%n≠n-1-(j+1)%n:=by
   rw [si i,si j]
   split <;> split <;> omega
  rw [(h (n-1-(i+1)%n) (n-1-(j+1)%n) (by rw [Nat.mod_eq_of_lt (show n-1-(i+1)%n<n by omega),Nat.mod_eq_of_lt (show n-1-(j+1)%n<n by omega)];exact hne)).2]
  have:adj n (n-1-(i+1)%n) (n-1-(j+1)%n)↔adj n i j:=by
   unfold adj
   rw [si (n-1-(i+1)%n),si (n-1-(j+1)%n),Nat.mod_eq_of_lt (show n-1-(i+1)%n<n by omega),Nat.mod_eq_of_lt (show n-1-(j+1)%n<n by omega),si i,si j,←hu,←hv]
   rw [←hu] at hi hij;rw [←hv] at hj hij
   by_cases a:u+1=n
   ·by_cases b:v+1=n
    ·omega
    ·rw [if_pos a,if_neg b]
     split <;> split <;> omega
   ·by_cases b:v+1=n
    ·rw [if_neg a,if_pos b]
     split <;> split <;> omega
    ·rw [if_neg a,if_neg b]
     split <;> split <;> omega
  by_cases e:adj n i j
  ·rw [if_pos e,if_pos (this.2 e)]
  ·rw [if_neg e,if_neg (fun x=>e (this.1 x))]
/-! the same of lists -/
theorem zg5 {l m:List V2} (hl:l.length=m.length) (h:Sim l.length (ZR l)↔Sim l.length (ZR m)):vN l=vN m:=by
 rw [Bool.eq_iff_iff,XH,XH,h,hl]
theorem zg6 {l:List V2} {k:Nat} (hk:k≤l.length) (i:Nat):ZR (l.drop k++l.take k) i=ZR l (i+k):=by
 have hl:(l.drop k++l.take k).length=l.length:=by rw [List.length_append,List.length_drop,List.length_take];omega
 rcases Nat.eq_zero_or_pos l.length with h0 | h0
 ·have:l=[]:=List.eq_nil_of_length_eq_zero h0
  subst this;simp [ZR]
 have hi:=Nat.mod_lt i h0
 unfold ZR
 rw [hl]
 have e:(i+k)%l.length=if i%l.length+k<l.length then i%l.length+k else i%l.length+k-l.length:=by
  rw [←Nat.mod_add_mod]
  split
  ·exact Nat.mod_eq_of_lt (by omega)
  ·rw [Nat.mod_eq_sub_mod (by omega)];exact Nat.mod_eq_of_lt (by omega)
 rw [e,List.getD_eq_getElem?_getD,List.getD_eq_getElem?_getD]
 congr 1
 split
 ·rw [List.getElem?_append_left (by rw [List.length_drop];omega),List.getElem?_drop,Nat.add_comm]
 ·rw [List.getElem?_append_right (by rw [List.length_drop];omega),List.length_drop,List.getElem?_take_of_lt (by omega)]
  congr 1;omega
theorem qr {l:List V2} {k:Nat} (hk:k≤l.length):vN (l.drop k++l.take k)=vN l:=by
 have hl:(l.drop k++l.take k).length=l.length:=by rw [List.length_append,List.length_drop,List.length_take];omega
 rcases Nat.eq_zero_or_pos l.length with h0 | h0
 ·unfold vN;rw [hl,h0];rfl
 refine zg5 hl ?_
 rw [hl,show ZR (l.drop k++l.take k)=fun i=>ZR l (i+k) from funext (zg6 hk)]
 exact Vx (uz l) h0 k
theorem Jf {l:List V2} (h0:0<l.length) (i:Nat):ZR l.reverse i=ZR l (l.length-1-i%l.length):=by
 have hi:=Nat.mod_lt i h0
 unfold ZR
 rw [List.length_reverse,List.getD_eq_getElem?_getD,List.getD_eq_getElem?_getD,List.getElem?_reverse hi,Nat.mod_eq_of_lt (show l.length-1-i%l.length<l.length by omega)]
theorem XI (l:List V2):vN l.reverse=vN l:=by
 rcases Nat.eq_zero_or_pos l.length with h0 | h0
 ·have:l=[]:=List.eq_nil_of_length_eq_zero h0
  subst this;rfl
 have one:∀ m:List V2,0<m.length→Sim m.length (ZR m)→Sim m.reverse.length (ZR m.reverse):=fun m hm h=>by
  rw [List.length_reverse]
  exact zb0 (fun i=>(Jf hm i).symm) (znl (uz m) h)
 rw [Bool.eq_iff_iff,XH,XH]
 refine⟨fun h=>?_,one l h0⟩
 have:=one l.reverse (by rwa [List.length_reverse]) h
 rwa [List.reverse_reverse] at this
theorem zg7 {l:List V2} (h0:0<l.length) (f:V2→V2) (i:Nat):ZR (l.map f) i=f (ZR l i):=by
 have hi:=Nat.mod_lt i h0
 unfold ZR
 rw [List.length_map,List.getD_eq_getElem?_getD,List.getD_eq_getElem?_getD,List.getElem?_map,List.getElem?_eq_getElem hi];rfl
/-! turns -/
def trn (c:Nat→V2) (n i:Nat):Int:=ue (cr (c (i+n-1)) (c i) (c (i+1))) 0
def vc (l:List V2):List Int:=if l.length<3 then [] else (List.range l.length).map (trn (ZR l) l.length)
def ur (l:List V2):Bool:=(vc l).all (fun n=>decide (n=1))&&vN l
def Trn (n:Nat) (c:Nat→V2):Prop:=∀ i,trn c n i=1
theorem JH {n:Nat} {c:Nat→V2} (h:Per n c) (hn:0<n) (i:Nat):trn c n (i%n)=trn c n i:=by
 unfold trn
 rw [h,Wy h,←h (i%n+n-1),show i%n+n-1=i%n+(n-1) by omega,Nat.mod_add_mod,h,show i+(n-1)=i+n-1 by omega]
theorem JI {l:List V2}:ur l=true↔Trn l.length (ZR l)∧Sim l.length (ZR l):=by
 unfold ur
 rw [Bool.and_eq_true,XH]
 refine and_congr_left fun hs=>?_
 unfold vc
 rw [if_neg (show ¬l.length<3 from Nat.not_lt.2 hs.1),List.all_eq_true]
 constructor
 ·intro h i
  have hn:0<l.length:=Nat.lt_of_lt_of_le (by decide) hs.1
  rw [←JH (uz l) hn]
  exact of_decide_eq_true (h _ (List.mem_map.2 ⟨i%l.length,List.mem_range.2 (Nat.mod_lt _ hn),rfl⟩))
 ·intro h x hx
  obtain⟨i,_,rfl⟩:=List.mem_map.1 hx
  exact decide_eq_true (h i)
theorem trn_shift {n:Nat} {c:Nat→V2} (k:Nat) (hn:0<n) (i:Nat):trn (fun i=>c (i+k)) n i=trn c n (i+k):=by
 show ue (cr (c (i+n-1+k)) (c (i+k)) (c (i+1+k))) 0=_
 rw [show i+n-1+k=i+k+n-1 by omega,show i+1+k=i+k+1 by omega];rfl
theorem zg8 {l:List V2} {k:Nat} (hk:k≤l.length):ur (l.drop k++l.take k)=ur l:=by
 have hl:(l.drop k++l.take k).length=l.length:=by rw [List.length_append,List.length_drop,List.length_take];omega
 rw [Bool.eq_iff_iff,JI,JI,hl]
 have hc:ZR (l.drop k++l.take k)=fun i=>ZR l (i+k):=funext (zg6 hk)
 rw [hc]
 rcases Nat.eq_zero_or_pos l.length with h0 | h0
 ·constructor <;> rintro⟨_,h,_⟩ <;> omega
 rw [Vx (uz l) h0 k]
 refine and_congr_left fun _=>?_
 constructor
 ·intro h i
  have:=h (i+(l.length*k-k))
  rw [trn_shift k h0] at this
  have hk2:k≤l.length*k:=Nat.le_mul_of_pos_left k h0
  rw [show i+(l.length*k-k)+k=i+l.length*k by omega,←JH (uz l) h0,Nat.add_mul_mod_self_left,JH (uz l) h0] at this
  exact this
 ·intro h i;rw [trn_shift k h0];exact h _
end Num
namespace Num
open Go Go.Proofs
def atP (a b:V2) (t:Rat):V2:=(a.1+(b.1-a.1)*t,a.2+(b.2-a.2)*t)
theorem zlw {a b q:V2}:onS a b q↔∃ s,0≤s∧s≤1∧q=atP a b s:=by
 constructor
 ·intro h
  have hc:=h.1
  unfold cr Uv at hc
  have fin:∀ s,q=atP a b s→∃ s,0≤s∧s≤1∧q=atP a b s:=fun s e=>by
   subst e
   rcases zk8.1 h with ⟨h1,h2⟩ | ⟨h1,h2⟩
   ·exact⟨s,h1,h2,rfl⟩
   ·exact⟨0,by grind,by grind,Prod.ext (by show a.1+(b.1-a.1)*s=a.1+(b.1-a.1)*0;rw [h1];grind) (by show a.2+(b.2-a.2)*s=a.2+(b.2-a.2)*0;rw [h2];grind)⟩
  by_cases h1:b.1-a.1=0
  ·by_cases h2:b.2-a.2=0
   ·have e1:q.1=a.1:=by have:=h.2.1;unfold btw at this;grind
    have e2:q.2=a.2:=by have:=h.2.2;unfold btw at this;grind
    exact fin 0 (Prod.ext (by show q.1=a.1+(b.1-a.1)*0;grind) (by show q.2=a.2+(b.2-a.2)*0;grind))
   ·have e:(q.2-a.2)/(b.2-a.2)*(b.2-a.2)=q.2-a.2:=Rat.div_mul_cancel h2
    refine fin ((q.2-a.2)/(b.2-a.2)) (Prod.ext ?_ ?_)
    ·show q.1=a.1+(b.1-a.1)*_
     have:=mz (d:=b.2-a.2) (x:=q.1-a.1) (by grind) h2
     rw [h1];grind
    ·show q.2=a.2+(b.2-a.2)*_
     grind
  ·have e:(q.1-a.1)/(b.1-a.1)*(b.1-a.1)=q.1-a.1:=Rat.div_mul_cancel h1
   refine fin ((q.1-a.1)/(b.1-a.1)) (Prod.ext ?_ ?_)
   ·show q.1=a.1+(b.1-a.1)*_
    grind
   ·show q.2=a.2+(b.2-a.2)*_
    obtain⟨s,hs⟩:∃ s,s=(q.1-a.1)/(b.1-a.1):=⟨_,rfl⟩
    rw [←hs] at e ⊢
    have:=mz (d:=b.1-a.1) (x:=q.2-a.2-(b.2-a.2)*s) (by grind) h1
    grind
 ·rintro⟨s,h0,h1,rfl⟩
  exact zk8.2 (.inl ⟨h0,h1⟩)
theorem znn (a b:V2):atP a b 0=a:=Prod.ext (by show a.1+(b.1-a.1)*0=_;grind) (by show a.2+(b.2-a.2)*0=_;grind)
section
variable {a b:V2} {t:Rat} (h0:0<t) (h1:t<1) (hab:a≠b)
include h0 h1
include hab
end
theorem zno (a b:V2):onS a b a:=zlw.2 ⟨0,by grind,by grind,(znn a b).symm⟩
theorem zdI {n i j:Nat} (h:j=i+1∨(i=0∧j+1=n)):Wx n i j=1:=if_pos h
theorem zaW {n i j:Nat} (h:¬ (j=i+1∨(i=0∧j+1=n))):Wx n i j=0:=if_neg h
end Num
namespace Num
open Go Go.Proofs
def Vk {α:Type} (n:Nat) (h:Nat→α):List α:=(List.range n).map h
theorem Zp {α:Type} (n:Nat) (h:Nat→α):(Vk n h).length=n:=by unfold Vk;simp
theorem ziZ {α:Type} (n:Nat) (h:Nat→α):Vk (n+1) h=Vk n h++[h n]:=by unfold Vk;rw [List.range_succ,List.map_append];rfl
abbrev x2 (a b:V2):Rat:=a.1*b.2-a.2*b.1
end Num
namespace Go.Proofs
open Go Go.Sv Num
variable {G:Imm}
theorem zi0 [Tab G] {p q:yE} {k:Nat} (hk:0<k) (hp:xQ k p) (hq:xQ k q) (hs:400*k+21000≤cap):zp Tryz.prog G 319 [zl (pc p),zl (pc q)] (intS .i64 (vM (pv p) (pv q))):=by
 have i1:=yY (b:=p.1.1) hp.1 hk
 have i2:=yY (b:=p.2.1) hp.2 hk
 have i3:=yY (b:=q.1.1) hq.1 hk
 have i4:=yY (b:=q.2.1) hq.2 hk
 exact zaK (hx1:=i1) (hy1:=i2) (hx2:=i3) (hy2:=i4) (by omega)
theorem zlx [Tab G] {p q:yE} {k:Nat} (hk:0<k) (hp:xQ k p) (hq:xQ k q) (hs:400*k+21000≤cap):zp Tryz.prog G 275 [zl (pc p),zl (pc q)] (zl (yy (VQ (pv p) (pv q)))):=by
 have i1:=yY (b:=p.1.1) hp.1 hk
 have i2:=yY (b:=p.2.1) hp.2 hk
 have i3:=yY (b:=q.1.1) hq.1 hk
 have i4:=yY (b:=q.2.1) hq.2 hk
 exact YR (hx1:=i1) (hy1:=i2) (hx2:=i3) (hy2:=i4) (by omega)
class Bp (v:V2) (k:outParam Nat):Prop where
 x:Bq v.1 k
 y:Bq v.2 k
theorem ug {p:yE} {k:Nat} (hk:0<k) (hp:xQ k p):Bp (pv p) k:=
 ⟨(yY (b:=p.1.1) hp.1 hk).bq,(yY (b:=p.2.1) hp.2 hk).bq⟩
theorem qu {u v:V2} {k j:Nat} (h:Bp u k) (h':Bp v j):Bp (VQ u v) (k+j+1):=by
 have:=h.x;have:=h.y;have:=h'.x;have:=h'.y
 exact⟨(bq_sub:Bq (u.1-v.1) _),(bq_sub:Bq (u.2-v.2) _)⟩
theorem zb1 {v:V2} {k:Nat} (h:Bp v k):xQ k (uV v):=zk3 h.x h.y
theorem Ve {p:yE} {k j:Nat} (h:xQ k p) (hl:k≤j):xQ j p:=⟨⟨h.1.1,h.1.2.1,Nat.le_trans h.1.2.2.1 hl,Nat.le_trans h.1.2.2.2 hl⟩,h.2.1,h.2.2.1,Nat.le_trans h.2.2.2.1 hl,Nat.le_trans h.2.2.2.2 hl⟩
theorem zfW [Tab G] {u v:V2} {k j:Nat} (h:Bp u k) (h':Bp v j) (hs:200*(k+j)+21000≤cap):zp Tryz.prog G 449 [zl (yy u),zl (yy v)] (zl (zR (u.1*v.2-u.2*v.1))):=by
 have:=h.x;have:=h.y;have:=h'.x;have:=h'.y
 exact Jb (by omega)
theorem UG {u v:V2} {k j:Nat} (h:Bp u k) (h':Bp v j):Bq (u.1*v.2-u.2*v.1) (2*(k+j)+1):=by
 have:=h.x;have:=h.y;have:=h'.x;have:=h'.y
 exact uU (k:=k+j+(k+j)+1) inferInstance (by omega)
abbrev RSg:=yE×yE
abbrev qw (s:RSg):List SV:=pc s.1++pc s.2
def Xa (s:RSg):Sg:=(pv s.1,pv s.2)
abbrev zfX (k:Nat) (s:RSg):Prop:=xQ k s.1∧xQ k s.2
def fr (a b:yE):RSg:=if 0<vM (pv a) (pv b) then (b,a) else (a,b)
theorem zqh (a b:yE):Xa (fr a b)=xZ (pv a) (pv b):=by unfold fr xZ;split <;> rfl
theorem zou {a b:yE} {k:Nat} (ha:xQ k a) (hb:xQ k b):zfX k (fr a b):=by unfold fr;split;exact⟨hb,ha⟩;exact⟨ha,hb⟩
abbrev mtC (m:Int×V2×V2):List SV:=intS .i8 m.1::(yy m.2.1++yy m.2.2)
theorem zpf {a b c d:V2} {k:Nat} (hk:0<k) (ha:Bp a k) (hb:Bp b k) (hc:Bp c k) (hd:Bp d k):Bp (if den a b c d=0 then (0,0) else Jq a b c d) (32*k):=by
 have:=ha.x;have:=ha.y;have:=hb.x;have:=hb.y;have:=hc.x;have:=hc.y;have:=hd.x;have:=hd.y
 split
 ·exact⟨uU bq_zero (by omega),uU bq_zero (by omega)⟩
 ·have hn:Bq (lnR a b c d) (16*k+10):=by
   unfold lnR den
   exact uU (k:=(k+k+1+(k+k+1)+(k+k+1+(k+k+1))+1)+(k+k+1+(k+k+1)+(k+k+1+(k+k+1))+1)) inferInstance (by omega)
  exact⟨uU (k:=k+(k+k+1+(16*k+10))+1) (q:=a.1+(b.1-a.1)*lnR a b c d) inferInstance (by omega),uU (k:=k+(k+k+1+(16*k+10))+1) (q:=a.2+(b.2-a.2)*lnR a b c d) inferInstance (by omega)⟩
theorem znq {s t:Sg} {P Q:V2} (hP:P=if den s.1 s.2 t.1 t.2=0 then (0,0) else Jq s.1 s.2 t.1 t.2) (hQ:Q=P) (c1:¬ 0<vM (VO s t) (VP s t)) (c2:(Ze s (VO s t)&&Ze t (VO s t)&&Ze s (VP s t)&&Ze t (VP s t))=false):
  mtF s t=if (!(!decide (den s.1 s.2 t.1 t.2=0))|| !Jr s Q|| !Jr t Q)=true then qn else (1,P,P):=by
 subst hQ
 unfold mtF
 rw [if_neg c1,if_neg (by rw [c2];decide)]
 by_cases hd:den s.1 s.2 t.1 t.2=0
 ·rw [if_pos hd,decide_eq_true hd];rfl
 ·rw [if_neg hd] at hP ⊢
  rw [←hP,decide_eq_false hd]
  cases Jr s Q <;> cases Jr t Q <;> rfl
theorem zly [Tab G] {b:Bool} {l d:List Nat} {z:Int} {n k j:Nat} [h:IsZ b l z k] [hd:IsNat d n] [hk:Sz d j] (hs:2*(k+j+1)+11000≤cap):zp Tryz.prog G 373 [zl [zm b,zy l],zy d] (xn [zl (zR (mkRat z n)),intS .i64 (if n=0 then 30 else 0)]):=by
 have iq:IsQ b l d (mkRat z n) (k+j+1):=⟨h.lim,hd.lim,by rw [h.val,hd.val],by have:=h.len;omega,by have:=hk.h;omega,by omega⟩
 have hdv:=hd.val
 refine zs Tryz.func373 ?_;refine zg ?_;refine xg fun b4=>?_;refine zz ?_;refine zx ?_;(iterate 4 refine zz ?_);refine Run.box rfl rfl rfl rfl rfl rfl fun b11=>?_;refine zz ?_;refine zJ ?_;refine zh ?_;refine zg ?_;refine Run.callH [] _ [_] rfl rfl rfl rfl (Yg (q:=mkRat z n) hs) rfl rfl rfl ?_
 rintro s1 H1 ⟨rfl,rfl⟩
 rw [hdv]
 refine zg ?_;refine wE (fun h14=>?_) fun h14=>?_
 ·have hn0:n=0:=by simpa using h14
  refine zg ?_
  exact zj (zu (e:=by rw [if_pos hn0];rfl))
 ·have hn0:n≠0:=by simpa using h14
  refine zg ?_
  exact zj (zu (e:=by rw [if_neg hn0];rfl))
theorem zaX [Tab G] {b c:Bool} {l d m e:List Nat} {p q:Rat} {k j:Nat} [hx:IsQ b l d p k] [hy:IsQ c m e q j] (hs:100*(k+j)+21000≤cap):zp Tryz.prog G 424 [zl [zm b,zy l,zy d],zl [zm c,zy m,zy e]] (xn [zl (zR (p/q)),intS .i64 (if q=0 then 30 else 0)]):=by
 have hxb:=hx.bq
 have hyb:=hy.bq
 have i1:=hxb.bz
 have i2:=hxb.bd
 have i3:=hyb.bz
 have i4:=hyb.bd
 have i5:Bd q.num.natAbs j:=⟨hyb.num⟩
 have i6:IsZ (decide (q.num<0)) (yz q.den) (uj (decide (q.num<0)) q.den) j:=⟨xe _,by rw [xq],hyb.lens.2⟩
 have i7:=i6.bz
 have hpl:=hxb.lens
 have hql:=hyb.lens
 refine zs Tryz.func424 ?_;refine zg ?_;refine xg fun b4=>?_;refine zg ?_;refine zS 6 (by kernel_rfl) ?_;refine zz ?_;refine zo (ze rfl rfl (Yh (by omega))) ?_;refine zz ?_;refine zo (ze rfl rfl (Yh (by omega))) ?_;refine zg ?_;refine zS 34 (by kernel_rfl) ?_;refine zg ?_;refine zo (zB rfl rfl (by decide) rfl (by simp) rfl rfl) ?_;refine zo (ze rfl rfl (Zc (by omega))) ?_;refine zg ?_;refine zo (ze rfl rfl (Ui (by omega))) ?_;refine zo (ze rfl rfl (zly (by omega))) ?_;refine zz ?_
 refine zo ((xo rfl rfl rfl).sub (zD (n:=(if q=0 then 30 else 0)) (by by_cases h:q=0;rw [if_pos h,if_pos (by rw [h];exact Nat.mul_zero _)];rw [if_neg h,if_neg (Nat.mul_ne_zero p.den_nz (fun h0=>h (Rat.num_eq_zero.1 (Int.natAbs_eq_zero.1 h0))))]))) ?_
 refine zg ?_
 exact zj (zu (e:=by rw [←zfs];rfl))
theorem zaY [Tab G] {a b:yE} {k:Nat} (hk:0<k) (ha:xQ k a) (hb:xQ k b) (hs:400*k+21000≤cap):zp Tryz.prog G 399 [zl (pc a),zl (pc b)] (zl (qw (fr a b))):=by
 refine zs Tryz.func399 ?_;refine zr ?_;refine Run.box rfl rfl rfl rfl rfl rfl fun b2=>?_;refine Run.box rfl rfl rfl rfl rfl rfl fun b3=>?_;refine xg fun b4=>?_;refine zJ ?_;refine zh ?_;refine zr ?_;refine zo ((show OpOK _ _ _ _ _ (zl (pc a)) from zC 2 rfl rfl rfl (by kernel_rfl) rfl)) ?_;refine zo ((show OpOK _ _ _ _ _ (zl (pc b)) from zC 1 rfl rfl rfl (by kernel_rfl) rfl)) ?_;refine zf (zi0 (p:=a) (q:=b) hk ha hb hs) ?_;refine zz ?_;refine zJ ?_;refine wE (fun h8=>?_) fun h8=>?_
 ·have k8:=of_decide_eq_true h8
  refine zO ?_;refine zo ((show OpOK _ _ _ _ _ (zl (pc b)) from zC 1 rfl rfl rfl (by kernel_rfl) rfl)) ?_;refine zo ((show OpOK _ _ _ _ _ (zl (pc a)) from zC 2 rfl rfl rfl (by kernel_rfl) rfl)) ?_;(iterate 2 refine zw ?_);refine zx ?_;refine zo (zC 2 rfl rfl rfl rfl rfl) ?_;refine zz ?_;refine zo ((show OpOK _ _ _ _ _ (zl (qw (b,a))) from yW rfl rfl (by kernel_rfl))) ?_;refine zw ?_;refine zJ ?_;refine zj ?_
  exact⟨_,[],.one (.agg 0 inferInstance rfl rfl rfl rfl),List.nil_sublist _,by unfold fr;rw [if_pos k8];rfl,rfl⟩
 ·have k8:=of_decide_eq_false h8
  refine zE ?_;refine zr ?_;refine zo (zC 2 rfl rfl rfl rfl rfl) ?_;refine zz ?_;refine zo ((show OpOK _ _ _ _ _ (zl (qw (a,b))) from yW rfl rfl (by kernel_rfl))) ?_;refine zw ?_;refine zJ ?_;refine zj ?_
  exact⟨_,[],.one (.agg 0 inferInstance rfl rfl rfl rfl),List.nil_sublist _,by unfold fr;rw [if_neg k8];rfl,rfl⟩
theorem zfY [Tab G] {s:RSg} {k:Nat} (hk:0<k) (hs1:zfX k s) (hs:400*k+21000≤cap):zp Tryz.prog G 491 [zl (qw s)] (zl (yy (VQ (pv s.2) (pv s.1)))):=by
 refine zs Tryz.func491 ?_;refine zg ?_;refine xg fun b2=>?_;refine zg ?_;refine zf (zlx (p:=s.2) (q:=s.1) hk hs1.2 hs1.1 hs) ?_;refine zg ?_
 exact zj zt
theorem zfZ [Tab G] {s:RSg} {p:yE} {k:Nat} (hk:0<k) (hs1:zfX k s) (hp:xQ k p) (hs:2000*k+30000≤cap):zp Tryz.prog G 451 [zl (qw s),zl (pc p)] (intS .i64 (ue (cr (pv s.1) (pv s.2) (pv p)) 0)):=by
 have c1:=qu (ug hk hs1.2) (ug hk hs1.1)
 have c2:=qu (ug hk hp) (ug hk hs1.1)
 have c3:=UG c1 c2
 refine zs Tryz.func451 ?_;refine zg ?_;refine zS 9 (by kernel_rfl) ?_;refine zz ?_;refine zo (ze rfl rfl (zfY hk hs1 (by omega))) ?_;refine zg ?_;refine zo (ze rfl rfl (zlx (p:=p) (q:=s.1) hk hp hs1.1 (by omega))) ?_;refine zo (ze rfl rfl (zfW c1 c2 (by omega))) ?_;refine zo (ze rfl rfl (Xz (by omega))) ?_;refine zg ?_
 exact zj zt
theorem VR [Tab G] {s:RSg} {p:yE} {k:Nat} (hk:0<k) (hs1:zfX k s) (hp:xQ k p) (hs:400*k+21000≤cap):zp Tryz.prog G 403 [zl (qw s),zl (pc p)] (zm (Jr (Xa s) (pv p))):=by
 refine zs Tryz.func403 ?_;refine zg ?_;refine zf (zi0 (p:=s.1) (q:=p) hk hs1.1 hp hs) ?_
 refine Run.oneB (zZ rfl rfl rfl rfl) rfl rfl rfl (fun h1_4=>?_) (fun h1_4=>?_)
 ·have k1_4:=of_decide_eq_true h1_4
  refine zg ?_;refine zf (zi0 (p:=p) (q:=s.2) hk hp hs1.2 hs) ?_;refine zg ?_
  exact zj (zu (e:=by unfold Jr;rw [show decide (vM (Xa s).1 (pv p)≤0)=true from h1_4];rfl))
 ·have k1_4:=of_decide_eq_false h1_4
  refine zg ?_
  exact zj (zu (e:=by unfold Jr;rw [show decide (vM (Xa s).1 (pv p)≤0)=false from h1_4];rfl))
theorem UH [Tab G] {s:RSg} {p:yE} {k:Nat} (hk:0<k) (hs1:zfX k s) (hp:xQ k p) (hs:2000*k+30000≤cap):zp Tryz.prog G 401 [zl (qw s),zl (pc p)] (zm (Ze (Xa s) (pv p))):=by
 refine zs Tryz.func401 ?_;refine zr ?_;(iterate 3 refine zz ?_);refine zx ?_;refine zz ?_;refine zz ?_
 refine Run.oneB (ze rfl rfl (VR hk hs1 hp (by omega))) rfl rfl rfl (fun h1_2=>?_) (fun h1_2=>?_)
 ·refine zg ?_;refine zf (zfZ hk hs1 hp hs) ?_;refine zg ?_
  exact zj (zu (e:=by unfold Ze;rw [h1_2];rfl))
 ·refine zg ?_
  exact zj (zu (e:=by unfold Ze;rw [h1_2];rfl))
theorem zaZ:zp Tryz.prog G 400 [] (zl (mtC qn)):=by
 refine zs Tryz.func400 ?_;refine zr ?_;refine xg fun b0=>?_;refine zx ?_;(iterate 2 refine zo (ze rfl rfl (Ut (p:=0) (q:=0) (by decide) (by decide) (by decide) (by decide))) ?_);refine zg ?_
 exact zj zt
theorem zdJ [Tab G] {a b c d:yE} {k:Nat} (hk:0<k) (ha:xQ k a) (hb:xQ k b) (hc:xQ k c) (hd:xQ k d) (hs:10000*k+100000≤cap):zp Tryz.prog G 402 [zl (pc a),zl (pc b),zl (pc c),zl (pc d)] (xn [zl (yy (if den (pv a) (pv b) (pv c) (pv d)=0 then (0,0) else Jq (pv a) (pv b) (pv c) (pv d))),zm (!decide (den (pv a) (pv b) (pv c) (pv d)=0))]):=by
 have c1:=qu (ug hk hd) (ug hk hc)
 have c2:=qu (ug hk hc) (ug hk ha)
 have c3:=qu (ug hk hb) (ug hk ha)
 have c4:=UG c2 c1
 have c5:=UG c3 c1
 have c6:Bq (lnR (pv a) (pv b) (pv c) (pv d)) _:=bq_div (hp:=c4) (hq:=c5)
 have a1:=yY (b:=a.1.1) ha.1 hk
 have b1:=yY (b:=b.1.1) hb.1 hk
 have a2:=yY (b:=a.2.1) ha.2 hk
 have b2:=yY (b:=b.2.1) hb.2 hk
 refine zs Tryz.func402 ?_;refine zg ?_;refine xg fun b8=>?_;refine zg ?_;refine zo (ze rfl rfl (zlx (p:=d) (q:=c) hk hd hc (by omega))) ?_;refine xg fun b10=>?_;refine zg ?_;refine Yc 14 (by kernel_rfl) rfl rfl ?_;refine RunE.lat ((show OpOK _ _ _ _ _ (zl (pc c)) from zF rfl rfl rfl rfl)) rfl rfl rfl ?_;refine RunE.lat ((show OpOK _ _ _ _ _ (zl (pc a)) from zF rfl rfl rfl rfl)) rfl rfl rfl ?_;refine RunE.lat (ze rfl rfl (zlx (p:=c) (q:=a) hk hc ha (by omega))) rfl rfl rfl ?_;refine RunE.lat ((show OpOK _ _ _ _ _ (zl (yy (VQ (pv d) (pv c)))) from zC 0 rfl rfl rfl (by kernel_rfl) rfl)) rfl rfl rfl ?_;refine RunE.lat (ze rfl rfl (zfW c2 c1 (by omega))) rfl rfl rfl ?_;refine RunE.lat ((show OpOK _ _ _ _ _ (zl (pc b)) from zF rfl rfl rfl rfl)) rfl rfl rfl ?_;refine RunE.lat ((show OpOK _ _ _ _ _ (zl (pc a)) from zF rfl rfl rfl rfl)) rfl rfl rfl ?_;refine RunE.lat (ze rfl rfl (zlx (p:=b) (q:=a) hk hb ha (by omega))) rfl rfl rfl ?_;refine RunE.lat ((show OpOK _ _ _ _ _ (zl (yy (VQ (pv d) (pv c)))) from zC 0 rfl rfl rfl (by kernel_rfl) rfl)) rfl rfl rfl ?_;refine RunE.lat (ze rfl rfl (zfW c3 c1 (by omega))) rfl rfl rfl ?_;refine RunE.lat (ze rfl rfl (show zp _ _ _ _ (xn [zl (zR (lnR (pv a) (pv b) (pv c) (pv d))),intS .i64 (if den (pv a) (pv b) (pv c) (pv d)=0 then 30 else 0)]) from zaX (hx:=isQ_can (h:=c4)) (hy:=isQ_can (h:=c5)) (by omega))) rfl rfl rfl ?_;refine RunE.lat (zG rfl rfl) rfl rfl rfl ?_;(iterate 2 refine RunE.lat (xo rfl rfl rfl) rfl rfl rfl ?_);refine RunE.nil ?_;refine EffAA.mk1 rfl rfl rfl rfl rfl rfl rfl rfl (by intro h;cases h) rfl rfl rfl fun b11=>?_;refine zz ?_;refine zJ ?_;refine zh ?_;refine zg ?_;refine zd (fun _ k31=>?_) fun _ k31=>?_
 ·have hd0:den (pv a) (pv b) (pv c) (pv d)=0:=Classical.byContradiction fun h=>k31 (if_neg h)
  refine zr ?_;refine zo (ze rfl rfl (Ut (p:=0) (q:=0) (by decide) (by decide) (by decide) (by decide))) ?_;refine zg ?_
  exact zj (zu (e:=by rw [if_pos hd0,decide_eq_true hd0];rfl))
 ·have hd0:¬ den (pv a) (pv b) (pv c) (pv d)=0:=fun h=>by rw [if_pos h] at k31;exact absurd k31 (by decide)
  refine zg ?_;refine zo (ze rfl rfl (show zp _ _ _ _ (zl (yy (Jq (pv a) (pv b) (pv c) (pv d)))) from zkU (by omega))) ?_;refine zg ?_
  exact zj (zu (e:=by rw [if_neg hd0,decide_eq_false hd0];rfl))
theorem zf0 [Tab G] {s t:RSg} {k:Nat} (hk:0<k) (hs1:zfX k s) (ht1:zfX k t) (hs:100000*k+100000≤cap):zp Tryz.prog G 337 [zl (qw s),zl (qw t)] (zl (mtC (mtF (Xa s) (Xa t)))):=by
 refine zs Tryz.func337 ?_;refine zr ?_;(iterate 2 refine zz ?_);refine xg fun b4=>?_;refine zJ ?_;refine zc9 4 (by kernel_rfl) rfl rfl rfl rfl ?_;refine RunE.lat (zX rfl rfl rfl) rfl rfl rfl ?_;refine RunE.lat ((show OpOK _ _ _ _ _ (zl (pc s.1)) from zF rfl rfl rfl rfl)) rfl rfl rfl ?_;refine RunE.lat (zX rfl rfl rfl) rfl rfl rfl ?_;refine RunE.lat ((show OpOK _ _ _ _ _ (zl (pc s.2)) from zF rfl rfl rfl rfl)) rfl rfl rfl ?_;refine RunE.nil ?_
 refine⟨⟨_,_,_,_,_,_,_,_,(show 5≠6 by decide),NewB.mk1 rfl rfl rfl rfl rfl rfl rfl (by intro h;cases h) (by intro h;cases h) rfl rfl rfl,NewB.mk1 rfl rfl rfl rfl rfl rfl rfl (by intro h;cases h) (by intro h;cases h) rfl rfl rfl,fun b5 b6=>?_⟩⟩
 refine zJ ?_;refine xS (K:=fun S1=>∃ lo:yE,pv lo=VO (Xa s) (Xa t)∧xQ k lo∧Ent S1 ⟨103,[(6,eqS (.pointer (some ⟨b6,0,none⟩))),(5,eqS (.pointer (some ⟨b5,0,none⟩))),(4,eqS (.pointer (some ⟨b4,0,none⟩))),(3,zT (qw t)),(2,zT (qw s))],[⟨some b6,41,pc s.2,0⟩,⟨some b5,41,pc lo,0⟩,⟨some b4,122,[intS .i8 0,eqS (.bool false),eqS (.slice none 0 0),eqS (.slice none 0 0),eqS (.bool false),eqS (.slice none 0 0),eqS (.slice none 0 0),eqS (.bool false),eqS (.slice none 0 0),eqS (.slice none 0 0),eqS (.bool false),eqS (.slice none 0 0),eqS (.slice none 0 0)],0⟩],[],(0,false)⟩) ?_ ?_
 ·refine zr ?_;refine zz ?_;refine zo ((show OpOK _ _ _ _ _ (zl (pc t.1)) from zF rfl rfl rfl rfl)) ?_;refine zo ((show OpOK _ _ _ _ _ (zl (pc s.1)) from zC 1 rfl rfl rfl (by kernel_rfl) rfl)) ?_;refine zo (ze rfl rfl (zi0 (p:=t.1) (q:=s.1) hk ht1.1 hs1.1 (by omega))) ?_;refine zz ?_;refine zJ ?_;refine wE (fun h19=>?_) fun h19=>?_
  ·have k19:=of_decide_eq_true h19
   refine zO ?_;refine zz ?_;refine zo ((show OpOK _ _ _ _ _ (zl (pc t.1)) from zF rfl rfl rfl rfl)) ?_;refine zw ?_;refine zJ ?_
   exact⟨t.1,(if_pos k19).symm,ht1.1,zL zk rfl⟩
  ·have k19:=of_decide_eq_false h19
   refine zE ?_
   exact⟨s.1,(if_neg k19).symm,hs1.1,zL zk rfl⟩
 ·rintro S1 ⟨lo,hlo,olo,hS1⟩
  refine wG hS1 ?_;refine xS (K:=fun S1=>∃ hi:yE,pv hi=VP (Xa s) (Xa t)∧xQ k hi∧Ent S1 ⟨103,[(6,eqS (.pointer (some ⟨b6,0,none⟩))),(5,eqS (.pointer (some ⟨b5,0,none⟩))),(4,eqS (.pointer (some ⟨b4,0,none⟩))),(3,zT (qw t)),(2,zT (qw s))],[⟨some b6,41,pc hi,0⟩,⟨some b5,41,pc lo,0⟩,⟨some b4,122,[intS .i8 0,eqS (.bool false),eqS (.slice none 0 0),eqS (.slice none 0 0),eqS (.bool false),eqS (.slice none 0 0),eqS (.slice none 0 0),eqS (.bool false),eqS (.slice none 0 0),eqS (.slice none 0 0),eqS (.bool false),eqS (.slice none 0 0),eqS (.slice none 0 0)],0⟩],[],(0,false)⟩) ?_ ?_
  ·refine zr ?_;refine zz ?_;refine zo ((show OpOK _ _ _ _ _ (zl (pc t.2)) from zF rfl rfl rfl rfl)) ?_;refine zo ((show OpOK _ _ _ _ _ (zl (pc s.2)) from zC 0 rfl rfl rfl (by kernel_rfl) rfl)) ?_;refine zo (ze rfl rfl (zi0 (p:=t.2) (q:=s.2) hk ht1.2 hs1.2 (by omega))) ?_;refine zz ?_;refine zJ ?_;refine wE (fun h26=>?_) fun h26=>?_
   ·have k26:=of_decide_eq_true h26
    refine zO ?_;refine zz ?_;refine zo ((show OpOK _ _ _ _ _ (zl (pc t.2)) from zF rfl rfl rfl rfl)) ?_;refine zw ?_;refine zJ ?_
    exact⟨t.2,(if_pos k26).symm,ht1.2,zL zk rfl⟩
   ·have k26:=of_decide_eq_false h26
    refine zE ?_
    exact⟨s.2,(if_neg k26).symm,hs1.2,zL zk rfl⟩
  ·rintro S1 ⟨hi,hhi,ohi,hS1⟩
   refine wG hS1 ?_;refine zr ?_;refine zo ((show OpOK _ _ _ _ _ (zl (pc lo)) from zC 1 rfl rfl rfl (by kernel_rfl) rfl)) ?_;refine zo ((show OpOK _ _ _ _ _ (zl (pc hi)) from zC 0 rfl rfl rfl (by kernel_rfl) rfl)) ?_;refine zo (ze rfl rfl (zi0 (p:=lo) (q:=hi) hk olo ohi (by omega))) ?_;refine zz ?_;refine zJ ?_;refine zh ?_;refine zr ?_;(iterate 2 refine zz ?_);refine zJ ?_;refine wE (fun h33=>?_) fun h33=>?_
   ·have k33:=of_decide_eq_true h33
    have e0:mtF (Xa s) (Xa t)=qn:=by unfold mtF;rw [←hlo,←hhi,if_pos k33]
    refine zr ?_;refine zf zaZ ?_;refine zw ?_;refine zJ ?_;refine zj ?_
    exact⟨_,[],.one (.agg 2 inferInstance rfl rfl rfl rfl),List.nil_sublist _,by rw [e0];rfl,rfl⟩
   ·have k33:=of_decide_eq_false h33
    refine zE ?_;refine zh ?_;refine xS (K:=fun S1=>Ent S1 ⟨103,[(52,zm (Ze (Xa s) (pv lo)&&Ze (Xa t) (pv lo)&&Ze (Xa s) (pv hi)&&Ze (Xa t) (pv hi))),(7,intS .i64 (vM (pv lo) (pv hi))),(6,eqS (.pointer (some ⟨b6,0,none⟩))),(5,eqS (.pointer (some ⟨b5,0,none⟩))),(4,eqS (.pointer (some ⟨b4,0,none⟩))),(3,zT (qw t)),(2,zT (qw s))],[⟨some b6,41,pc hi,0⟩,⟨some b5,41,pc lo,0⟩,⟨some b4,122,[intS .i8 0,eqS (.bool false),eqS (.slice none 0 0),eqS (.slice none 0 0),eqS (.bool false),eqS (.slice none 0 0),eqS (.slice none 0 0),eqS (.bool false),eqS (.slice none 0 0),eqS (.slice none 0 0),eqS (.bool false),eqS (.slice none 0 0),eqS (.slice none 0 0)],0⟩],[],(0,false)⟩) ?_ ?_
    ·refine zO ?_;refine zo ((show OpOK _ _ _ _ _ (zl (qw s)) from zF rfl rfl rfl rfl)) ?_;refine zo ((show OpOK _ _ _ _ _ (zl (pc lo)) from zC 1 rfl rfl rfl (by kernel_rfl) rfl)) ?_
     refine Run.oneB (ze rfl rfl (UH (s:=s) (p:=lo) hk hs1 olo (by omega))) rfl rfl rfl (fun h9_2=>?_) (fun h9_2=>?_)
     ·refine zz ?_;refine zo ((show OpOK _ _ _ _ _ (zl (qw t)) from zF rfl rfl rfl rfl)) ?_;refine zo ((show OpOK _ _ _ _ _ (zl (pc lo)) from zC 1 rfl rfl rfl (by kernel_rfl) rfl)) ?_;refine zo (ze rfl rfl (UH (s:=t) (p:=lo) hk ht1 olo (by omega))) ?_
      refine Run.oneB (wg rfl rfl rfl) rfl rfl rfl (fun h9_7=>?_) (fun h9_7=>?_)
      ·refine zz ?_;refine zo ((show OpOK _ _ _ _ _ (zl (qw s)) from zF rfl rfl rfl rfl)) ?_;refine zo ((show OpOK _ _ _ _ _ (zl (pc hi)) from zC 0 rfl rfl rfl (by kernel_rfl) rfl)) ?_;refine zo (ze rfl rfl (UH (s:=s) (p:=hi) hk hs1 ohi (by omega))) ?_
       refine Run.oneB (wg rfl rfl rfl) rfl rfl rfl (fun h9_12=>?_) (fun h9_12=>?_)
       ·refine zz ?_;refine zo ((show OpOK _ _ _ _ _ (zl (qw t)) from zF rfl rfl rfl rfl)) ?_;refine zo ((show OpOK _ _ _ _ _ (zl (pc hi)) from zC 0 rfl rfl rfl (by kernel_rfl) rfl)) ?_;refine zo (ze rfl rfl (UH (s:=t) (p:=hi) hk ht1 ohi (by omega))) ?_;refine zz ?_;refine zJ ?_
        exact (by rw [h9_2,h9_7,h9_12];exact zL (zb rfl (zb rfl (zb rfl (zb rfl (zb rfl (zb rfl (zb rfl (trivial)))))))) rfl)
       ·refine zz ?_;(iterate 3 refine zq ?_);refine zz ?_;refine zJ ?_
        exact (by rw [h9_2,h9_7,h9_12];exact zL (zb rfl (zb rfl (zb rfl (zb rfl (zb rfl (zb rfl (zb rfl (trivial)))))))) rfl)
      ·refine zz ?_;(iterate 3 refine zq ?_);(iterate 2 refine zz ?_);(iterate 3 refine zq ?_);refine zz ?_;refine zJ ?_
       exact (by rw [h9_2,h9_7];exact zL (zb rfl (zb rfl (zb rfl (zb rfl (zb rfl (zb rfl (zb rfl (trivial)))))))) rfl)
     ·refine zz ?_;(iterate 3 refine zq ?_);(iterate 2 refine zz ?_);(iterate 3 refine zq ?_);(iterate 2 refine zz ?_);(iterate 3 refine zq ?_);refine zz ?_;refine zJ ?_
      exact (by rw [h9_2];exact zL (zb rfl (zb rfl (zb rfl (zb rfl (zb rfl (zb rfl (zb rfl (trivial)))))))) rfl)
    ·intro S1 hS1
     refine wG hS1 ?_;refine wE (fun h52=>?_) fun h52=>?_
     ·refine zr ?_;refine zo ((show OpOK _ _ _ _ _ (zl (pc lo)) from zC 1 rfl rfl rfl (by kernel_rfl) rfl)) ?_;refine zo ((show OpOK _ _ _ _ _ (zl (pc hi)) from zC 0 rfl rfl rfl (by kernel_rfl) rfl)) ?_;refine zo (zB rfl rfl (by decide) rfl (by simp) (by kernel_rfl) (by kernel_rfl)) ?_;refine zo (ze rfl rfl (show zp _ _ _ [zU 6 id [pc lo,pc hi]] (zU 6 yy [pv lo,pv hi]) from zo6 (ps:=[lo,hi]) hk (by intro p hp;rcases List.mem_cons.1 hp with rfl | hp;exact olo;rw [List.mem_singleton.1 hp];exact ohi) (by omega) (show 2≤cap by decide))) ?_;refine zz ?_;refine zJ ?_;refine zh ?_;refine zr ?_;(iterate 2 refine zz ?_);refine zJ ?_;refine wE (fun h58=>?_) fun h58=>?_
      ·have k58:=beq_iff_eq.1 h58
       have e1:mtF (Xa s) (Xa t)=(1,pv lo,pv hi):=by unfold mtF;rw [←hlo,←hhi,if_neg k33,if_pos h52,if_pos k58]
       refine zS 7 (by kernel_rfl) ?_;refine zz ?_;refine zo (zi rfl rfl rfl (by omega) (y:=pv lo) (rfl)) ?_;refine zo ((show OpOK _ _ _ _ _ (zl (yy (pv lo))) from zF rfl rfl rfl rfl)) ?_;refine zz ?_;refine zo (zi rfl rfl rfl (by omega) (y:=pv hi) (rfl)) ?_;refine zo ((show OpOK _ _ _ _ _ (zl (yy (pv hi))) from zF rfl rfl rfl rfl)) ?_;refine zo ((show OpOK _ _ _ _ _ (zl (mtC (1,pv lo,pv hi))) from yW rfl rfl (by kernel_rfl))) ?_;refine zJ ?_;refine zw ?_;refine zJ ?_;refine zj ?_
       exact⟨_,[],.one (.agg 2 inferInstance rfl rfl rfl rfl),List.nil_sublist _,by rw [e1];rfl,rfl⟩
      ·have k58:=beq_eq_false_iff_ne.1 h58
       have e1:mtF (Xa s) (Xa t)=(2,pv lo,pv hi):=by unfold mtF;rw [←hlo,←hhi,if_neg k33,if_pos h52,if_neg k58]
       refine zE ?_;refine zS 7 (by kernel_rfl) ?_;refine zz ?_;refine zo (zi rfl rfl rfl (by omega) (y:=pv lo) (rfl)) ?_;refine zo ((show OpOK _ _ _ _ _ (zl (yy (pv lo))) from zF rfl rfl rfl rfl)) ?_;refine zz ?_;refine zo (zi rfl rfl rfl (by omega) (y:=pv hi) (rfl)) ?_;refine zo ((show OpOK _ _ _ _ _ (zl (yy (pv hi))) from zF rfl rfl rfl rfl)) ?_;refine zo ((show OpOK _ _ _ _ _ (zl (mtC (2,pv lo,pv hi))) from yW rfl rfl (by kernel_rfl))) ?_;refine zJ ?_;refine zw ?_;refine zJ ?_;refine zj ?_
       exact⟨_,[],.one (.agg 2 inferInstance rfl rfl rfl rfl),List.nil_sublist _,by rw [e1];rfl,rfl⟩
     ·refine zE ?_
      obtain⟨P,hP⟩:∃ P,P=(if den (Xa s).1 (Xa s).2 (Xa t).1 (Xa t).2=0 then (0,0) else Jq (Xa s).1 (Xa s).2 (Xa t).1 (Xa t).2):=⟨_,rfl⟩
      have bP:=zpf hk (ug hk hs1.1) (ug hk hs1.2) (ug hk ht1.1) (ug hk ht1.2)
      have oP:xQ (32*k) (uV P):=by rw [hP];exact zb1 bP
      have hln:zp Tryz.prog G 402 [zl (pc s.1),zl (pc s.2),zl (pc t.1),zl (pc t.2)] (xn [zl (yy P),zm (!decide (den (Xa s).1 (Xa s).2 (Xa t).1 (Xa t).2=0))]):=by rw [hP];exact zdJ hk hs1.1 hs1.2 ht1.1 ht1.2 (by omega)
      have e2:=znq (s:=Xa s) (t:=Xa t) hP (wW P) (by rw [←hlo,←hhi];exact k33) (by rw [←hlo,←hhi];exact h52)
      refine zr ?_;refine zz ?_;refine zo ((show OpOK _ _ _ _ _ (zl (pc s.1)) from zF rfl rfl rfl rfl)) ?_;refine zz ?_;refine zo ((show OpOK _ _ _ _ _ (zl (pc s.2)) from zF rfl rfl rfl rfl)) ?_;refine zz ?_;refine zo ((show OpOK _ _ _ _ _ (zl (pc t.1)) from zF rfl rfl rfl rfl)) ?_;refine zz ?_;refine zo ((show OpOK _ _ _ _ _ (zl (pc t.2)) from zF rfl rfl rfl rfl)) ?_;refine zf hln ?_;(iterate 3 refine zz ?_);refine xg fun b9=>?_;refine zw ?_;refine zz ?_;refine zJ ?_;refine zh ?_;refine xS (K:=fun S1=>Ent S1 ⟨103,[(98,zm (!(!decide (den (Xa s).1 (Xa s).2 (Xa t).1 (Xa t).2=0))|| !Jr (Xa s) (pv (uV P))|| !Jr (Xa t) (pv (uV P)))),(9,eqS (.pointer (some ⟨b9,0,none⟩))),(6,eqS (.pointer (some ⟨b6,0,none⟩))),(5,eqS (.pointer (some ⟨b5,0,none⟩))),(4,eqS (.pointer (some ⟨b4,0,none⟩))),(3,zT (qw t)),(2,zT (qw s))],⟨some b9,41,yy P,0⟩::[⟨some b6,41,pc hi,0⟩,⟨some b5,41,pc lo,0⟩,⟨some b4,122,[intS .i8 0,eqS (.bool false),eqS (.slice none 0 0),eqS (.slice none 0 0),eqS (.bool false),eqS (.slice none 0 0),eqS (.slice none 0 0),eqS (.bool false),eqS (.slice none 0 0),eqS (.slice none 0 0),eqS (.bool false),eqS (.slice none 0 0),eqS (.slice none 0 0)],0⟩],[],(0,false)⟩) ?_ ?_
      ·refine zO ?_;refine zz ?_
       refine Run.oneB (ZU rfl rfl) rfl rfl rfl (fun h15_1=>?_) (fun h15_1=>?_)
       ·refine zz ?_;(iterate 4 refine zq ?_);(iterate 2 refine zz ?_);(iterate 4 refine zq ?_);refine zz ?_;refine zJ ?_
        exact (by rw [h15_1];exact zL (zb rfl (zb rfl (zb rfl (zb rfl (zb rfl (zb rfl (zb rfl (trivial)))))))) rfl)
       ·refine zz ?_;refine zo ((show OpOK _ _ _ _ _ (zl (qw s)) from zF rfl rfl rfl rfl)) ?_;refine zo ((show OpOK _ _ _ _ _ (zl (pc (uV P))) from zC 0 rfl rfl rfl (by kernel_rfl) rfl)) ?_;refine zo (ze rfl rfl (VR (s:=s) (p:=uV P) (k:=32*k) (by omega) ⟨Ve hs1.1 (by omega),Ve hs1.2 (by omega)⟩ oP (by omega))) ?_;refine zz ?_
        refine Run.oneB (wg rfl rfl rfl) rfl rfl rfl (fun h15_7=>?_) (fun h15_7=>?_)
        ·refine zz ?_;(iterate 4 refine zq ?_);refine zz ?_;refine zJ ?_
         exact (by rw [h15_1,h15_7];exact zL (zb rfl (zb rfl (zb rfl (zb rfl (zb rfl (zb rfl (zb rfl (trivial)))))))) rfl)
        ·refine zz ?_;refine zo ((show OpOK _ _ _ _ _ (zl (qw t)) from zF rfl rfl rfl rfl)) ?_;refine zo ((show OpOK _ _ _ _ _ (zl (pc (uV P))) from zC 0 rfl rfl rfl (by kernel_rfl) rfl)) ?_;refine zo (ze rfl rfl (VR (s:=t) (p:=uV P) (k:=32*k) (by omega) ⟨Ve ht1.1 (by omega),Ve ht1.2 (by omega)⟩ oP (by omega))) ?_;(iterate 2 refine zz ?_);refine zJ ?_
         exact (by rw [h15_1,h15_7];exact zL (zb rfl (zb rfl (zb rfl (zb rfl (zb rfl (zb rfl (zb rfl (trivial)))))))) rfl)
      ·intro S1 hS1
       refine wG hS1 ?_;refine wE (fun h98=>?_) fun h98=>?_
       ·rw [if_pos h98] at e2
        refine zr ?_;refine zf zaZ ?_;refine zw ?_;refine zJ ?_;refine zj ?_
        exact⟨_,[],.one (.agg 3 inferInstance rfl rfl rfl rfl),List.nil_sublist _,by rw [e2];rfl,rfl⟩
       ·rw [if_neg (by rw [h98];decide)] at e2
        refine zE ?_;refine zr ?_;(iterate 2 refine zo ((show OpOK _ _ _ _ _ (zl (yy P)) from zC 0 rfl rfl rfl (by kernel_rfl) rfl)) ?_);refine zo ((show OpOK _ _ _ _ _ (zl (mtC (1,P,P))) from yW rfl rfl (by kernel_rfl))) ?_;refine zw ?_;refine zJ ?_;refine zj ?_
        exact⟨_,[],.one (.agg 3 inferInstance rfl rfl rfl rfl),List.nil_sublist _,by rw [e2];rfl,rfl⟩
theorem zi2 [Tab G] {a b c d:yE} {k:Nat} (hk:0<k) (ha:xQ k a) (hb:xQ k b) (hc:xQ k c) (hd:xQ k d) (hs:100000*k+100000≤cap):zp Tryz.prog G 379 [zl (pc a),zl (pc b),zl (pc c),zl (pc d)] (zl (mtC (mtF (xZ (pv a) (pv b)) (xZ (pv c) (pv d))))):=by
 refine zs Tryz.func379 ?_;refine zg ?_;refine xg fun b8=>?_;refine zJ ?_;refine zS 7 (by kernel_rfl) ?_;refine zg ?_;refine zo (ze rfl rfl (zaY hk ha hb (by omega))) ?_;refine zg ?_;refine zo (ze rfl rfl (zaY hk hc hd (by omega))) ?_;refine zf (zf0 hk (zou ha hb) (zou hc hd) hs) ?_;refine zg ?_
 exact zj (zu (e:=by rw [zqh,zqh];rfl))
end Go.Proofs
