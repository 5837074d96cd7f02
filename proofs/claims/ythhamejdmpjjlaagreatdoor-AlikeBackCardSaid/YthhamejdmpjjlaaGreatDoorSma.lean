/- Plain laws on numbers by limbs: no program in sight. -/
import Init
namespace Num
def val:List Nat→Nat
 | []=>0
 | x::l=>x+4294967296*val l
def xU (l:List Nat):Prop:=∀ x∈l,x<4294967296
def yz (n:Nat):List Nat:=if h:n=0 then [] else (n%4294967296)::yz (n/4294967296)
termination_by n
decreasing_by exact Nat.div_lt_self (by omega) (by omega)
def limb (l:List Nat) (i:Nat):Nat:=l.getD i 0
theorem vB:xU []:=fun _ h=>by cases h
theorem um {x:Nat} {l:List Nat} (h:x<4294967296) (k:xU l):xU (x::l):=fun y hy=>(List.mem_cons.1 hy).elim (fun e=>e▸h) (k y)
theorem VF {a b:List Nat} (h:xU a) (k:xU b):xU (a++b):=fun x hx=>(List.mem_append.1 hx).elim (h x) (k x)
theorem Ka {l:List Nat} (h:xU l) (n:Nat):xU (l.take n):=fun x hx=>h x (List.mem_of_mem_take hx)
theorem vJ {l:List Nat} (h:xU l) (n:Nat):xU (l.drop n):=fun x hx=>h x (List.mem_of_mem_drop hx)
theorem zcO {x:Nat} {l:List Nat} (h:xU (x::l)):x<4294967296∧xU l:=⟨h x (by simp),fun y hy=>h y (by simp [hy])⟩
theorem yF {l:List Nat} (h:xU l) (i:Nat):limb l i<4294967296:=by
 unfold limb
 rw [List.getD_eq_getElem?_getD]
 cases hi:l[i]? with
 | none=>simp
 | some x=>exact h x (List.mem_of_getElem? hi)
theorem yV {l:List Nat} {i:Nat} (h:i<l.length):l[i]? =some (limb l i):=by unfold limb;rw [List.getD_eq_getElem?_getD,List.getElem?_eq_getElem h];rfl
theorem xY {l:List Nat} {i:Nat} (h:l.length≤i):limb l i=0:=by unfold limb;rw [List.getD_eq_getElem?_getD,List.getElem?_eq_none h];rfl
theorem ZM (x:Nat) (l:List Nat):limb (x::l) 0=x:=rfl
theorem ZN (x:Nat) (l:List Nat) (i:Nat):limb (x::l) (i+1)=limb l i:=by simp [limb]
theorem vR (i:Nat):limb [] i=0:=by simp [limb]
theorem Za (a b:List Nat):val (a++b)=val a+4294967296^a.length*val b:=by
 induction a with
 | nil=>simp [val]
 | cons x a ih=>simp only [List.cons_append,val,ih,List.length_cons,Nat.pow_succ];rw [Nat.mul_add,Nat.add_assoc];congr 2;rw [←Nat.mul_assoc,Nat.mul_comm 4294967296]
theorem wn {l:List Nat} (h:xU l):val l<4294967296^l.length:=by
  induction l with
  | nil=>simp [val]
  | cons x l ih=>
    obtain⟨h1,h2⟩:=zcO h
    have:=ih h2
    simp only [val,List.length_cons,Nat.pow_succ]
    have:val l+1≤4294967296^l.length:=this
    have:=Nat.mul_le_mul_right 4294967296 this
    omega
theorem dig_zero:yz 0=[]:=by unfold yz;rfl
theorem Xp {n:Nat} (h:n≠0):yz n=(n%4294967296)::yz (n/4294967296):=by rw [yz.eq_def];simp [h]
theorem xq (n:Nat):val (yz n)=n:=by
  induction n using Nat.strongRecOn with
  | _ n ih=>
    by_cases h:n=0
    · subst h;simp [dig_zero,val]
    · rw [Xp h,val,ih _ (Nat.div_lt_self (by omega) (by omega))];omega
theorem xe (n:Nat):xU (yz n):=by
  induction n using Nat.strongRecOn with
  | _ n ih=>
    by_cases h:n=0
    · subst h;rw [dig_zero];exact vB
    · rw [Xp h];exact um (by omega) (ih _ (Nat.div_lt_self (by omega) (by omega)))
theorem zK {n k:Nat} (h:n<4294967296^k):(yz n).length≤k:=by
  induction k generalizing n with
  | zero => have : n = 0 := by simpa using h
            subst this;simp [dig_zero]
  | succ k ih=>
    by_cases hn:n=0
    · subst hn;simp [dig_zero]
    · rw [Xp hn,List.length_cons]
      have:n/4294967296<4294967296^k:=by
        rw [Nat.div_lt_iff_lt_mul (by omega)];rwa [Nat.pow_succ] at h
      have:=ih this;omega
theorem xj {n k:Nat} (h:(yz n).length≤k):n<4294967296^k:=by
 have h1:=wn (xe n)
 rw [xq] at h1
 exact Nat.lt_of_lt_of_le h1 (Nat.pow_le_pow_right (by omega) h)
theorem vC {n:Nat}:yz n=[]↔n=0:=by
 constructor
 ·intro h;have:=xq n;rw [h] at this;simpa [val] using this.symm
 ·rintro rfl;exact dig_zero
theorem yR {n:Nat}:(yz n).length=0↔n=0:=by rw [List.length_eq_zero_iff,vC]
theorem zgy {m n:Nat}:yz m=yz n↔m=n:=⟨fun h=>by rw [←xq m,h,xq],fun h=>by rw [h]⟩
theorem xz (k:Nat):val (List.replicate k 0)=0:=by
 induction k with
 | zero=>rfl
 | succ k ih=>simp [List.replicate_succ,val,ih]
theorem zbr {l:List Nat} (h:∀ x∈l,x=0):val l=0:=by
 induction l with
 | nil=>rfl
 | cons x l ih=>have h1:x=0:=h x (by simp);have h2:=ih fun y hy=>h y (by simp [hy]);simp only [val];omega
theorem Jl {l:List Nat} (hne:l≠[]) (h:l.getLast hne≠0):val l≠0:=by
  induction l with
  | nil=>exact absurd rfl hne
  | cons x l ih=>
    cases l with
    | nil=>simp [val] at *;exact h
    | cons y l=>
      have:=ih (by simp) (by simpa using h)
      have e:val (x::y::l)=x+4294967296*val (y::l):=rfl
      omega
theorem zmJ {l:List Nat} (h:xU l) (hl:∀ hne:l≠[],l.getLast hne≠0):yz (val l)=l:=by
  induction l with
  | nil=>simp [val,dig_zero]
  | cons x l ih=>
    obtain⟨h1,h2⟩:=zcO h
    have hp:=Jl (by simp) (hl (by simp))
    rw [Xp hp]
    have e:val (x::l)=x+4294967296*val l:=rfl
    rw [show val (x::l)%4294967296=x from by omega,show val (x::l)/4294967296=val l from by omega]
    rw [ih h2 fun hne=>by have:=hl (by simp);rwa [List.getLast_cons hne] at this]
theorem Qc {l:List Nat} (h:xU l) {n:Nat} (hn:n≤l.length) (hz:∀ i,n≤i→limb l i=0) (hl:n=0∨limb l (n-1)≠0):l.take n=yz (val l):=by
 have e:val l=val (l.take n):=by
  have:=Za (l.take n) (l.drop n)
  rw [List.take_append_drop] at this
  rw [this,zbr (l:=l.drop n)]
  ·simp
  ·intro x hx
   obtain⟨i,hi⟩:=List.mem_iff_getElem?.1 hx
   rw [List.getElem?_drop] at hi
   have:=hz (n+i) (by omega)
   have hlt:n+i<l.length:=by
    rcases Nat.lt_or_ge (n+i) l.length with h' | h'
    ·exact h'
    ·rw [List.getElem?_eq_none h'] at hi;cases hi
   rw [yV hlt,this] at hi;cases hi;rfl
 rw [e,zmJ (Ka h n)]
 intro hne
 have hlen:(l.take n).length=n:=by simp;omega
 have hpos:n≠0:=fun h0=>hne (by subst h0;simp)
 rw [List.getLast_eq_getElem]
 have h1:=hl.resolve_left hpos
 have h2:(l.take n)[n-1]? =some (limb l (n-1)):=by rw [List.getElem?_take,if_pos (by omega),yV (by omega)]
 have h3:=(List.getElem?_eq_some_iff.1 h2).2
 simp only [hlen]
 rw [h3];exact h1
theorem YG (l:List Nat) (n:Nat) (h:n≤l.length):val l=val (l.take n)+4294967296^n*val (l.drop n):=by
 have:=Za (l.take n) (l.drop n)
 rw [List.take_append_drop,List.length_take,Nat.min_eq_left h] at this
 exact this
theorem ud:∀ {a b:List Nat},(∀j,limb a j=limb b j)→val a=val b
  | [],[],_=>rfl
  | [],y::b,h=>by
    have h0:=h 0;rw [vR,ZM] at h0
    have h1:=ud (a:=[]) (b:=b) fun j=>by have:=h (j+1);rw [vR,ZN] at this;rw [vR];exact this
    simp only [val] at h1 ⊢;omega
  | x::a,[],h=>by
    have h0:=h 0;rw [vR,ZM] at h0
    have h1:=ud (a:=a) (b:=[]) fun j=>by have:=h (j+1);rw [vR,ZN] at this;rw [vR];exact this
    simp only [val] at h1 ⊢;omega
  | x::a,y::b,h=>by
    have h0:=h 0;rw [ZM,ZM] at h0
    have h1:=ud (a:=a) (b:=b) fun j=>by have:=h (j+1);rwa [ZN,ZN] at this
    simp only [val];omega
def low (l:List Nat) (k:Nat):Nat:=val ((List.range k).map (limb l))
theorem vS (l:List Nat):low l 0=0:=rfl
theorem xr (l:List Nat) (k:Nat):low l (k+1)=low l k+4294967296^k*limb l k:=by
 unfold low;rw [List.range_succ,List.map_append,Za];simp [val]
theorem Qd {l:List Nat} (h:xU l) (k:Nat):low l k<4294967296^k:=by
 have:=wn (l:=(List.range k).map (limb l)) fun x hx=>by simp only [List.mem_map] at hx;obtain⟨i,_,rfl⟩:=hx;exact yF h i
 simpa [low] using this
theorem wJ {l:List Nat} {k:Nat} (h:l.length≤k):low l k=val l:=by
 refine ud fun j=>?_
 by_cases hj:j<k
 ·have:limb ((List.range k).map (limb l)) j=limb l j:=by
   unfold limb;rw [List.getD_eq_getElem?_getD];simp [hj]
  exact this
 ·rw [xY (by simpa using hj),xY (by omega)]
theorem zbs {a b:List Nat} (ha:xU a) {i n:Nat} (hn:a.length≤n) (hm:b.length≤n) (hi:i<n) (he:∀ j,i<j→j<n→limb a j=limb b j) (hlt:limb a i<limb b i):val a<val b:=by
  have key:∀ m,i<m→m≤n→low a m<low b m:=by
    intro m
    induction m with
    | zero=>intro h;omega
    | succ m ih=>
      intro h1 h2
      rw [xr,xr]
      by_cases hm:i=m
      · subst hm
        have h3:=Qd ha i
        have h4:4294967296^i*(limb a i+1)≤4294967296^i*limb b i:=Nat.mul_le_mul_left _ hlt
        rw [Nat.mul_add,Nat.mul_one] at h4
        omega
      · rw [he m (by omega) (by omega)]
        have:=ih (by omega) (by omega);omega
  have:=key n hi (Nat.le_refl n)
  rwa [wJ hn,wJ hm] at this
theorem WP {a b:List Nat} {n:Nat} (hn:a.length≤n) (hm:b.length≤n) (he:∀ j,j<n→limb a j=limb b j):val a=val b:=
 ud fun j=>by
  by_cases hj:j<n
  ·exact he j hj
  ·rw [xY (by omega),xY (by omega)]
theorem yZ (k:Nat):(4294967296:Nat)^(k+1)=4294967296^k*4294967296:=Nat.pow_succ ..
theorem vK (l:List Nat) (x:Nat):val (l++[x])=val l+4294967296^l.length*x:=by rw [Za];simp [val]
theorem wZ {l:List Nat} {x:Nat} (h:xU l) (hx:x<4294967296):xU (l++[x]):=VF h (um hx vB)
end Num
