/- Plain laws on numbers by limbs: no program in sight. -/
import Derived.Test.YtceodgbmninaoaaGreatDoorSzzz
set_option linter.all false
namespace Num
variable {l a:G7} {n x:Nat}
def val:G7->Nat
 | []=>0
 | x::l=>x+4294967296*val l
def wZ (l:G7):Prop:=∀ x∈l,x<4294967296
def dig (n:Nat):G7:=if h:n=0 then [] else (n%4294967296)::dig (n/4294967296)
 termination_by n
 decreasing_by omega
def limb (l:G7) (i:Nat):Nat:=l.getD i 0
def ug:wZ []:=fun _ h=>by cases h
def uT (h:x<4294967296) (k:wZ l):wZ (x::l):=fun y hy=>(DZ.1 hy).elim (fun e=>e▸h) (k y)
def JD {b:G7} (h:wZ a) (k:wZ b):wZ (a++b):=fun x hx=>(Bu.1 hx).elim (h x) (k x)
def oe (h:wZ l) (n:Nat):wZ (l.take n):=fun x hx=>h x (BT hx)
def uC (h:wZ l) (n:Nat):wZ (l.drop n):=fun x hx=>h x (BU hx)
def zhs (h:wZ (x::l)):x<4294967296/\wZ l:=⟨h x B,fun y hy=>h y (by grind)⟩
def yV (h:wZ l) (i:Nat):limb l i<4294967296:=by
 unfold limb;rw [Ay];cases hi:l[i]? with
 | none=>simp
 | some x=>exact h x (AE hi)
def xN {i:Nat} (h:i<l.length):l[i]? =some (limb l i):=by unfold limb;grind
def wJ {i:Nat} (h:l.length<=i):limb l i=0:=by unfold limb;grind
def XN (x:Nat) (l:G7):limb (x::l) 0=x:=rfl
def XO (x:Nat) (l:G7) (i:Nat):limb (x::l) (i+1)=limb l i:=by rfl
def uU (i:Nat):limb [] i=0:=by rfl
def YD (a b:G7):val (a++b)=val a+4294967296^a.length*val b:=by
 induction a with
 | nil=>simp [val]
 | cons x a ih=>simp only [B1,val,ih,Ap,Ch];grind
def wz (h:wZ l):val l<4294967296^l.length:=by
 induction l with
 | nil=>simp [val]
 | cons x l ih=>
  obtain⟨h1,a⟩:=zhs h;have:=ih a;simp only [val,Ap,Ch];omega
def ay:dig 0=[]:=by unfold dig;rfl
def Xy (h:n≠0):dig n=(n%4294967296)::dig (n/4294967296):=by rw [dig.eq_def];simp [h]
def xu (n:Nat):val (dig n)=n:=by
 induction n using Nat.strongRecOn with
 | _ n ih=>
  by_cases h:n=0
  . subst h;simp [ay,val]
  . rw [Xy h,val,ih _ (Cg C C)];omega
def xe (n:Nat):wZ (dig n):=by
 induction n using Nat.strongRecOn with
 | _ n ih=>
  by_cases h:n=0
  . subst h;rw [ay];exact ug
  . rw [Xy h];exact uT C (ih _ (Cg C C))
theorem zT {k:Nat} (h:n<4294967296^k):(dig n).length<=k:=by
  induction k generalizing n with
  | zero => have : n = 0 := by simpa using h
            subst this;simp [ay]
  | succ k ih=>
    by_cases a:n=0
    . grind
    . rw [Xy a,Ap]
      grind
def xE {k:Nat} (h:(dig n).length<=k):n<4294967296^k:=by
 have h1:=wz (xe n);rw [xu] at h1
 exact Ah h1 (Cm C h)
def uv:dig n=[]↔n=0:=by
 constructor
 .intro h;have:=xu n;rw [h] at this;simpa [val] using this.symm
 .rintro rfl;exact ay
def yH:(dig n).length=0↔n=0:=by rw [List.length_eq_zero_iff,uv]
def wi (k:Nat):val (List.replicate k 0)=0:=by
 induction k with
 | zero=>rfl
 | succ k ih=>simp [Cn,val,ih]
def zfM (h:∀ x∈l,x=0):val l=0:=by
 induction l with
 | nil=>rfl
 | cons x l ih=>have h1:=h x B;have a:=ih fun y hy=>h y (by grind);simp only [val];omega
def zbg (a:l≠[]) (h:l.getLast a≠0):val l≠0:=by
 induction l with
 | nil=>grind
 | cons x l ih=>
  cases l with
  | nil=>assumption
  | cons y l=>
   have:=ih B GP;have e:val (x::y::l)=x+4294967296*val (y::l):=rfl;omega
def zux (h:wZ l) (b:∀ a:l≠[],l.getLast a≠0):dig (val l)=l:=by
 induction l with
 | nil=>simp [val,ay]
 | cons x l ih=>
  obtain⟨h1,c⟩:=zhs h;have hp:=zbg B (b B);rw [Xy hp];have e:val (x::l)=x+4294967296*val l:=rfl;grind
def qI (h:wZ l) (m:n<=l.length) (f:∀ i,n<=i->limb l i=0) (g:n=0\/limb l (n-1)≠0):l.take n=dig (val l):=by
 have e:val l=val (l.take n):=by
  have:=YD (l.take n) (l.drop n);rw [BB] at this;rw [this,zfM (l:=l.drop n)]
  .simp
  .intro x hx;obtain⟨i,hi⟩:=List.mem_iff_getElem?.1 hx;rw [AV] at hi
   have:=f (n+i) C;have d:n+i<l.length:=by
    rcases Ab (n+i) l.length with h' | h'
    .exact h'
    .grind
   rw [xN d,this] at hi;grind
 rw [e,zux (oe h n)];intro c;have b:(l.take n).length=n:=by simp;omega
 have a:n≠0:=fun h0=>c (by grind)
 rw [List.getLast_eq_getElem];have h1:=g.resolve_left a;have k:(l.take n)[n-1]? =some (limb l (n-1)):=by rw [AR,MX C,xN C]
 grind
def WR (l:G7) (n:Nat) (h:n<=l.length):val l=val (l.take n)+4294967296^n*val (l.drop n):=by
 have:=YD (l.take n) (l.drop n);simp_all
def Zh:∀ {a b:G7},(∀j,limb a j=limb b j)->val a=val b
 | [],[],_=>rfl
 | [],y::b,h=>by
  have c:=h 0;rw [uU,XN] at c
  have h1:=Zh (a:=[]) (b:=b) fun j=>by have:=h (j+1);assumption
  simp only [val] at h1 ⊢;omega
 | x::a,[],h=>by
  have c:=h 0;rw [uU,XN] at c
  have h1:=Zh (a:=a) (b:=[]) fun j=>by have:=h (j+1);assumption
  simp only [val] at h1 ⊢;omega
 | x::a,y::b,h=>by
  have c:=h 0;rw [XN,XN] at c
  have h1:=Zh (a:=a) (b:=b) fun j=>by have:=h (j+1);assumption
  simp only [val];omega
def low (l:G7) (k:Nat):Nat:=val ((List.range k).map (limb l))
def uV (l:G7):low l 0=0:=rfl
def xO (l:G7) (k:Nat):low l (k+1)=low l k+4294967296^k*limb l k:=by
 unfold low;rw [Co,Cp,YD];simp [val]
def qJ (h:wZ l) (k:Nat):low l k<4294967296^k:=by
 have:=wz (l:=(List.range k).map (limb l)) fun x hx=>by simp only [Bc] at hx;obtain⟨i,_,rfl⟩:=hx;exact yV h i
 simpa [low] using this
def vF {k:Nat} (h:l.length<=k):low l k=val l:=by
 refine Zh fun j=>?_
 by_cases a:j<k
 .have:limb ((List.range k).map (limb l)) j=limb l j:=by
   unfold limb;rw [Ay];simp [a]
  omega
 .rw [wJ (by grind),wJ C]
theorem kw {b:G7} (k:wZ a) {i:Nat} (f:a.length<=n) (d:b.length<=n) (hi:i<n) (g:∀ j,i<j->j<n->limb a j=limb b j) (e:limb a i<limb b i):val a<val b:=by
  have c:∀ m,i<m->m<=n->low a m<low b m:=by
    intro m
    induction m with
    | zero=>omega
    | succ m ih=>
      intro h1 p;rw [xO,xO]
      by_cases d:i=m
      . subst d
        have o:=qJ k i;have l:4294967296^i*(limb a i+1)<=4294967296^i*limb b i:=Cq _ e;grind
      grind
  have:=c n hi (Af n)
  rwa [vF f,vF d] at this
def Qw {b:G7} (e:a.length<=n) (f:b.length<=n) (d:∀ j,j<n->limb a j=limb b j):val a=val b:=
 Zh fun j=>by
  by_cases c:j<n
  .grind
  .rw [wJ C,wJ C]
def xw (k:Nat):(4294967296:Nat)^(k+1)=4294967296^k*4294967296:=Ch ..
def uD (l:G7) (x:Nat):val (l++[x])=val l+4294967296^l.length*x:=by rw [YD];rfl
def vV (h:wZ l) (hx:x<4294967296):wZ (l++[x]):=JD h (uT hx ug)
end Num
