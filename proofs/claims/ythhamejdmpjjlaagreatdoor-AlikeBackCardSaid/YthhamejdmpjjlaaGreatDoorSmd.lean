/- Plain laws on division by limbs, on greatest common divisors, on signs and rationals: no program in sight. -/
import Derived.Test.YthhamejdmpjjlaaGreatDoorSma
import Derived.Lib.TrailingZeros
namespace Num
theorem vq (a:List Nat) (w i:Nat):limb (a.drop w) i=limb a (w+i):=by simp [limb,List.getD_eq_getElem?_getD,List.getElem?_drop]
theorem un (a:List Nat) (k:Nat):val (a.drop k)=limb a k+4294967296*val (a.drop (k+1)):=by
 rcases Nat.lt_or_ge k a.length with h | h
 ·rw [List.drop_eq_getElem_cons h];simp [val,limb,List.getD_eq_getElem?_getD,h]
 ·rw [List.drop_eq_nil_of_le h,List.drop_eq_nil_of_le (by omega),xY h];simp [val]
theorem Yu (a:List Nat):∀ k,val a=low a k+4294967296^k*val (a.drop k)
 | 0=>by simp [vS]
 | k+1=>by rw [Yu a k,xr,un a k,yZ,Nat.mul_add,Nat.mul_assoc];omega
theorem Qg {a b:List Nat} {k:Nat} (h:∀ j,j<k→limb a j=limb b j):low a k=low b k:=by
 unfold low;congr 1;exact List.map_congr_left fun j hj=>h j (List.mem_range.1 hj)
theorem Qh {a:List Nat} (ha:xU a) (k:Nat):val a/4294967296^k=val (a.drop k):=by
 have h:=Qd ha k
 rw [Yu a k,Nat.add_mul_div_left _ _ (Nat.pow_pos (by omega)),Nat.div_eq_of_lt h,Nat.zero_add]
theorem Xs {a:List Nat} (ha:xU a) (j:Nat):limb a j=val a/4294967296^j%4294967296:=by
 have:=yF ha j
 rw [Qh ha,un];omega
theorem Kt {a:List Nat} (ha:xU a) {k j:Nat} (h:val a<4294967296^k) (hj:k≤j):limb a j=0:=by
 rw [Xs ha,Nat.div_eq_of_lt (Nat.lt_of_lt_of_le h (Nat.pow_le_pow_right (by omega) hj))]
theorem zc1 {a:List Nat} {k:Nat} (h:∀ j,k≤j→limb a j=0):val a=low a k:=by
 have:val (a.drop k)=0:=by
  have:val (a.drop k)=val []:=ud fun j=>by rw [vq,vR,h _ (by omega)]
  exact this
 rw [Yu a k,this];simp
theorem zkl {R b:List Nat} {at' n:Nat} (hR:xU R) (_:b.length=n+1) (hb0:limb b n≠0) (hP:low (R.drop at') (n+2)<val b*4294967296):
  low (R.drop at') (n+2)/val b≤min ((limb R (at'+(n+1))*4294967296+limb R (at'+n))/limb b n) 4294967295:=by
 obtain⟨P,hPe⟩:∃ P,P=low (R.drop at') (n+2):=⟨_,rfl⟩
 rw [←hPe] at hP ⊢
 have hD:limb b n*4294967296^n≤val b:=by
  rw [Yu b n,un,Nat.mul_add,Nat.mul_comm (limb b n)];omega
 have hpow:0<4294967296^n:=Nat.pow_pos (by omega)
 have hDpos:0<val b:=Nat.lt_of_lt_of_le (Nat.mul_pos (by omega) hpow) hD
 refine Nat.le_min.2 ⟨?_,?_⟩
 ·have h1:P/val b≤P/(4294967296^n*limb b n):=Nat.div_le_div_left (by rw [Nat.mul_comm];exact hD) (Nat.mul_pos hpow (by omega))
  refine Nat.le_trans h1 ?_
  rw [←Nat.div_div_eq_div_mul]
  have h2:P/4294967296^n=limb R (at'+(n+1))*4294967296+limb R (at'+n):=by
   have hl:=Qd (vJ hR at') n
   rw [hPe,xr,xr,vq,vq,yZ,Nat.add_assoc,Nat.mul_assoc,←Nat.mul_add,Nat.add_mul_div_left _ _ hpow,Nat.div_eq_of_lt hl];omega
  rw [h2];exact Nat.le_refl _
 ·have:P/val b<4294967296:=(Nat.div_lt_iff_lt_mul hDpos).2 (by rw [Nat.mul_comm];exact hP)
  omega
theorem fit {P D q p:Nat} (_hD:0<D) (h:p+q*D=P) (hq:P/D≤q):q=P/D∧p=P%D:=by
 have h1:q≤P/D:=(Nat.le_div_iff_mul_le _hD).2 (by omega)
 have h2:q=P/D:=by omega
 refine⟨h2,?_⟩
 have:=Nat.div_add_mod P D
 rw [Nat.mul_comm,←h2] at this;omega
theorem zkm {P D q p c B:Nat} (hD:0<D) (h:p+q*D=P+B) (hp:p<B) (_:c≤1):P/D<q:=(Nat.div_lt_iff_lt_mul hD).2 (by omega)
theorem zeR {lo P D b:Nat} (_:0<b) (hlo:lo<b):(lo+b*P)%(D*b)=lo+b*(P%D):=by
 rw [Nat.mul_comm D b]
 rcases Nat.eq_zero_or_pos D with h | h
 ·subst h;simp
 have h1:lo+b*P=lo+b*(P%D)+b*D*(P/D):=by
  have:=Nat.mod_add_div P D
  rw [Nat.mul_assoc,Nat.add_assoc,←Nat.mul_add,this]
 rw [h1,Nat.add_mul_mod_self_left]
 refine Nat.mod_eq_of_lt ?_
 have h2:=Nat.mod_lt P h
 have h3:b*(P%D+1)≤b*D:=Nat.mul_le_mul_left _ h2
 rw [Nat.mul_add] at h3;omega
theorem zeS {V lo P D b:Nat} (_hD:0<D) (hb:0<b) (hlo:lo<b) (h:V=lo+b*P):V/(D*b)=P/D:=by
 rw [h,Nat.mul_comm D b,←Nat.div_div_eq_div_mul,Nat.add_mul_div_left _ _ hb,Nat.div_eq_of_lt hlo,Nat.zero_add]
theorem zkn {X D b:Nat}:X%(D*(b*4294967296))/(D*b)=X/D/b%4294967296:=by
 rw [←Nat.mul_assoc,Nat.mod_mul_right_div_self,Nat.div_div_eq_div_mul]
theorem zmO {X D b:Nat}:X%(D*(b*4294967296))%(D*b)=X%(D*b):=Nat.mod_mod_of_dvd _ ⟨4294967296,by rw [Nat.mul_assoc]⟩
theorem zeT {m n k a c:Nat} (hm:m<4294967296^a) (hn:4294967296^c≤n) (hc:c≤a):m*2^k<n*2^k*4294967296^(a-c):=by
 have h1:4294967296^a=4294967296^c*4294967296^(a-c):=by rw [←Nat.pow_add];congr 1;omega
 have h2:m<n*4294967296^(a-c):=Nat.lt_of_lt_of_le (h1▸hm) (Nat.mul_le_mul_right _ hn)
 have:=Nat.mul_lt_mul_of_pos_right h2 (Nat.two_pow_pos k)
 rw [Nat.mul_right_comm];exact this
def Ya (k:Nat):Nat:=4294967296^k
theorem zc2 {out b:List Nat} {X D n p:Nat} (hlo:xU out) (hb:xU b) (hn:b.length=n+1) (hb0:limb b n≠0) (hD:val b=D) (hv:val out=X%(D*Ya (p+1))):
    ∃P,P=low (out.drop p) (n+2)∧0<D∧P<Ya (n+2)∧P/D≤min ((limb out (p+(n+1))*4294967296+limb out (p+n))/limb b n) 4294967295∧P/D=X/D/Ya p%4294967296 ∧
      ∀out2,xU out2→(∀j,j<p∨p+(n+2)≤j→limb out2 j=limb out j)→low (out2.drop p) (n+2)=P%D→val out2=X%(D*Ya p):=by
  unfold Ya at hv ⊢
  have hbp:0<4294967296^p:=Nat.pow_pos (by omega)
  have hD0:0<D:=by
    have h0:limb b n*4294967296^n≤val b:=by
      rw [Yu b n,un,Nat.mul_add,Nat.mul_comm (limb b n)];omega
    rw [←hD]
    exact Nat.lt_of_lt_of_le (Nat.mul_pos (by omega) (Nat.pow_pos (by omega))) h0
  have hDlt:D<4294967296^(n+1):=by have h:=wn hb;rw [hn,hD] at h;exact h
  have hlt:val out<D*4294967296^(p+1):=by rw [hv];exact Nat.mod_lt _ (Nat.mul_pos hD0 (Nat.pow_pos (by omega)))
  have h1:val (out.drop p)<D*4294967296:=by
    rw [←Qh hlo,Nat.div_lt_iff_lt_mul hbp,Nat.mul_assoc,Nat.mul_comm 4294967296,←yZ];exact hlt
  have h2:val (out.drop p)<4294967296^(n+2):=by
    have:D*4294967296≤4294967296^(n+1)*4294967296:=Nat.mul_le_mul_right _ (by omega)
    rw [yZ (n+1)];exact Nat.lt_of_lt_of_le h1 this
  have h3:val (out.drop p)=low (out.drop p) (n+2):=zc1 fun j hj=>Kt (vJ hlo p) h2 hj
  obtain⟨P,hP⟩:∃ P,P=low (out.drop p) (n+2):=⟨_,rfl⟩
  rw [←hP] at h3
  have h4:val out=low out p+4294967296^p*P:=by rw [Yu out p,h3]
  have hll:=Qd hlo p
  rw [h3] at h1 h2
  refine⟨P,hP,hD0,h2,?_,?_,fun out2 hlo2 hk hlow=>?_⟩
  · have:=zkl (R:=out) (b:=b) (at':=p) hlo hn hb0 (by rw [←hP,hD];exact h1)
    rw [←hP,hD] at this;exact this
  · rw [←zeS hD0 hbp hll h4,hv,yZ,zkn]
  · have e1:low out2 p=low out p:=Qg fun j hj=>hk j (.inl hj)
    have e2:val (out2.drop p)=low (out2.drop p) (n+2):=zc1 fun j hj=>by
      rw [vq,hk _ (.inr (by omega)),←vq]
      exact Kt (vJ hlo p) (by rw [h3];exact h2) hj
    rw [Yu out2 p,e1,e2,hlow,←zeR hbp hll,←h4,hv,yZ,zmO]
theorem zh8 {v w over under x t digit over' y p un' z lb b:Nat} (h:w+t*lb=v+b*(over+under)) (h1:digit+4294967296*over'=x*t+over) (h2:z+digit+under=p+4294967296*un') (_:y=y):
  w+b*z+t*(lb+b*x)=v+b*p+b*4294967296*(over'+un'):=by
 have e1:b*digit+b*4294967296*over'=b*(x*t)+b*over:=by rw [Nat.mul_assoc,←Nat.mul_add,h1,Nat.mul_add]
 have e2:b*z+b*digit+b*under=b*p+b*4294967296*un':=by rw [Nat.mul_assoc,←Nat.mul_add,←Nat.mul_add,h2,Nat.mul_add]
 have e3:t*(b*x)=b*(x*t):=by rw [Nat.mul_left_comm,Nat.mul_comm t x]
 rw [Nat.mul_add t,e3,Nat.mul_add]
 rw [Nat.mul_add b over under] at h
 omega
theorem zh9 {v w over x y s b:Nat} (h:w+b*over=v+s):w+b*((over+x+y)%4294967296)+b*4294967296*((over+x+y)/4294967296)=v+b*y+(s+b*x):=by
 rw [Nat.mul_assoc,Nat.add_assoc,←Nat.mul_add,Nat.mod_add_div,Nat.mul_add,Nat.mul_add];omega
def uj (neg:Bool) (a:Nat):Int:=if neg then -(a:Int) else a
theorem vV (b:Bool) (a:Nat):(uj b a).natAbs=a:=by cases b <;> simp [uj]
theorem zgC (b:Bool) (a:Nat):decide (uj b a<0)=(b&&decide (a≠0)):=by
 cases b
 ·simp [uj]
 ·by_cases h:a=0
  ·simp [uj,h]
  ·simp only [uj,if_true,Bool.true_and];rw [decide_eq_true (p:=a≠0) h];exact decide_eq_true (by omega)
theorem va (z:Int):uj (decide (z<0)) z.natAbs=z:=by
 unfold uj;by_cases h:z<0
 ·simp [h];omega
 ·simp [h];omega
theorem zmP (b:Bool) (a:Nat):uj (!b) a= - uj b a:=by cases b <;> simp [uj]
theorem zgD (b c:Bool) (m n:Nat):uj (b != c) (m*n)=uj b m*uj c n:=by
 cases b <;> cases c <;> simp [uj,Int.natCast_mul,Int.neg_mul,Int.mul_neg]
theorem Qi {b:Bool} {a d:Nat} (hd:d≠0):(mkRat (uj b a) d).den=d/Nat.gcd a d:=by
 rw [Rat.den_mkRat,if_neg hd,vV,Nat.gcd_comm]
theorem WS {b:Bool} {a d:Nat} (hd:d≠0):(mkRat (uj b a) d).num=uj b (a/Nat.gcd a d):=by
 rw [Rat.num_mkRat,if_neg hd,vV,Nat.gcd_comm]
 cases b
 ·simp [uj]
 ·simp only [uj,if_true]
  rw [Int.natCast_ediv,Int.neg_ediv_of_dvd (Int.natCast_dvd_natCast.2 (Nat.gcd_dvd_left a d))]
theorem zap {b:Bool} {a d:Nat} (hd:d≠0):(mkRat (uj b a) d).num.natAbs=a/Nat.gcd a d:=by rw [WS hd,vV]
theorem zaq {b:Bool} {a d:Nat} (hd:d≠0):decide ((mkRat (uj b a) d).num<0)=(b&&decide (a≠0)):=by
 rw [WS hd,zgC]
 have hg:0<Nat.gcd a d:=Nat.gcd_pos_of_pos_right a (Nat.pos_of_ne_zero hd)
 have:a/Nat.gcd a d=0↔a=0:=by
  constructor
  ·intro h
   rcases Nat.eq_zero_or_pos a with h0 | h0
   ·exact h0
   ·have:=Nat.div_pos (Nat.le_of_dvd h0 (Nat.gcd_dvd_left a d)) hg;omega
  ·intro h;simp [h]
 simp [this]
theorem zc3 {u:Nat} (h:u%2=1) (j:Nat):Nat.Coprime (2^j) u:=by
 apply Nat.Coprime.pow_left
 rw [Nat.coprime_iff_gcd_eq_one,Nat.gcd_rec,h]
 rfl
theorem Um {u:Nat} (h:u%2=1) (j v:Nat):Nat.gcd u (2^j*v)=Nat.gcd u v:=
 Nat.Coprime.gcd_mul_left_cancel_right v (zc3 h j)
theorem zgE {u v:Nat} (hu:u%2=1) (hv:v%2=1) (i j:Nat):Nat.gcd (2^i*u) (2^j*v)=2^(min i j)*Nat.gcd u v:=by
 rcases Nat.le_total i j with h | h
 ·obtain⟨d,rfl⟩:=Nat.exists_eq_add_of_le h
  rw [Nat.min_eq_left h,Nat.pow_add,Nat.mul_assoc,Nat.gcd_mul_left,Um hu]
 ·obtain⟨d,rfl⟩:=Nat.exists_eq_add_of_le h
  rw [Nat.min_eq_right h,Nat.pow_add,Nat.mul_assoc,Nat.gcd_mul_left,Nat.gcd_comm,Um hv,Nat.gcd_comm]
theorem Zb {x:Nat} (h0:x≠0) (h:x<18446744073709551616):∃ m,x=2^Go.Lib.ctz 64 x*(2*m+1)∧Go.Lib.ctz 64 x<64:=by
 unfold Go.Lib.ctz;rw [if_neg h0];exact Go.Lib.ctzFrom_spec 64 x (Nat.pos_of_ne_zero h0) h
theorem zbv (k m:Nat):(2^k*(2*m+1)).testBit k=true:=by
 rw [Nat.testBit_eq_decide_div_mod_eq,Nat.mul_div_cancel_left _ (Nat.two_pow_pos k)];simp
theorem Jx {k m t:Nat} (h:t<k):(2^k*(2*m+1)).testBit t=false:=by
 obtain⟨d,rfl⟩:=Nat.exists_eq_add_of_lt h
 rw [Nat.testBit_eq_decide_div_mod_eq,show t+d+1=t+(d+1) by omega,Nat.pow_add,Nat.mul_assoc,Nat.mul_div_cancel_left _ (Nat.two_pow_pos t),Nat.pow_succ,Nat.mul_assoc,Nat.mul_comm,Nat.mul_assoc]
 simp
theorem zoO {i j k m n p:Nat} (h:2^i*(2*m+1) ||| 2^j*(2*n+1)=2^k*(2*p+1)):k=min i j:=by
 have hb:∀ t,((2^i*(2*m+1)).testBit t||(2^j*(2*n+1)).testBit t)=(2^k*(2*p+1)).testBit t:=fun t=>by rw [←h,Nat.testBit_or]
 rcases Nat.lt_trichotomy k (min i j) with hk | hk | hk
 ·have:=hb k;rw [Jx (by omega),Jx (by omega),zbv] at this;simp at this
 ·exact hk
 ·rcases Nat.le_total i j with h' | h'
  ·have:=hb i;rw [zbv,Jx (show i<k by omega)] at this;simp at this
  ·have:=hb j;rw [zbv,Jx (show j<k by omega)] at this;simp at this
theorem zko {a b:Nat} (ha:a≠0) (hb:b≠0) (la:a<18446744073709551616) (lb:b<18446744073709551616):
  Nat.gcd a b=2^Go.Lib.ctz 64 (a ||| b)*Nat.gcd (a/2^Go.Lib.ctz 64 a) b∧(a/2^Go.Lib.ctz 64 a)%2=1:=by
 obtain⟨m,h1,_⟩:=Zb ha la
 obtain⟨n,h2,_⟩:=Zb hb lb
 have hor:a ||| b≠0:=by
  intro h;apply ha;exact (Nat.or_eq_zero_iff.1 h).1
 obtain⟨p,h3,_⟩:=Zb hor (Nat.or_lt_two_pow (n:=64) la lb)
 obtain⟨i,hi⟩:∃ i,i=Go.Lib.ctz 64 a:=⟨_,rfl⟩
 obtain⟨j,hj⟩:∃ j,j=Go.Lib.ctz 64 b:=⟨_,rfl⟩
 obtain⟨k,hk⟩:∃ k,k=Go.Lib.ctz 64 (a ||| b):=⟨_,rfl⟩
 rw [←hi] at h1 ⊢;rw [←hj] at h2;rw [←hk] at h3 ⊢
 have hkk:k=min i j:=by rw [h1,h2] at h3;exact zoO h3
 have hu:a/2^i=2*m+1:=by rw [h1,Nat.mul_div_cancel_left _ (Nat.two_pow_pos i)]
 rw [hu,hkk]
 refine⟨?_,by omega⟩
 rw [h1,h2,zgE (by omega) (by omega),Um (by omega)]
theorem zia {u b:Nat} (hu:u%2=1) (hb:b≠0) (lb:b<18446744073709551616):Nat.gcd u (b/2^Go.Lib.ctz 64 b)=Nat.gcd u b∧(b/2^Go.Lib.ctz 64 b)%2=1:=by
 obtain⟨n,h2,_⟩:=Zb hb lb
 obtain⟨j,hj⟩:∃ j,j=Go.Lib.ctz 64 b:=⟨_,rfl⟩
 rw [←hj] at h2 ⊢
 have hv:b/2^j=2*n+1:=by rw [h2,Nat.mul_div_cancel_left _ (Nat.two_pow_pos j)]
 rw [hv]
 refine⟨?_,by omega⟩
 rw [h2,Um hu]
end Num
