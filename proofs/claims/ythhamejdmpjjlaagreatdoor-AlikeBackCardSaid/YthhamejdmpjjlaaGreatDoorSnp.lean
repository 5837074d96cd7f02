/- straitref03.Div: bit by bit. -/
import Derived.Test.YthhamejdmpjjlaaGreatDoorSnk
namespace Go.Proofs
open Go Go.Sv Num
variable {G:Imm}
theorem ze0 {x y:Nat} (hx:x<4294967296) (hy:y<4294967296):zew .and .u32 x y=((x &&& y:Nat):Int):=by
 have h:x &&& y<2^32:=Nat.and_lt_two_pow _ (by simpa using hy)
 have e1:(BitVec.ofInt 32 (x:Int)).toNat=x:=by simp;omega
 have e2:(BitVec.ofInt 32 (y:Int)).toNat=y:=by simp;omega
 show IntKind.u32.wrap ((BitVec.ofInt 32 (x:Int) &&& BitVec.ofInt 32 (y:Int)).toNat:Nat)=_
 rw [BitVec.toNat_and,e1,e2,vH (by omega) (by simp at h;omega)]
theorem p32 {s:Nat} (hs:s<32):4294967296=2^s*(2*2^(31-s)):=by
 rw [←Nat.pow_succ',←Nat.pow_add,show s+(31-s).succ=32 by omega]
theorem zkv {a:List Nat} (ha:xU a) (p:Nat):limb a (p/32)/2^(p%32)%2=val a/2^p%2:=by
 have hs:p%32<32:=Nat.mod_lt _ (by decide)
 rw [Xs ha,vg p,←Nat.div_div_eq_div_mul]
 generalize val a/4294967296^(p/32)=y
 rw [p32 hs,Nat.mod_mul_right_div_self,Nat.mod_mul_right_mod]
theorem zkw {q:List Nat} (hq:xU q) {Q p:Nat} (h:val q=Q*2^(p+1)):limb q (p/32)%2^(p%32+1)=0∧limb q (p/32)+2^(p%32)<4294967296:=by
 have hs:p%32<32:=Nat.mod_lt _ (by decide)
 have hp:0<4294967296^(p/32):=Nat.pow_pos (by decide)
 have e0:4294967296=2^(p%32+1)*2^(31-p%32):=by rw [←Nat.pow_add,show p%32+1+(31-p%32)=32 by omega]
 have e1:limb q (p/32)=2^(p%32+1)*(Q%2^(31-p%32)):=by
  rw [Xs hq,h,Nat.pow_succ,vg p,show Q*(4294967296^(p/32)*2^(p%32)*2)=4294967296^(p/32)*(2^(p%32+1)*Q) by rw [Nat.pow_succ];ac_rfl,Nat.mul_div_cancel_left _ hp,e0,Nat.mul_mod_mul_left]
 refine⟨by rw [e1,Nat.mul_mod_right],?_⟩
 have h1:Q%2^(31-p%32)+1≤2^(31-p%32):=Nat.mod_lt _ (Nat.two_pow_pos _)
 have h2:=Nat.mul_le_mul_left (2^(p%32+1)) h1
 rw [←e0,Nat.mul_add,←e1] at h2
 have h3:2^(p%32)<2^(p%32+1):=Nat.pow_lt_pow_right (by decide) (by omega)
 omega
theorem zig {X X' n bt:Nat} (hn:0<n) (hX:X'=2*X+bt) (hb:bt<2):
  (2*(X%n)+bt<n→X'/n=2*(X/n)∧X'%n=2*(X%n)+bt)∧(n≤2*(X%n)+bt→X'/n=2*(X/n)+1∧X'%n=2*(X%n)+bt-n):=by
 have h1:=Nat.div_add_mod X n
 have h2:=Nat.mod_lt X hn
 have h3:X'=n*(2*(X/n))+(2*(X%n)+bt):=by rw [hX,Nat.mul_left_comm];omega
 refine⟨fun h=>?_,fun h=>?_⟩
 ·rw [h3,Nat.mul_add_div hn,Nat.mul_add_mod,Nat.div_eq_of_lt h,Nat.mod_eq_of_lt h];exact⟨rfl,rfl⟩
 ·have h4:X'=n*(2*(X/n)+1)+(2*(X%n)+bt-n):=by rw [h3,Nat.mul_add n];omega
  have h5:2*(X%n)+bt-n<n:=by omega
  rw [h4,Nat.mul_add_div hn,Nat.mul_add_mod,Nat.div_eq_of_lt h5,Nat.mod_eq_of_lt h5];exact⟨rfl,rfl⟩
theorem zkx (m p:Nat):m/2^p=2*(m/2^(p+1))+m/2^p%2:=by
 rw [Nat.pow_succ,←Nat.div_div_eq_div_mul];omega
theorem zas {a b:List Nat} {m n:Nat} [hm:IsNat a m] [hn:IsNat b n] (hs:a.length+10000≤cap) (hs2:b.length+10000≤cap):zp Tryz.prog G 115 [zy a,zy b] (xn [zy (yz (m/n)),zy (yz (if n=0 then 0 else m%n)),intS .i64 (if n=0 then 30 else 0)]):=by
 unfold cap at hs hs2
 have hlb:(yz n).length≤b.length:=zK (by rw [←hn.val];exact wn hn.lim)
 refine zs Tryz.func115 ?_;refine zr ?_;(iterate 3 refine zz ?_);refine zJ ?_;refine zh ?_;refine zg ?_;refine zo (ze rfl rfl (xE (by unfold cap;omega))) ?_;refine zg ?_;refine zd (fun _ k16=>?_) fun _ k16=>?_
 ·have hn0:n=0:=yR.1 (by omega)
  refine zr ?_;refine zo ((yS rfl rfl).sub (wF (l:=yz (m/n)) (vC.2 (by rw [hn0];exact Nat.div_zero m)))) ?_;refine zo ((yS rfl rfl).sub (wF (l:=yz (if n=0 then 0 else m%n)) (by rw [if_pos hn0];exact dig_zero))) ?_;refine zg ?_
  exact zj (zu (e:=by simp only [if_pos hn0]))
 ·have hn0:n≠0:=fun h=>k16 (by rw [h,dig_zero];rfl)
  have hn1:0<n:=Nat.pos_of_ne_zero hn0
  have hL:(yz n).length≠0:=fun h=>hn0 (yR.1 h)
  obtain⟨fr,hfr⟩:∃ fr,fr=a.length+1-(yz n).length:=⟨_,rfl⟩
  have hfa:fr≤a.length:=by omega
  have htop:m/2^(32*fr)=val (a.drop fr):=by rw [show 2^(32*fr)=4294967296^fr from by rw [Nat.pow_mul],←hm.val];exact Qh hm.lim fr
  have htl:m/2^(32*fr)<n:=by
   rw [htop]
   refine Nat.lt_of_lt_of_le (wn (vJ hm.lim fr)) (Nat.le_trans (Nat.pow_le_pow_right (by decide) ?_) (zbw hn0))
   rw [List.length_drop];omega
  refine zE ?_;refine zr ?_;(iterate 2 refine zz ?_);refine Run.makeNat (n:=a.length) (c:=a.length) rfl rfl rfl rfl rfl rfl rfl (Nat.le_refl _) (by omega) (by unfold cap;omega) fun b19 hb19=>?_;refine zg ?_;refine zo (ze rfl rfl (xE (by unfold cap;omega))) ?_;refine zz ?_;refine zo (yA (z:=((a.length:Nat):Int)-(((yz n).length:Nat):Int)) rfl rfl rfl (congrArg some (by omega)) (wrap_i64 (by omega) (by omega))) ?_;refine zo (yA (z:=((a.length:Nat):Int)-(((yz n).length:Nat):Int)+1) rfl rfl rfl (congrArg some (by omega)) (wrap_i64 (by omega) (by omega))) ?_;refine zo ((YC rfl rfl rfl).sub (zD (n:=((fr:Nat):Int)) (by omega))) ?_;refine zg ?_;refine Run.buildRow rfl rfl rfl rfl rfl rfl (by decide) rfl (.inl rfl) rfl rfl fun b28 hb28=>?_;refine zg ?_;refine zo ((xX (lo:=fr) (hi:=a.length) (m:=0) rfl rfl (.inr ⟨_,_,rfl,rfl⟩) (.inl ⟨rfl,rfl,rfl⟩) (.inl rfl) (by omega) (Nat.le_refl _)).sub (show ∀I v,_→(zy (a.drop fr)).den I v from fun I v h=>by rw [List.take_length] at h;exact h)) ?_;refine Run.append 0 rfl rfl rfl rfl rfl rfl rfl rfl hb28 rfl yJ (by unfold yP;simp;omega) (by unfold yP;simp;omega) fun q32 hq32=>?_;refine Run.ghost _ rfl (yU 0 32 rfl rfl hq32 (l:=a.drop fr) (f:=xP) (by simp) rfl yJ (by unfold yP;simp;omega)) ?_
  have i1:IsNat (a.drop fr) (m/2^(32*fr)):=⟨vJ hm.lim fr,htop.symm⟩
  refine zo (ze rfl rfl (xE (by unfold cap;simp;omega))) ?_;refine zz ?_;refine zJ ?_;refine zh ?_;refine zg ?_;refine za ((32*fr:Nat):Int) ?_;refine zo (yA (z:=((32*fr:Nat):Int)-1) rfl rfl rfl (congrArg some (by omega)) (wrap_i64 (by omega) (by omega))) ?_;refine zg ?_
  refine yX (fun g q=>⟨_,[(10,intS .i64 (((g:Nat):Int)-1)),(9,zy (yz (m/2^g%n))),(7,eqS (rowV (some (b19,a.length)) a.length)),(1,zy b),(0,zy a)],[rowE (some (b19,a.length)) 64 1 a.length (q.flatMap xP)],[],(0,false)⟩)
    (fun g q=>g≤32*fr∧xU q∧q.length=a.length∧val q=m/2^g/n*2^g) (fun g q=>g)
    (32*fr) (List.replicate a.length 0) ⟨Nat.le_refl _,wj _,List.length_replicate,by rw [xz,Nat.div_eq_of_lt htl,Nat.zero_mul]⟩ (zL (zb rfl (xk rfl (congrArg (fun x=>zy (yz x)) (Nat.mod_eq_of_lt htl).symm) (zb rfl (zb rfl (zb rfl (trivial)))))) rfl) ?_
  rintro g q ⟨hg,hlo,hln,hval⟩
  refine zh ?_;refine zg ?_;refine zd (fun _ k38=>?_) fun _ k38=>?_
  ·obtain⟨p,rfl⟩:∃ p,g=p+1:=⟨g-1,by omega⟩
   have hsl:p%32<32:=Nat.mod_lt _ (by decide)
   have hp2:=zcY hsl
   obtain⟨r,hr⟩:∃ r,r=m/2^(p+1)%n:=⟨_,rfl⟩
   rw [←hr]
   have hrn:r<n:=by rw [hr];exact Nat.mod_lt _ hn1
   have hrl:(yz r).length≤b.length:=Nat.le_trans (zK (Nat.lt_trans hrn (xj (Nat.le_refl _)))) hlb
   obtain⟨bt,hbt⟩:∃ bt,bt=m/2^p%2:=⟨_,rfl⟩
   have hbt2:bt<2:=by rw [hbt];exact Nat.mod_lt _ (by decide)
   have hstep:=zig (X:=m/2^(p+1)) (X':=m/2^p) (n:=n) (bt:=bt) hn1 (by rw [hbt];exact zkx m p) hbt2
   rw [←hr] at hstep
   have hwl:p/32<a.length:=by omega
   have hbl:=zkv hm.lim p
   rw [hm.val,←hbt] at hbl
   have hax:=yF hm.lim (p/32)
   have hqx:=yF hlo (p/32)
   obtain⟨hq0,hq1⟩:=zkw hlo hval
   have hax2:limb a (p/32)/2^(p%32)≤limb a (p/32):=Nat.div_le_self _ _
   refine zE ?_;refine xS (K:=fun S1=>∃ q2,xU q2∧q2.length=a.length∧val q2=m/2^p/n*2^p∧Ent S1 ⟨85,[(9,zy (yz (m/2^p%n))),(10,intS .i64 (((p+1:Nat):Int)-1)),(7,eqS (rowV (some (b19,a.length)) a.length)),(1,zy b),(0,zy a)],[rowE (some (b19,a.length)) 64 1 a.length (q2.flatMap xP)],[],(0,false)⟩) ?_ ?_
   ·refine zg ?_;refine zo (ze rfl rfl (zcZ (k:=1) (by omega) (by unfold cap;omega))) ?_;refine zz ?_;refine zJ ?_;refine xS (K:=fun S1=>Ent S1 (⟨85,[(9,zy (yz (2*r+bt))),(10,intS .i64 (((p+1:Nat):Int)-1)),(7,eqS (rowV (some (b19,a.length)) a.length)),(1,zy b),(0,zy a)],[rowE (some (b19,a.length)) 64 1 a.length (q.flatMap xP)],[],(0,false)⟩)) ?_ ?_
    ·refine zr ?_;refine zz ?_;refine zo ((zG rfl rfl).sub (zD (show ((p+1:Nat):Int)-1=((p:Nat):Int) by omega))) ?_;refine zo ((wU rfl rfl rfl (by omega) (by omega) (wrap_i64 (by omega) (by omega))).sub (zD (n:=((p/32:Nat):Int)) (by omega))) ?_;refine zo (zi rfl rfl rfl (by omega) (y:=limb a (p/32)) (yV hwl)) ?_;refine zz ?_;refine zo ((zG rfl rfl).sub (zD (show ((p+1:Nat):Int)-1=((p:Nat):Int) by omega))) ?_;refine zo ((wV rfl rfl rfl (by omega) (by omega)).sub (zD (n:=((p%32:Nat):Int)) (by omega))) ?_;refine zA ?_;refine zo ((wr rfl rfl rfl (by omega) (by simp [IntKind.bits];omega)).sub (zD (zh4 _ _))) ?_;refine zo ((wI rfl (by simp) rfl rfl).sub (zD (n:=((bt:Nat):Int)) ((ze0 (y:=1) (by omega) (by decide)).trans (by rw [Nat.and_one_is_mod,hbl])))) ?_;refine zg ?_;refine zd (fun _ k53=>?_) fun _ k53=>?_
     ·refine zO ?_
      have i2:Sz (yz (r*2^1)) (b.length+1):=⟨zK (by have h9:=xj hrl;rw [yZ,Nat.pow_one];exact Nat.lt_of_lt_of_le (Nat.mul_lt_mul_of_pos_right h9 (by decide)) (Nat.mul_le_mul_left _ (by decide)))⟩
      refine zz ?_;refine zo (xl [1] rfl rfl (by decide) rfl (by simp) rfl rfl rfl) ?_;refine zo (zB rfl rfl (by decide) rfl (by simp) rfl rfl) ?_;refine zo (ze rfl rfl (Xq (by unfold cap;omega))) ?_;refine zg ?_
      exact yo (xk rfl (congrArg (fun x=>zy (yz x)) (by omega)) zk)
     ·refine zE ?_
      exact yo (xk rfl (congrArg (fun x=>zy (yz x)) (by omega)) zk)
    ·intro S1 hS1
     refine wG hS1 ?_;refine zg ?_
     refine zo (ze rfl rfl (YM (by have h9:(yz (2*r+bt)).length≤b.length+1:=zK (by have h9:=xj hrl;rw [yZ];omega);unfold cap;omega))) ?_
     refine zg ?_;refine zd (fun _ k65=>?_) fun _ k65=>?_
     ·have hge:n≤2*r+bt:=by rcases Nat.lt_or_ge (2*r+bt) n with h | h;rw [if_pos h] at k65;cases k65;exact h
      obtain⟨hs1,hs2⟩:=hstep.2 hge
      have hv2:val (q.set (p/32) (limb q (p/32)+2^(p%32)))=m/2^p/n*2^p:=by
       have hvs:=Xr (l:=q) (j:=p/32) (limb q (p/32)+2^(p%32)) (by omega)
       rw [hs1,Nat.add_mul,Nat.one_mul,Nat.mul_comm 2,Nat.mul_assoc,←Nat.pow_succ',←hval,vg p]
       rw [Nat.mul_add] at hvs;omega
      refine zr ?_;(iterate 2 refine zz ?_);refine zJ ?_;refine zO ?_;refine zz ?_;refine zo ((zG rfl rfl).sub (zD (show ((p+1:Nat):Int)-1=((p:Nat):Int) by omega))) ?_;refine zo ((wU rfl rfl rfl (by omega) (by omega) (wrap_i64 (by omega) (by omega))).sub (zD (n:=((p/32:Nat):Int)) (by omega))) ?_;refine zz ?_;refine zo ((zG rfl rfl).sub (zD (show ((p+1:Nat):Int)-1=((p:Nat):Int) by omega))) ?_;refine zo ((wU rfl rfl rfl (by omega) (by omega) (wrap_i64 (by omega) (by omega))).sub (zD (n:=((p/32:Nat):Int)) (by omega))) ?_;refine zo (xm (i:=p/32) rfl rfl rfl (by omega)) ?_;refine zo (vf 0 rfl rfl rfl (by omega)) ?_;refine zo ((zG rfl rfl).sub (zD (show ((p+1:Nat):Int)-1=((p:Nat):Int) by omega))) ?_;refine zo ((wV rfl rfl rfl (by omega) (by omega)).sub (zD (n:=((p%32:Nat):Int)) (by omega))) ?_;refine zA ?_;refine zo ((Zs rfl rfl rfl (by omega) (by simp [IntKind.bits];omega)).sub (zD (n:=((2^(p%32):Nat):Int)) (by have:=zh3 1 (p%32);rw [Nat.one_mul] at this;refine (congrArg _ this).trans ?_;exact vH (by omega) (by omega)))) ?_
      refine zo ((wI rfl (by simp) rfl rfl).sub (zD (n:=((limb q (p/32)+2^(p%32):Nat):Int)) (by rw [YN (by omega) (by omega),zki hq0 (Nat.pow_lt_pow_right (by decide) (by omega))]))) ?_
      refine zo (xm (i:=p/32) rfl rfl rfl (by omega)) ?_;refine Run.storeRow 0 rfl rfl rfl rfl rfl (by omega) rfl rfl ?_;refine zJ ?_
      exact⟨q.set (p/32) (limb q (p/32)+2^(p%32)),uv hlo hq1,by rw [List.length_set];exact hln,hv2,zL (xk rfl (congrArg (fun x=>zy (yz x)) hs2.symm) (zb rfl (zb rfl (zb rfl (zb rfl (trivial)))))) rfl⟩
     ·have hge:2*r+bt<n:=by rcases Nat.lt_or_ge (2*r+bt) n with h | h;exact h;rw [if_neg (by omega)] at k65;exact absurd rfl k65
      obtain⟨hs1,hs2⟩:=hstep.1 hge
      have hv2:val q=m/2^p/n*2^p:=by rw [hs1,Nat.mul_comm 2,Nat.mul_assoc,←Nat.pow_succ',←hval]
      have hse:2*r+bt=2*r+bt:=rfl
      refine zE ?_
      exact⟨q,hlo,hln,hv2,zL (xk rfl (congrArg (fun x=>zy (yz x)) hs2.symm) zk) rfl⟩
   ·rintro S1 ⟨q2,hlo2,hln2,hval2,hS1⟩
    refine wG hS1 ?_;refine zg ?_;refine zo (yA (z:=((p:Nat):Int)-1) rfl rfl rfl (congrArg some (by omega)) (wrap_i64 (by omega) (by omega))) ?_;refine zg ?_
    exact⟨p,q2,⟨by omega,hlo2,hln2,hval2⟩,by omega,zL zk rfl⟩
  ·have hg0:g=0:=by omega
   subst hg0
   rw [Nat.pow_zero,Nat.div_one,Nat.mul_one] at hval
   have i3:IsNat q (m/n):=⟨hlo,hval⟩
   refine zI ?_;refine zP (yU 0 7 rfl rfl hb19 hln rfl yJ (by unfold yP;omega)) ?_;refine zg ?_;refine zo (ze rfl rfl (xE (by unfold cap;omega))) ?_;refine zz ?_
   refine zo (ze rfl rfl (xE (by unfold cap;have h8:(yz (m/2^0%n)).length≤b.length:=Nat.le_trans (zK (Nat.lt_trans (Nat.mod_lt _ hn1) (xj (Nat.le_refl _)))) hlb;omega))) ?_
   refine zz ?_;refine zo ((yS rfl rfl).sub (show ∀I v,(zy (yz (m/2^0%n))).den I v→(zy (yz (if n=0 then 0 else m%n))).den I v from fun I v h=>by rw [if_neg hn0,←show m/2^0%n=m%n by rw [Nat.pow_zero,Nat.div_one]];exact h)) ?_;refine zg ?_
   exact zj (zu (e:=by simp only [if_neg hn0]))
end Go.Proofs
/- gcd: of words and of numbers, by the program and by the reference. -/
namespace Go.Proofs
open Go Go.Sv Num
variable {G:Imm}
def tz (m:Nat):Nat:=if h:m=0 then 0 else if m%2=1 then 0 else tz (m/2)+1
termination_by m
decreasing_by omega
theorem ze1 {m:Nat} (h:m%2=1):tz m=0:=by
 unfold tz;rw [dif_neg (by omega),if_pos h]
theorem zgG {m:Nat} (h0:m≠0) (h:m%2=0):tz m=tz (m/2)+1:=by
 rw [tz,dif_neg h0,if_neg (by omega)]
theorem zky {u:Nat} (hu:u%2=1):∀ t,tz (2^t*u)=t
  | 0=>by rw [Nat.pow_zero,Nat.one_mul,ze1 hu]
  | t+1=>by
    have h0:2^t*u≠0:=Nat.mul_ne_zero (Nat.ne_of_gt (Nat.two_pow_pos t)) (by omega)
    have e:2^(t+1)*u=2*(2^t*u):=by rw [Nat.pow_succ];ac_rfl
    rw [e,zgG (by omega) (Nat.mul_mod_right _ _),Nat.mul_div_cancel_left _ (by decide),zky hu t]
theorem zc5 {m:Nat}:m≠0→∃ u,m=2^tz m*u∧u%2=1:=by
  induction m using Nat.strongRecOn with
  | ind m ih=>
    intro h0
    by_cases h:m%2=1
    · exact⟨m,by rw [ze1 h,Nat.pow_zero,Nat.one_mul],h⟩
    · obtain⟨u,hu,hu1⟩:=ih (m/2) (by omega) (by omega)
      refine⟨u,?_,hu1⟩
      rw [zgG h0 (by omega),Nat.pow_succ,Nat.mul_right_comm,←hu];omega
def zih (N M both x y:Nat):Prop:=y≠0∧(x=0→y*2^both=Nat.gcd N M)∧(x≠0→∀ u v,u%2=1→v%2=1→x=2^tz x*u→y=2^tz y*v→2^both*Nat.gcd u v=Nat.gcd N M)
theorem ze2 {N M:Nat} (hN:N≠0) (hM:M≠0):zih N M (min (tz N) (tz M)) N M:=
 ⟨hM,fun h=>absurd h hN,fun _ u v hu hv h1 h2=>by
  have:=zgE hu hv (tz N) (tz M)
  rw [←h1,←h2] at this;exact this.symm⟩
theorem zii {N M both x y u v:Nat} (h:zih N M both x y) (hx:x≠0) (hu:u%2=1) (hv:v%2=1) (h1:x=2^tz x*u) (h2:y=2^tz y*v):
  (v≤u→zih N M both (u-v) v)∧(u≤v→zih N M both (v-u) u):=by
 have hg:=h.2.2 hx u v hu hv h1 h2
 have key:∀ a b,a%2=1→b%2=1→b≤a→2^both*Nat.gcd a b=Nat.gcd N M→zih N M both (a-b) b:=fun a b ha hb hle hg=>by
  refine⟨by omega,fun h0=>?_,fun h0 u2 v2 hu2 hv2 e1 e2=>?_⟩
  ·have:a=b:=by omega
   rw [this,Nat.gcd_self] at hg;rw [Nat.mul_comm];exact hg
  ·rw [ze1 hb,Nat.pow_zero,Nat.one_mul] at e2
   rw [←hg,←e2,Nat.gcd_comm u2,←Um hb (tz (a-b)),←e1,Nat.gcd_comm,Nat.gcd_sub_self_left hle]
 exact⟨fun hle=>key u v hu hv hle hg,fun hle=>key v u hv hu hle (by rw [Nat.gcd_comm];exact hg)⟩
theorem zat {x:Nat} (h:x≠0):∃ u,u%2=1∧x=2^tz x*u∧x/2^tz x=u∧u≤x:=by
 obtain⟨u,h1,h2⟩:=zc5 h
 have hp:=Nat.two_pow_pos (tz x)
 have h3:x/2^tz x=u:=by rw [show x/2^tz x=2^tz x*u/2^tz x from congrArg (· / 2^tz x) h1,Nat.mul_div_cancel_left _ hp]
 exact⟨u,h2,h1,h3,by rw [←h3];exact Nat.div_le_self _ _⟩
theorem zp4 {m k:Nat} (h0:m≠0) (h:m<2^k):tz m<k:=by
 obtain⟨u,h1,h2⟩:=zc5 h0
 rcases Nat.lt_or_ge (tz m) k with h3 | h3
 ·exact h3
 ·exfalso
  have h4:2^k≤2^tz m:=Nat.pow_le_pow_right (by decide) h3
  have h5:2^tz m≤m:=by
   have:2^tz m*1≤2^tz m*u:=Nat.mul_le_mul_left _ (by omega)
   omega
  omega
theorem zkz {a:List Nat} (_:xU a) {i j:Nat} (hz:∀ t,t<i→limb a t=0) (hj:limb a i%2^j=0) (ho:limb a i/2^j%2=1) (hj2:j<32):tz (val a)=32*i+j:=by
 have h1:low a i=0:=by
  have:low a i=low [] i:=Qg fun t ht=>by rw [hz t ht,vR]
  rw [this];exact wJ (Nat.zero_le _)
 have h2:limb a i=2^j*(limb a i/2^j):=by have:=Nat.div_add_mod (limb a i) (2^j);omega
 have h3:val a=2^(32*i+j)*(limb a i/2^j+2*(2^(31-j)*val (a.drop (i+1)))):=by
  rw [Yu a i,h1,Nat.zero_add,un,Nat.pow_add,Nat.pow_mul,Nat.mul_assoc,Nat.mul_add (2^j),←h2,←Nat.mul_assoc 2,←Nat.mul_assoc (2^j),←p32 hj2]
 rw [h3];exact zky (by omega) _
theorem zij [Tab G] {a b:Nat} (ha:a<18446744073709551616) (hb:b<18446744073709551616):zp Tryz.prog G 230 [intS .u64 (a:Nat),intS .u64 (b:Nat)] (intS .u64 (Nat.gcd a b:Nat)):=by
 refine zs Tryz.func230 ?_;refine zr ?_;refine zz ?_;refine zJ ?_;refine ut ?_;refine zh ?_;refine zr ?_;refine zz ?_
 refine Run.oneB (zZ rfl rfl rfl rfl) rfl rfl rfl (fun h1_1=>?_) (fun h1_1=>?_)
 ·have k1_1:=beq_iff_eq.1 h1_1
  refine zg ?_;refine xt rfl rfl ?_;refine zg ?_;refine zo ((wI rfl (by simp) rfl rfl).sub (zD (n:=((Nat.gcd a b:Nat):Int)) (by rw [Yr ha hb,show a=0 by omega,Nat.zero_or,Nat.gcd_zero_left]))) ?_;refine zg ?_
  exact zj zt
 ·have k1_1:=beq_eq_false_iff_ne.1 h1_1
  refine zg ?_;refine zd (fun _ k11=>?_) fun _ k11=>?_
  ·refine zg ?_;refine zo ((wI rfl (by simp) rfl rfl).sub (zD (n:=((Nat.gcd a b:Nat):Int)) (by rw [Yr ha hb,show b=0 by omega,Nat.or_zero,Nat.gcd_zero_right]))) ?_;refine zg ?_
   exact zj zt
  ·have ha0:a≠0:=by omega
   have hb0:b≠0:=by omega
   obtain⟨hw1,hw2⟩:=zko ha0 hb0 ha hb
   obtain⟨_,_,hca⟩:=Zb ha0 ha
   obtain⟨_,_,hco⟩:=Zb (x:=a ||| b) (fun h=>ha0 (Nat.or_eq_zero_iff.1 h).1) (Nat.or_lt_two_pow (n:=64) ha hb)
   obtain⟨k,hk⟩:∃ k,k=Lib.ctz 64 (a ||| b):=⟨_,rfl⟩
   rw [←hk] at hw1 hco
   have hgl:Nat.gcd a b<18446744073709551616:=Nat.lt_of_le_of_lt (Nat.gcd_le_left b (Nat.pos_of_ne_zero ha0)) ha
   obtain⟨x0,hx0⟩:∃ x,x=a/2^Lib.ctz 64 a:=⟨_,rfl⟩
   rw [←hx0] at hw1 hw2
   have hx1:x0≤a:=by rw [hx0];exact Nat.div_le_self _ _
   refine zg ?_;refine zo ((wI rfl (by simp) rfl rfl).sub (zD (Yr ha hb))) ?_;refine zo ((ze rfl rfl (Qf (Nat.or_lt_two_pow (n:=64) ha hb))).sub (zD (n:=((k:Nat):Int)) (by rw [hk]))) ?_;refine zg ?_;refine zf (Qf ha) ?_;refine zo ((wr rfl rfl rfl (by omega) (by simp [IntKind.bits];omega)).sub (zD (n:=((x0:Nat):Int)) ((zh4 _ _).trans (by rw [hx0])))) ?_;refine zz ?_;refine zJ ?_;refine zh ?_;refine us ?_;refine zh ?_;refine zQ ?_
   refine yX (fun x y=>⟨_,[(5,intS .i64 (k:Nat)),(1,intS .u64 (y:Nat)),(0,intS .u64 (x:Nat))],[],[],(0,false)⟩)
     (fun x y=>x%2=1∧x<18446744073709551616∧y<18446744073709551616∧Nat.gcd a b=2^k*Nat.gcd x y) (fun x y=>x+y)
     x0 b ⟨hw2,by omega,hb,hw1⟩ (yo zk) ?_
   rintro x y ⟨hxo,hxl,hyl,hval⟩
   refine zh ?_;refine zg ?_;refine zd (fun _ k24=>?_) fun _ k24=>?_
   ·have hy0:y≠0:=by omega
    obtain⟨hs1,hs2⟩:=zia hxo hy0 hyl
    obtain⟨_,_,hcy⟩:=Zb hy0 hyl
    obtain⟨z,hz⟩:∃ z,z=y/2^Lib.ctz 64 y:=⟨_,rfl⟩
    rw [←hz] at hs1 hs2
    have hz1:z≤y:=by rw [hz];exact Nat.div_le_self _ _
    refine zg ?_;refine zf (Qf hyl) ?_;refine zo ((wr rfl rfl rfl (by omega) (by simp [IntKind.bits];omega)).sub (zD (n:=((z:Nat):Int)) ((zh4 _ _).trans (by rw [hz])))) ?_;refine zz ?_;refine zJ ?_;refine zh ?_;refine zg ?_;refine zd (fun _ k31=>?_) fun _ k31=>?_
    ·refine zg ?_;refine za ((z-x:Nat):Int) ?_;refine zg ?_;refine zI ?_
     exact⟨x,z-x,⟨hxo,hxl,by omega,by rw [hval,←hs1,Nat.gcd_sub_self_right (by omega)]⟩,by omega,yo (zb rfl (zb rfl (zb rfl (trivial))))⟩
    ·refine zg ?_;refine za ((x-z:Nat):Int) ?_;refine zg ?_
     exact⟨z,x-z,⟨hs2,by omega,by omega,by rw [hval,←hs1,Nat.gcd_sub_self_right (by omega),Nat.gcd_comm]⟩,by omega,yo (zb rfl (zb rfl (zb rfl (trivial))))⟩
   ·have hy0:y=0:=by omega
    rw [hy0,Nat.gcd_zero_right,Nat.mul_comm] at hval
    refine zI ?_;refine zg ?_;refine zo ((Zs rfl rfl rfl (by omega) (by simp [IntKind.bits];omega)).sub (zD (n:=((Nat.gcd a b:Nat):Int)) (by rw [zh3,←hval];exact xf (by omega) (by omega)))) ?_;refine zg ?_
    exact zj zt
theorem zkA [Tab G] {a b:List Nat} {m n:Nat} [hm:IsNat a m] [hn:IsNat b n] (hs:a.length+b.length+10000≤cap):zp Tryz.prog G 169 [zy a,zy b] (zy (yz (Nat.gcd m n))):=by
 unfold cap at hs
 have hla:(yz m).length≤a.length:=zK (by rw [←hm.val];exact wn hm.lim)
 have hlb:(yz n).length≤b.length:=zK (by rw [←hn.val];exact wn hn.lim)
 refine zs Tryz.func169 ?_;refine zg ?_;refine zo (ze rfl rfl (xV (by unfold cap;omega))) ?_;refine zz ?_;refine zo (ze rfl rfl (xV (by unfold cap;omega))) ?_;(iterate 2 refine zz ?_);refine zJ ?_;refine zh ?_;refine zQ ?_
 refine yX (fun x y=>⟨_,[(1,zy (yz y)),(0,zy (yz x))],[],[],(0,false)⟩)
   (fun x y=>(yz x).length≤a.length+b.length∧(yz y).length≤a.length+b.length∧Nat.gcd x y=Nat.gcd m n) (fun x y=>y)
   m n ⟨by omega,by omega,rfl⟩ (yo zk) ?_
 rintro x y ⟨hxl,hyl,hval⟩
 refine zh ?_;refine zg ?_;refine zd (fun _ k18=>?_) fun _ k18=>?_
 ·have hy0:y≠0:=fun h=>by rw [h,dig_zero] at k18;simp at k18
  have hyp:=Nat.pos_of_ne_zero hy0
  have hml:=Nat.mod_lt x hyp
  refine zg ?_;refine zf VH ?_;refine zg ?_;refine zf VH ?_;(iterate 5 refine zz ?_);refine zJ ?_;refine xS (K:=fun S1=>Ent S1 (⟨47,[(1,zy (yz y)),(0,zy (yz x))],[],[],(0,false)⟩)) ?_ ?_
  ·refine zr ?_
   refine Run.oneB (zG rfl rfl) rfl rfl rfl (fun h5_0=>?_) (fun h5_0=>?_)
   ·refine zg ?_;refine wE (fun h32=>?_) fun h32=>?_
    ·refine zr ?_;refine zo ((zG rfl rfl).sub (zD (n:=((x:Nat):Int)) (if_pos (of_decide_eq_true h5_0)))) ?_;refine zo ((zG rfl rfl).sub (zD (n:=((y:Nat):Int)) (if_pos (of_decide_eq_true h32)))) ?_;refine zf (zij (of_decide_eq_true h5_0) (of_decide_eq_true h32)) ?_;refine zf (Ue (Nat.lt_of_le_of_lt (Nat.gcd_le_right x hyp) (of_decide_eq_true h32))) ?_;refine zg ?_
     exact zj (zu (e:=by rw [hval]))
    ·refine zE ?_
     exact yo zk
   ·refine zg ?_;refine yM rfl rfl ?_;refine zE ?_
    exact yo zk
  ·intro S1 hS1
   refine wG hS1 ?_;refine zg ?_;refine zo (ze rfl rfl (Kw (by unfold cap;omega) (by unfold cap;omega))) ?_;(iterate 2 refine zz ?_);refine zo ((xo rfl rfl rfl).sub (show ∀I v,(zy (yz (if y=0 then 0 else x%y))).den I v→(zy (yz (x%y))).den I v from fun I v h=>by rw [if_neg hy0] at h;exact h)) ?_;refine zg ?_
   exact⟨y,x%y,⟨hyl,Nat.le_trans (zK (Nat.lt_trans hml (xj (Nat.le_refl _)))) hyl,by rw [Nat.gcd_comm,←Nat.gcd_rec,Nat.gcd_comm,hval]⟩,hml,yo (zb rfl (zb rfl (trivial)))⟩
 ·have hy0:y=0:=yR.1 (by omega)
  rw [hy0,Nat.gcd_zero_right] at hval
  refine zI ?_;refine zg ?_
  exact zj (zu (e:=by rw [hval]))
theorem zc6 {a g:List Nat} {m n:Nat} [hm:IsNat a m] [hn:IsNat g n] (hs:a.length+10000≤cap) (hs2:g.length+10000≤cap):zp Tryz.prog G 231 [zy a,zT [zy g]] (zy (yz (m/n))):=by
 refine zs Tryz.func231 ?_;refine zg ?_;refine zf (Kw hs hs2) ?_;refine zg ?_
 exact zj zt
theorem zmR {g:List Nat}:zp Tryz.prog G 170 [zy g] (wp 231 [zT [zy g]]):=by
 refine zs Tryz.func170 ?_;refine zg ?_
 exact zj zt
theorem zc7 [Tab G] {a b:List Nat} {m n:Nat} [hm:IsNat a m] [hn:IsNat b n] (hs:a.length+b.length+10000≤cap):zp Tryz.prog G 116 [zy a,zy b] (xn [zy (yz (m/Nat.gcd m n)),zy (yz (n/Nat.gcd m n))]):=by
 have hgl:(yz (Nat.gcd m n)).length≤a.length+b.length:=by
  rcases Nat.eq_zero_or_pos m with h | h
  ·rw [h,Nat.gcd_zero_left];exact Nat.le_trans (zK (by rw [←hn.val];exact wn hn.lim)) (Nat.le_add_left _ _)
  ·exact Nat.le_trans (zK (Nat.lt_of_le_of_lt (Nat.gcd_le_left n h) (by rw [←hm.val];exact wn hm.lim))) (Nat.le_add_right _ _)
 have hs0:=hs
 unfold cap at hs
 refine zs Tryz.func116 ?_;refine zg ?_;refine zf (zkA hs0) ?_;refine zz ?_;refine zJ ?_;refine zh ?_;refine zg ?_;refine zd (fun _ k13=>?_) fun _ k13=>?_
 ·have hg0:Nat.gcd m n=0:=yR.1 (by omega)
  refine zr ?_;refine zo ((yS rfl rfl).sub (wF (l:=yz (m/Nat.gcd m n)) (by rw [hg0,Nat.div_zero,dig_zero]))) ?_;refine zo ((yS rfl rfl).sub (wF (l:=yz (n/Nat.gcd m n)) (by rw [hg0,Nat.div_zero,dig_zero]))) ?_;refine zJ ?_
  exact zj zt
 ·refine zg ?_;refine zf zmR ?_;refine zg ?_;refine zo (yI rfl rfl rfl (zc6 (by unfold cap;omega) (by unfold cap;omega))) ?_;refine zg ?_;refine zo (yI rfl rfl rfl (zc6 (by unfold cap;omega) (by unfold cap;omega))) ?_;refine zg ?_
  exact zj zt
theorem zc8 {a b:Nat} (ha:a<18446744073709551616) (hb:b<18446744073709551616):zp Tryz.prog G 112 [intS .u64 (a:Nat),intS .u64 (b:Nat)] (intS .u64 (Nat.gcd a b:Nat)):=by
 refine zs Tryz.func112 ?_;refine zr ?_;refine zz ?_;refine zJ ?_;refine zh ?_;refine zQ ?_
 refine yX (fun x y=>⟨_,[(1,intS .u64 (y:Nat)),(0,intS .u64 (x:Nat))],[],[],(0,false)⟩)
   (fun x y=>x<18446744073709551616∧y<18446744073709551616∧Nat.gcd x y=Nat.gcd a b) (fun x y=>y)
   a b ⟨ha,hb,rfl⟩ (yo zk) ?_
 rintro x y ⟨hxl,hyl,hval⟩
 refine zh ?_;refine zg ?_;refine zd (fun _ k6=>?_) fun _ k6=>?_
 ·have hyp:0<y:=by omega
  have hml:=Nat.mod_lt x hyp
  refine zg ?_;refine Zu 6 (by kernel_rfl) ?_;refine zg ?_;refine zo ((wV rfl rfl rfl (by omega) (by omega)).sub (zD (n:=((x%y:Nat):Int)) (Int.natCast_emod _ _).symm)) ?_;refine zg ?_
  exact⟨y,x%y,⟨hyl,by omega,by rw [Nat.gcd_comm,←Nat.gcd_rec,Nat.gcd_comm,hval]⟩,hml,yo (zb rfl (zb rfl (trivial)))⟩
 ·have hy0:y=0:=by omega
  rw [hy0,Nat.gcd_zero_right] at hval
  refine zI ?_;refine zg ?_
  exact zj (zu (e:=by rw [hval]))
theorem WT {a:List Nat} {m:Nat} [hm:IsNat a m] (h0:m≠0) (hs:a.length≤cap):zp Tryz.prog G 164 [zy a] (intS .i64 (tz m:Nat)):=by
 unfold cap at hs
 refine zs Tryz.func164 ?_;refine zr ?_;refine zz ?_;refine zx ?_;refine zz ?_;refine zJ ?_;refine xS (K:=fun S1=>∃ i,i<a.length∧limb a i≠0∧(∀t,t<i→limb a t=0)∧Ent S1 ⟨34,[(3,intS .i64 (32*i:Nat)),(0,zy a)],[],[],(0,false)⟩) ?_ ?_
 ·refine zg ?_
  refine yK (γ:=Nat) (fun i=>⟨_,[(4,intS .i64 (i:Nat)),(3,intS .i64 (32*i:Nat)),(0,zy a)],[],[],(0,false)⟩) (fun i=>i≤a.length∧∀ t,t<i→limb a t=0) (fun i=>a.length-i) 0 ⟨Nat.zero_le _,fun t h=>by omega⟩ (yo zk) ?_
  rintro i ⟨hi,hz⟩
  have hfin:(i=a.length∨limb a i≠0)→i<a.length∧limb a i≠0:=fun h=>by
   rcases h with h | h
   ·exfalso;apply h0;rw [←hm.val]
    have:val a=val []:=ud fun t=>by rcases Nat.lt_or_ge t i with h1 | h1;rw [hz t h1,vR];rw [xY (by omega),vR]
    exact this
   ·refine⟨?_,h⟩;rcases Nat.lt_or_ge i a.length with h1 | h1;exact h1;exact absurd (xY h1) h
  refine zh ?_;refine zr ?_;(iterate 3 refine zz ?_)
  refine Run.oneB (zZ rfl rfl rfl rfl) rfl rfl rfl (fun h3_3=>?_) (fun h3_3=>?_)
  ·have k3_3:=of_decide_eq_true h3_3
   refine zg ?_;refine zo (zi rfl rfl rfl (by omega) (y:=limb a i) (yV (by omega))) ?_;refine zg ?_;refine zd (fun _ k16=>?_) fun _ k16=>?_
   ·refine zE ?_;refine zh ?_;refine zg ?_;refine za ((32*(i+1):Nat):Int) ?_;refine zg ?_;refine za ((i+1:Nat):Int) ?_;refine zg ?_
    exact⟨i+1,⟨by omega,fun t ht=>by rcases Nat.lt_or_ge t i with h | h;exact hz t h;rw [show t=i by omega];omega⟩,by omega,yo (zb rfl (zb rfl (zb rfl (trivial))))⟩
   ·refine zI ?_
    exact⟨i,(hfin (.inr (by omega))).1,(hfin (.inr (by omega))).2,hz,yo zk⟩
  ·have k3_3:=of_decide_eq_false h3_3
   refine zg ?_;refine yM rfl rfl ?_;refine zI ?_
   exact⟨i,(hfin (.inl (by omega))).1,(hfin (.inl (by omega))).2,hz,yo zk⟩
 ·rintro S1 ⟨i,hi1,hi2,hz,hS1⟩
  refine wG hS1 ?_
  have hax:=yF hm.lim i
  refine zh ?_;refine zg ?_;refine zo ((wU rfl rfl rfl (by omega) (by omega) (wrap_i64 (by omega) (by omega))).sub (zD (n:=((i:Nat):Int)) (by omega))) ?_;refine zo (zi rfl rfl rfl (by omega) (y:=limb a i) (yV hi1)) ?_;refine zg ?_
  refine yX (fun j w=>⟨_,[(5,intS .u32 (w:Nat)),(3,intS .i64 (32*i+j:Nat))],[],[],(0,false)⟩) (fun j w=>w=limb a i/2^j∧j<32∧limb a i%2^j=0∧w≠0∧w<4294967296) (fun j w=>32-j) 0 (limb a i) ⟨by rw [Nat.pow_zero,Nat.div_one],by decide,by rw [Nat.pow_zero];exact Nat.mod_one _,hi2,hax⟩ (yo (zb rfl (zb rfl (trivial)))) ?_
  rintro j w ⟨hw,hj,hj1,hj2,hj3⟩
  refine zh ?_;refine zg ?_;refine zo ((wV rfl rfl rfl (by omega) (by omega)).sub (zD (n:=((w%2:Nat):Int)) (by omega))) ?_;refine zg ?_;refine zd (fun _ k28=>?_) fun _ k28=>?_
  ·have hd2:w/2=limb a i/2^(j+1):=by rw [Nat.pow_succ,←Nat.div_div_eq_div_mul,hw]
   refine zE ?_;refine zh ?_;refine zg ?_;refine za ((32*i+(j+1):Nat):Int) ?_;refine zg ?_;refine zo ((wU rfl rfl rfl (by omega) (by omega) (vH (by omega) (by omega))).sub (zD (n:=((w/2:Nat):Int)) (by omega))) ?_;refine zz ?_;refine zJ ?_
   refine⟨j+1,w/2,⟨hd2,?_,?_,by omega,by omega⟩,by omega,yo zk⟩
   ·rcases Nat.lt_or_ge (j+1) 32 with h | h
    ·exact h
    ·exfalso
     have:j+1=32:=by omega
     rw [this,Nat.div_eq_of_lt (show limb a i<2^32 from hax)] at hd2;omega
   ·have h1:=Nat.div_add_mod (limb a i) (2^j)
    rw [hj1,Nat.add_zero,←hw] at h1
    have h2:limb a i=2^(j+1)*(w/2):=by rw [Nat.pow_succ,Nat.mul_assoc,Nat.mul_div_cancel' (Nat.dvd_of_mod_eq_zero (by omega))];exact h1.symm
    rw [h2,Nat.mul_mod_right]
  ·refine zI ?_;refine zg ?_
   exact zj (zu (e:=congrArg (fun x:Nat=>intS .i64 x) (by rw [←hm.val,zkz hm.lim hz hj1 (by rw [←hw];omega) hj])))
theorem zik {a b:List Nat} {m n:Nat} [hm:IsNat a m] [hn:IsNat b n] (hs:32*max a.length b.length+1000≤65536):zp Tryz.prog G 114 [zy a,zy b] (zy (yz (Nat.gcd m n))):=by
 have hla:(yz m).length≤a.length:=zK (by rw [←hm.val];exact wn hm.lim)
 have hlb:(yz n).length≤b.length:=zK (by rw [←hn.val];exact wn hn.lim)
 have htz:∀ x,x≠0→(yz x).length≤max a.length b.length→tz x≤65536:=fun x h0 h=>by
  have h1:=xj h
  rw [show (4294967296:Nat)=2^32 from rfl,←Nat.pow_mul] at h1
  have:=zp4 h0 h1;omega
 have hdl:∀ x y,x≤y→(yz y).length≤max a.length b.length→(yz x).length≤max a.length b.length:=fun x y h h1=>zK (Nat.lt_of_le_of_lt h (xj h1))
 refine zs Tryz.func114 ?_;refine zg ?_;refine zo (ze rfl rfl (xE (by unfold cap;omega))) ?_;refine zz ?_;refine zo (ze rfl rfl (xE (by unfold cap;omega))) ?_;(iterate 2 refine zz ?_);refine zJ ?_;refine zh ?_;refine zr ?_;(iterate 2 refine zz ?_)
 refine Run.oneB (zZ rfl rfl rfl rfl) rfl rfl rfl (fun h2_2=>?_) (fun h2_2=>?_)
 ·have k2_2:=beq_iff_eq.1 h2_2
  refine zg ?_;refine xt rfl rfl ?_;refine zr ?_
  have i1:Sz (yz m) a.length:=⟨hla⟩
  have i2:Sz (yz n) b.length:=⟨hlb⟩
  refine zg ?_;refine zo (zB rfl rfl (by decide) rfl (by simp) rfl rfl) ?_;refine zo (ze rfl rfl (Xq (by unfold cap;omega))) ?_;refine zg ?_
  exact zj (zu (e:=by rw [show m=0 from yR.1 (by omega),Nat.gcd_zero_left,Nat.zero_add]))
 ·have k2_2:=beq_eq_false_iff_ne.1 h2_2
  refine zg ?_;refine zd (fun _ k17=>?_) fun _ k17=>?_
  ·refine zr ?_
   have i1:Sz (yz m) a.length:=⟨hla⟩
   have i2:Sz (yz n) b.length:=⟨hlb⟩
   refine zg ?_;refine zo (zB rfl rfl (by decide) rfl (by simp) rfl rfl) ?_;refine zo (ze rfl rfl (Xq (by unfold cap;omega))) ?_;refine zg ?_
   exact zj (zu (e:=by rw [show n=0 from yR.1 (by omega),Nat.gcd_zero_right,Nat.add_zero]))
  ·have hm0:m≠0:=fun h=>by rw [h,dig_zero] at k2_2;exact k2_2 rfl
   have hn0:n≠0:=fun h=>by rw [h,dig_zero] at k17;exact k17 rfl
   refine zg ?_;refine zo (ze rfl rfl (WT hm0 (by unfold cap;omega))) ?_;refine zz ?_;refine zo (ze rfl rfl (WT hn0 (by unfold cap;omega))) ?_;refine zo ((UY rfl rfl rfl).sub (zD (n:=((min (tz m) (tz n):Nat):Int)) (by omega))) ?_;refine zz ?_;refine zJ ?_;refine zh ?_;refine zQ ?_
   refine yX (fun x y=>⟨_,[(5,intS .i64 (min (tz m) (tz n):Nat)),(1,zy (yz y)),(0,zy (yz x))],[],[],(0,false)⟩)
     (fun x y=>(yz x).length≤max a.length b.length∧(yz y).length≤max a.length b.length∧zih m n (min (tz m) (tz n)) x y) (fun x y=>x+y)
     m n ⟨by omega,by omega,ze2 hm0 hn0⟩ (yo zk) ?_
   rintro x y ⟨hxl,hyl,hval⟩
   refine zh ?_;refine zg ?_;refine zd (fun _ k29=>?_) fun _ k29=>?_
   ·have hx0:x≠0:=fun h=>by rw [h,dig_zero] at k29;simp at k29
    obtain⟨u,hu1,hu2,hu3,hu4⟩:=zat hx0
    obtain⟨v,hv1,hv2,hv3,hv4⟩:=zat hval.1
    obtain⟨hst1,hst2⟩:=zii hval hx0 hu1 hv1 hu2 hv2
    refine zg ?_;refine zo (ze rfl rfl (WT hx0 (by unfold cap;omega))) ?_;refine zo ((ze rfl rfl (Kr (htz x hx0 hxl) (by unfold cap;omega))).sub (show ∀I w,(zy (yz (x/2^tz x))).den I w→(zy (yz u)).den I w from fun I w h=>by rw [hu3] at h;exact h)) ?_;refine zg ?_;refine zo (ze rfl rfl (WT hval.1 (by unfold cap;omega))) ?_;refine zo ((ze rfl rfl (Kr (htz y hval.1 hyl) (by unfold cap;omega))).sub (show ∀I w,(zy (yz (y/2^tz y))).den I w→(zy (yz v)).den I w from fun I w h=>by rw [hv3] at h;exact h)) ?_;refine zz ?_;refine zJ ?_;refine zh ?_;refine zg ?_;refine zf zam ?_;refine zg ?_;refine zd (fun _ k41=>?_) fun _ k41=>?_
    ·have huv:u<v:=by rcases Nat.lt_or_ge u v with h | h;exact h;unfold ue at k41;rw [if_neg (by omega)] at k41;split at k41 <;> omega
     refine zg ?_;refine zo (ze rfl rfl (YM (by have:=hdl v y hv4 hyl;unfold cap;omega))) ?_;refine zg ?_
     exact⟨v-u,u,⟨hdl _ y (by omega) hyl,hdl _ x hu4 hxl,hst2 (by omega)⟩,by omega,yo zk⟩
    ·have huv:v≤u:=by rcases Nat.lt_or_ge u v with h | h;unfold ue at k41;rw [if_pos h] at k41;omega;exact h
     refine zg ?_;refine zo (ze rfl rfl (YM (by have:=hdl u x hu4 hxl;unfold cap;omega))) ?_;refine zg ?_
     exact⟨u-v,v,⟨hdl _ x (by omega) hxl,hdl _ y hv4 hyl,hst1 huv⟩,by omega,yo zk⟩
   ·have hx0:x=0:=yR.1 (by omega)
    have hg:=hval.2.1 hx0
    have htm:=htz m hm0 (by omega)
    refine zI ?_;refine zg ?_;refine zo (ze rfl rfl (zcZ (by omega) (by unfold cap;omega))) ?_;refine zg ?_
    exact zj (zu (e:=by rw [hg]))
end Go.Proofs
