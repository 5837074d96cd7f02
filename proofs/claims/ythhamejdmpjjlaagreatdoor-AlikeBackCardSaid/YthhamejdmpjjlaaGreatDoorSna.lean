/- Natural numbers as the program holds them: what a slice of limbs says, classes that carry bounds. -/
import Derived.Test.YthhamejdmpjjlaaGreatDoorSvw
import Derived.Test.YthhamejdmpjjlaaGreatDoorSma
import Derived.Test.YthhamejdmpjjlaaGreatDoorSvt
namespace Go.Proofs
open Go Go.Sv Num
abbrev xP (x:Nat):List SV:=[intS .u32 x]
abbrev zy (l:List Nat):SV:=zU 1 xP l
class IsNat (l:List Nat) (n:outParam Nat):Prop where
 lim:xU l
 val:Num.val l=n
instance isNat_dig {n:Nat}:IsNat (yz n) n:=⟨xe n,xq n⟩
instance isNat_nil:IsNat [] 0:=⟨vB,rfl⟩
theorem vT {l:List Nat} (h:xU l):IsNat l (val l):=⟨h,rfl⟩
instance isNat_one:IsNat [1] 1:=⟨um (by omega) vB,rfl⟩
class Sz (l:List Nat) (k:outParam Nat):Prop where
 h:l.length≤k
class Bd (n:Nat) (k:outParam Nat):Prop where
 h:n<4294967296^k
instance {n k:Nat} [h:Bd n k]:Sz (yz n) k:=⟨zK h.h⟩
instance:Sz [] 0:=⟨Nat.le_refl _⟩
instance {x:Nat}:Sz [x] 1:=⟨Nat.le_refl _⟩
theorem Yq {m n k l:Nat} (h:n<4294967296^k) (hm:m≤n) (hk:k≤l):m<4294967296^l:=
 Nat.lt_of_le_of_lt hm (Nat.lt_of_lt_of_le h (Nat.pow_le_pow_right (by omega) hk))
theorem Bd.of_val {l:List Nat} {n k:Nat} (h:IsNat l n) (hk:Sz l k):Bd n k:=⟨by rw [←h.val];exact Yq (wn h.lim) (Nat.le_refl _) hk.h⟩
instance bd_zero:Bd 0 0:=⟨by simp⟩
instance bd_one:Bd 1 1:=⟨by simp⟩
instance bd_two:Bd 2 1:=⟨by simp⟩
instance bd_mul {m n k l:Nat} [h:Bd m k] [h':Bd n l]:Bd (m*n) (k+l):=⟨by
 rw [Nat.pow_add];exact Nat.mul_lt_mul_of_lt_of_lt h.h h'.h⟩
instance bd_add {m n k l:Nat} [h:Bd m k] [h':Bd n l]:Bd (m+n) (k+l+1):=⟨by
 have h1:=Yq (l:=k+l) h.h (Nat.le_refl _) (by omega)
 have h2:=Yq (l:=k+l) h'.h (Nat.le_refl _) (by omega)
 rw [yZ];omega⟩
instance bd_sub {m n k:Nat} [h:Bd m k]:Bd (m-n) k:=⟨Yq h.h (by omega) (Nat.le_refl _)⟩
instance bd_div {m n k:Nat} [h:Bd m k]:Bd (m/n) k:=⟨Yq h.h (Nat.div_le_self _ _) (Nat.le_refl _)⟩
instance bd_mod {m n k:Nat} [h:Bd m k]:Bd (m%n) k:=⟨Yq h.h (Nat.mod_le _ _) (Nat.le_refl _)⟩
instance bd_gcd {m n k l:Nat} [h:Bd m k] [h':Bd n l]:Bd (Nat.gcd m n) (k+l):=⟨by
 by_cases hm:m=0
 ·subst hm;rw [Nat.gcd_zero_left];exact Yq h'.h (Nat.le_refl _) (by omega)
 ·exact Yq h.h (Nat.gcd_le_left n (by omega)) (by omega)⟩
instance bd_ite {c:Prop} [Decidable c] {m n k l:Nat} [h:Bd m k] [h':Bd n l]:Bd (if c then m else n) (k+l):=⟨by
 split
 ·exact Yq h.h (Nat.le_refl _) (by omega)
 ·exact Yq h'.h (Nat.le_refl _) (by omega)⟩
def cap:Nat:=1073741824
theorem Sz.le {l:List Nat} {k:Nat} [h:Sz l k] (hk:k≤cap):l.length≤cap:=Nat.le_trans h.h hk
theorem Sz.le2 {a b:List Nat} {k l:Nat} [h:Sz a k] [h':Sz b l] (hk:max k l≤cap):max a.length b.length≤cap:=by have:=h.h;have:=h'.h;omega
theorem Sz.le3 {a b:List Nat} {k l:Nat} [h:Sz a k] [h':Sz b l] (hk:k+l+2≤cap):a.length+b.length+2≤cap:=by have:=h.h;have:=h'.h;omega
theorem zeI {l:List Nat} {I:Imm} {v:Value} (h:(zU 1 id (l.map xP)).den I v):(zy l).den I v:=by
 obtain⟨a,cap,hv,h1,h2,h3⟩:=h
 rw [List.length_map] at hv h1 h2
 refine⟨a,cap,hv,h1,h2,?_⟩
 rcases h3 with h | ⟨b,o,ha,h⟩
 ·exact .inl (by simpa using h)
 ·refine .inr ⟨b,o,ha,fun i x hx=>?_⟩
  have:=h i (xP x) (by rw [List.getElem?_map,hx];rfl)
  exact this
theorem Wi {α:Type} {st:Nat} {f:α→List SV} {I:Imm}:(zU st f []).den I (.slice none 0 0):=⟨none,0,rfl,Nat.le_refl _,Nat.zero_le _,.inl rfl⟩
theorem wF {l:List Nat} (h:l=[]) (I:Imm) (v:Value) (hv:(eqS (.slice none 0 0)).den I v):(zy l).den I v:=by
 subst h;cases hv;exact Wi
theorem xl {P:Program} {G:Imm} {H:HL} {o:Oper} {g:List (Nat×SV)} {t e n:Nat} {zs:List Value} [IsSl P t e 1] [IsZero P e zs] {parts:Array (Nat×Operand)} {ps:List (Nat×SV)} {qs:List (Nat×List SV)} (l:List Nat) (hop:o.op= .buildSlice t n parts) (hp:YD g parts.toList=some ps) [FlatL ps qs]
  (hn:n*1≤16777216) (hq:qs.length=n) (hne:n=0∨zs≠[]) (hl:Wc 1 (qs.map (·.2))=true)
  (hc:Vr ((List.range n).map fun i=>(i*1,1)) ((yB zs (n*1)).map eqS) qs=some (qs.map (·.2)).flatten) (he:qs.map (·.2)=l.map xP):OpOK P G H o g (zy l):=
 (zB hop hp hn hq hne hl hc).sub fun _ _ h=>zeI (he▸h)
def ue {α:Type} [LT α] [DecidableLT α] (a b:α):Int:=if a<b then -1 else if b<a then 1 else 0
theorem Yr {x y:Nat} (hx:x<18446744073709551616) (hy:y<18446744073709551616):zew .or .u64 x y=((x ||| y:Nat):Int):=by
 have h:x ||| y<2^64:=Nat.or_lt_two_pow (by simpa using hx) (by simpa using hy)
 have e1:(BitVec.ofInt 64 (x:Int)).toNat=x:=by simp;omega
 have e2:(BitVec.ofInt 64 (y:Int)).toNat=y:=by simp;omega
 show IntKind.u64.wrap ((BitVec.ofInt 64 (x:Int) ||| BitVec.ofInt 64 (y:Int)).toNat:Nat)=_
 rw [BitVec.toNat_or,e1,e2,xf (by omega) (by simp at h;omega)]
theorem Wj {x y:Nat} (hx:x<18446744073709551616) (hy:y<18446744073709551616):zew .and .u64 x y=((x &&& y:Nat):Int):=by
 have h:x &&& y<2^64:=Nat.lt_of_le_of_lt Nat.and_le_left (by simpa using hx)
 have e1:(BitVec.ofInt 64 (x:Int)).toNat=x:=by simp;omega
 have e2:(BitVec.ofInt 64 (y:Int)).toNat=y:=by simp;omega
 show IntKind.u64.wrap ((BitVec.ofInt 64 (x:Int) &&& BitVec.ofInt 64 (y:Int)).toNat:Nat)=_
 rw [BitVec.toNat_and,e1,e2,xf (by omega) (by simp at h;omega)]
theorem Jv {x y:Nat} (hy:y<4294967296):4294967296*x ||| y=4294967296*x+y:=by
 have:=Nat.shiftLeft_add_eq_or_of_lt (i:=32) (b:=y) (by simpa using hy) x
 rw [Nat.shiftLeft_eq] at this;rw [Nat.mul_comm];simpa using this.symm
end Go.Proofs
/- Contracts of the functions of nat. -/
namespace Go.Proofs
open Go Go.Sv Num
variable {G:Imm}
theorem yJ {l:List Nat}:∀ x∈l,(xP x).length=1:=fun _ _=>rfl
theorem Kb {l:List Nat} (hl:l.length≤cap):zp Tryz.prog G 131 [zy l] (zy l):=by
 unfold cap at hl
 refine zs Tryz.func131 ?_;refine zr ?_;refine zz ?_;refine zJ ?_;refine zh ?_;refine zg ?_;refine zo (YF rfl rfl rfl) ?_;refine zJ ?_;refine Qa rfl rfl (fun hc1=>?_) ?_
 ·refine zr ?_;refine zo ((yS rfl rfl).sub (wF hc1)) ?_;refine zJ ?_
  exact zj zt
 ·refine zg ?_;refine Run.buildRow rfl rfl rfl rfl rfl rfl (by decide) rfl (.inl rfl) rfl rfl fun b5 hb5=>?_;refine zz ?_;refine Run.append 0 rfl rfl rfl rfl rfl rfl rfl rfl hb5 rfl yJ (by unfold yP;omega) (by unfold yP;omega) fun q7 hq7=>?_;refine Run.ghost _ rfl (yU 0 7 rfl rfl hq7 (l:=l) (f:=xP) (by omega) rfl yJ (by unfold yP;omega)) ?_;refine zg ?_
  exact zj zt
theorem ZO {l:List Nat} {i:Nat}:zp Tryz.prog G 139 [zy l,intS .i64 i] (intS .u32 (limb l i)):=by
 refine zs Tryz.func139 ?_;refine zr ?_;refine zz ?_;refine zJ ?_
 refine zh (UW ?_)
 refine zg ?_;refine wE (fun hb=>?_) fun hb=>?_
 ·have:=of_decide_eq_true hb
  refine zg ?_;refine zo (zi rfl rfl rfl (by omega) (y:=limb l i) (yV (by omega))) ?_;refine zg ?_
  exact zj zt
 ·have:=of_decide_eq_false hb
  refine zg ?_
  exact zj (zu (e:=by rw [xY (by omega)];rfl))
theorem xV {l:List Nat} {n:Nat} [hn:IsNat l n] (hk:l.length≤cap:=by exact Sz.le (by decide)):zp Tryz.prog G 91 [zy l] (zy (yz n)):=by
 have hk':=hk
 unfold cap at hk'
 refine zs Tryz.func91 ?_;refine zr ?_;refine zz ?_;refine zx ?_;(iterate 3 refine zz ?_);refine zJ ?_;refine zh ?_;refine zQ ?_;refine yK (γ:=Nat) (fun g=>⟨_,[(3,intS .i64 g),(0,zy l)],[],[],(0,false)⟩) (fun g=>g≤l.length∧∀ i,g≤i→limb l i=0) (fun g=>g) l.length ⟨Nat.le_refl _,fun i h=>xY h⟩ (yo zk) ?_
 rintro g ⟨hg,hz⟩
 have fin:(g=0∨limb l (g-1)≠0)→l.take g=yz n:=fun h=>by rw [←hn.val];exact Qc hn.lim hg hz h
 refine zh ?_;refine zr ?_;refine zz ?_
 refine Run.oneB (zZ rfl rfl rfl rfl) rfl rfl rfl (fun hb1=>?_) (fun hb1=>?_)
 ·have h0:=of_decide_eq_true hb1
  refine zg ?_;refine za ((g-1:Nat):Int) ?_;refine zo (zi rfl rfl rfl (by omega) (y:=limb l (g-1)) (yV (by omega))) ?_;refine zg ?_;refine wE (fun hc2=>?_) fun hc2=>?_
  ·have h1:limb l (g-1)=0:=by simpa using hc2
   refine zg ?_;refine za ((g-1:Nat):Int) ?_;refine zg ?_
   exact⟨g-1,⟨by omega,fun i hi=>by by_cases h:g≤i;exact hz i h;rw [show i=g-1 by omega];exact h1⟩,by omega,yo (zb rfl (zb rfl trivial))⟩
  ·have h1:limb l (g-1)≠0:=by simpa using hc2
   refine zI ?_;refine zg ?_;refine zo (xX (lo:=0) (hi:=g) (m:=g) rfl rfl (.inl ⟨rfl,rfl⟩) (.inr ⟨_,_,rfl,rfl⟩) (.inr ⟨_,_,rfl,rfl,Nat.le_refl _,hg⟩) (by omega) hg) ?_;refine zo (ze rfl rfl (Kb (l:=l.take g) (by simp;omega))) ?_;refine zg ?_
   exact zj (zu (e:=congrArg zy (fin (.inr h1))))
 ·have h0:=of_decide_eq_false hb1
  refine zg ?_;refine yM rfl rfl ?_;refine zI ?_;refine zg ?_;refine zo (xX (lo:=0) (hi:=g) (m:=g) rfl rfl (.inl ⟨rfl,rfl⟩) (.inr ⟨_,_,rfl,rfl⟩) (.inr ⟨_,_,rfl,rfl,Nat.le_refl _,hg⟩) (by omega) hg) ?_;refine zo (ze rfl rfl (Kb (l:=l.take g) (by simp;omega))) ?_;refine zg ?_
  exact zj (zu (e:=congrArg zy (fin (.inl (by omega)))))
end Go.Proofs
/- Contracts of the functions of nat, on. -/
namespace Go.Proofs
open Go Go.Sv Num
variable {G:Imm}
def VG (a b:List Nat):List (List SV):=(List.range (max a.length b.length)).map fun i=>[intS .u64 (limb a i),intS .u64 (limb b i)]
theorem wu {a b:List Nat}:(VG a b).length=max a.length b.length:=by simp [VG]
theorem Kc {a b:List Nat} {i:Nat} (h:i<max a.length b.length):(VG a b)[i]? =some [intS .u64 (limb a i),intS .u64 (limb b i)]:=by
 simp only [VG,List.getElem?_map,List.getElem?_range h,Option.map_some]
theorem Kd {a b:List Nat} {i:Nat} {ss:List SV} (h:(VG a b)[i]? =some ss):i<max a.length b.length∧ss=[intS .u64 (limb a i),intS .u64 (limb b i)]:=by
 have h1:i<max a.length b.length:=by have:=yt h;rwa [wu] at this
 refine⟨h1,?_⟩
 rw [Kc h1] at h;exact (Option.some.inj h).symm
theorem zaj {a b:List Nat} {ss:List SV} (h:ss∈VG a b):ss.length=2:=by
 obtain⟨i,_,rfl⟩:=List.mem_map.1 h;rfl
theorem zkg {l:List Nat} {n:Nat} (hl:xU l) (hv:val l=n) (hz:∀ j,1<j→limb l j=0):n=limb l 0+4294967296*limb l 1∧n<18446744073709551616:=by
 have h0:=yF hl 0
 have h1:=yF hl 1
 have:val l=val [limb l 0,limb l 1]:=ud fun j=>by
  match j with
  | 0=>rfl
  | 1=>rfl
  | j+2=>rw [hz _ (by omega)];rfl
 simp [val] at this
 omega
theorem zak {l:List Nat} {n:Nat} (_:xU l) (hv:val l=n) {j:Nat} (hj:1<j) (h:limb l j≠0):¬ n<18446744073709551616:=by
 intro hn
 have h1:j<l.length:=by
  by_cases h1:j<l.length
  ·exact h1
  ·exact absurd (xY (by omega)) h
 have e:=YG l j (by omega)
 have hp:val (l.drop j)≠0:=by
  rw [List.drop_eq_getElem_cons h1]
  have:limb l j=l[j]:=by simp [limb,List.getD_eq_getElem?_getD,h1]
  simp only [val];omega
 have:4294967296^2≤4294967296^j:=Nat.pow_le_pow_right (by omega) (by omega)
 have h3:4294967296^j*1≤4294967296^j*val (l.drop j):=Nat.mul_le_mul_left _ (by omega)
 omega
theorem zcP {a b:List Nat} {m n:Nat} [hm:IsNat a m] [hn:IsNat b n]:zp Tryz.prog G 132 [zy a,zy b] (intS .i64 (ue m n)):=by
 refine zs Tryz.func132 ?_;refine wT 0 rfl fun ha=>wT 1 rfl fun hb=>?_
 unfold yP at ha hb
 refine zr ?_;refine zz ?_;refine zJ ?_;refine ut ?_;refine zh ?_;refine us ?_;refine zh ?_;refine zg ?_;refine zo (yA (z:=((max a.length b.length:Nat):Int)-1) rfl rfl rfl (congrArg some (by omega)) (wrap_i64 (by omega) (by omega))) ?_;refine zg ?_
 refine yK (γ:=Nat) (fun g=>⟨_,[(5,intS .i64 ((g:Int)-1)),(4,intS .i64 0),(0,zy a),(1,zy b)],[],[],(0,false)⟩) (fun g=>g≤max a.length b.length∧∀ j,g≤j→j<max a.length b.length→limb a j=limb b j) (fun g=>g) (max a.length b.length) ⟨Nat.le_refl _,fun j h1 h2=>by omega⟩ (yo zk) ?_
 rintro g ⟨hg,hz⟩
 refine zh ?_;refine zg ?_;refine zd (fun _ k15=>?_) fun _ k15=>?_
 ·refine zE ?_;refine zh ?_;refine zQ ?_;refine zr ?_;refine zz ?_;refine zo ((zG rfl rfl).sub (zD (show (g:Int)-1=((g-1:Nat):Int) by omega))) ?_;refine zf ZO ?_;refine zz ?_;refine zo ((zG rfl rfl).sub (zD (show (g:Int)-1=((g-1:Nat):Int) by omega))) ?_;refine zf ZO ?_;refine zg ?_;refine zd (fun _ k24=>?_) fun _ k24=>?_
  ·refine zg ?_;refine zI ?_;refine zg ?_;refine zj ?_
   exact⟨_,[],.one (.tmp rfl),List.nil_sublist _,by
    have:=zbs hm.lim (i:=g-1) (n:=max a.length b.length) (by omega) (by omega) (by omega) (fun j h1 h2=>hz j (by omega) h2) (by omega)
    rw [hm.val,hn.val] at this
    unfold ue;rw [if_pos this],rfl⟩
  ·refine zg ?_;refine zd (fun _ k28=>?_) fun _ k28=>?_
   ·refine zg ?_;refine zI ?_;refine zg ?_;refine zj ?_
    exact⟨_,[],.one (.tmp rfl),List.nil_sublist _,by
     have:=zbs hn.lim (a:=b) (b:=a) (i:=g-1) (n:=max a.length b.length) (by omega) (by omega) (by omega) (fun j h1 h2=>(hz j (by omega) h2).symm) (by omega)
     rw [hm.val,hn.val] at this
     unfold ue;rw [if_neg (by omega),if_pos this],rfl⟩
   ·refine zg ?_;refine zA ?_;refine zg ?_
    exact⟨g-1,⟨by omega,fun j h1 h2=>by by_cases h:g≤j;exact hz j h h2;rw [show j=g-1 by omega];omega⟩,by omega,yo (xk rfl (congrArg (intS .i64) (by omega)) (zb rfl (zb rfl (zb rfl trivial))))⟩
 ·refine zI ?_;refine zg ?_;refine zj ?_
  exact⟨_,[],.one (.tmp rfl),List.nil_sublist _,by
   have:=WP (a:=a) (b:=b) (n:=max a.length b.length) (by omega) (by omega) (fun j h=>hz j (by omega) h)
   rw [hm.val,hn.val] at this
   unfold ue;rw [if_neg (by omega),if_neg (by omega)],rfl⟩
theorem Ue {n:Nat} (h:n<18446744073709551616):zp Tryz.prog G 134 [intS .u64 n] (zy (yz n)):=by
 refine zs Tryz.func134 ?_;refine zg ?_;refine zo (yQ (z:=((n%4294967296:Nat):Int)) rfl rfl xx) ?_;refine zz ?_;refine zo (wr rfl rfl rfl (by omega) (by simp [IntKind.bits])) ?_;refine zo (yQ (z:=((n/4294967296:Nat):Int)) rfl rfl ((vH (by simp;omega) (by simp;omega)).trans (by simp))) ?_;refine zo (xl [n%4294967296,n/4294967296] rfl rfl (by decide) rfl (by simp) rfl rfl rfl) ?_
 have:IsNat [n%4294967296,n/4294967296] n:=⟨um (by omega) (um (by omega) vB),by simp [val];omega⟩
 refine zo (ze rfl rfl (xV (by simp [cap]))) ?_;refine zg ?_
 exact zj zt
theorem VH {l:List Nat} {n:Nat} [hn:IsNat l n]:zp Tryz.prog G 93 [zy l] (xn [intS .u64 (if n<18446744073709551616 then (n:Int) else 0),zm (decide (n<18446744073709551616))]):=by
 refine zs Tryz.func93 ?_;refine wT 0 rfl fun hl=>?_
 unfold yP at hl
 refine zr ?_;(iterate 2 refine zz ?_);refine zJ ?_;refine zh ?_;refine zg ?_
 refine yK (γ:=Nat) (fun g=>⟨_,[(8,intS .i64 g),(7,intS .i64 l.length),(6,zy l),(0,zy l)],[],[],(0,false)⟩) (fun g=>g≤l.length∧∀ j,1<j→j<g→limb l j=0) (fun g=>l.length-g) 0 ⟨Nat.zero_le _,fun j h1 h2=>by omega⟩ (yo zk) ?_
 rintro g ⟨hg,hz⟩
 refine zr ?_;refine zz ?_;refine zJ ?_;refine zh ?_;refine zd (fun _ k9=>?_) fun _ k9=>?_
 ·refine zE ?_;refine zh ?_;refine zg ?_;refine zo (zi rfl rfl rfl (by omega) (y:=limb l g) (yV (by omega))) ?_;(iterate 3 refine zz ?_);refine zx ?_;refine zz ?_
  refine Run.oneB (zZ rfl rfl rfl rfl) rfl rfl rfl (fun h4_1=>?_) (fun h4_1=>?_)
  ·have k4_1:=of_decide_eq_true h4_1
   refine zg ?_;refine zd (fun _ k18=>?_) fun _ k18=>?_
   ·refine zg ?_
    exact zj (zu (e:=by rw [if_neg (zak hn.lim hn.val (j:=g) (by omega) (by omega)),decide_eq_false (zak hn.lim hn.val (j:=g) (by omega) (by omega))]))
   ·refine zg ?_;refine zA ?_;refine zg ?_
    exact⟨g+1,⟨by omega,fun j h1 h2=>by by_cases h:j<g;exact hz j h1 h;rw [show j=g by omega];omega⟩,by omega,yo (zb rfl (zb rfl (zb rfl (zb rfl trivial))))⟩
  ·have k4_1:=of_decide_eq_false h4_1
   refine zg ?_;refine yM rfl rfl ?_;refine zg ?_;refine zA ?_;refine zg ?_
   exact⟨g+1,⟨by omega,fun j h1 h2=>by by_cases h:j<g;exact hz j h1 h;omega⟩,by omega,yo (zb rfl (zb rfl (zb rfl (zb rfl trivial))))⟩
 ·have hs:=zkg hn.lim hn.val (fun j h1=>by by_cases h:j<g;exact hz j h1 h;exact xY (by omega))
  have h1:=yF hn.lim 1
  have h0:=yF hn.lim 0
  refine zI ?_;refine zg ?_;refine zf (ZO (i:=1)) ?_;refine zA ?_;refine zo ((Zs rfl rfl rfl (by omega) (by simp [IntKind.bits])).sub (zD (n:=((4294967296*limb l 1:Nat):Int)) ((xf (by simp;omega) (by simp;omega)).trans (by simp;omega)))) ?_;refine zz ?_;refine zf (ZO (i:=0)) ?_;refine zA ?_;refine zo ((wI rfl (by simp) rfl rfl).sub (zD (n:=(n:Int)) (by rw [Yr (by omega) (by omega),Jv h0];omega))) ?_;refine zg ?_
  exact zj (zu (e:=by rw [if_pos hs.2,decide_eq_true hs.2]))
theorem QT {a b:List Nat} (ha:xU a) (hb:xU b):IterSpec Tryz.prog G 304 [zT [zy a],zT [zy b]] (VG a b):=by
 refine xH Tryz.func304 rfl rfl rfl rfl fun l E hy=>?_;refine zr ?_;(iterate 6 refine zz ?_);refine zJ ?_;refine zQ ?_;refine wT 5 rfl fun la=>wT 7 rfl fun lb=>?_
 unfold yP at la lb
 refine yK (γ:=Nat) (fun g=>⟨_,[(10,intS .i64 g),(9,intS .i64 ((max a.length b.length:Nat):Int)),(0,yieldS l),(1,zT [zy a]),(2,zT [zy b])],[],[],(g,false)⟩) (fun g=>g≤max a.length b.length) (fun g=>max a.length b.length-g) 0 (Nat.zero_le _) (yo (zb rfl (xk rfl (congrArg (intS .i64) (by omega)) zk))) ?_
 intro g hg
 refine zr ?_;refine zz ?_;refine zJ ?_;refine zh ?_;refine zd (fun _ k11=>?_) fun _ k11=>?_
 ·have h1:=yF ha g
  have h2:=yF hb g
  refine zE ?_;refine zh ?_;refine zg ?_;refine zS 9 (by kernel_rfl) ?_;refine zg ?_;refine zf ZO ?_;refine zA ?_;refine zg ?_;refine zf ZO ?_;refine zA ?_;refine zJ ?_;refine Run.yield rfl hy rfl rfl rfl (Kc (by omega)) (xi _) rfl rfl rfl fun y=>?_;refine zg ?_;refine wE (fun h23=>?_) fun h23=>?_
  ·refine zj ?_
   exact⟨.inl rfl,.inr h23⟩
  ·refine zg ?_;refine zA ?_;refine zg ?_
   exact⟨g+1,(by omega:g+1≤max a.length b.length),by omega,rfl,zb rfl (zb rfl (zb rfl (zb rfl (zb rfl trivial)))),xp _,rfl,by rw [h23]⟩
 ·refine zI ?_
  exact⟨.inr rfl,.inl (by rw [wu,show g=max a.length b.length by omega])⟩
theorem Ke {a b:List Nat}:zp Tryz.prog G 241 [zy a,zy b] (wp 304 [zT [zy a],zT [zy b]]):=by
 refine zs Tryz.func241 ?_;refine zg ?_
 exact zj zt
end Go.Proofs
/- Contracts of the sum and the difference of nat. -/
namespace Go.Proofs
open Go Go.Sv Num
variable {G:Imm}
theorem yH (l:List Nat):(l.flatMap xP).length=l.length*1:=by
 induction l with
 | nil=>rfl
 | cons x l ih=>simp only [List.flatMap_cons,List.length_append,ih,List.length_cons,List.length_nil];omega
theorem Ys (m:Nat):(m:Int)/2^(32:Int).toNat=((m/4294967296:Nat):Int):=by simp
theorem zoq (m:Nat):(m:Int)/2^(63:Int).toNat=((m/9223372036854775808:Nat):Int):=by simp
theorem Kf {p v o t x y z o' a b:Nat} (h:v+p*o=a+b) (ht:t=o+(x+y)) (hz:z=t%4294967296) (ho:o'=t/4294967296):v+p*z+p*4294967296*o'=a+p*x+(b+p*y):=by
 have e:p*(t%4294967296)+p*4294967296*(t/4294967296)=p*t:=by rw [Nat.mul_assoc,←Nat.mul_add,Nat.mod_add_div]
 subst hz;subst ho
 rw [ht,Nat.mul_add,Nat.mul_add] at e
 rw [ht];omega
def sb (x y u:Nat):Nat:=if y+u≤x then x-y-u else 18446744073709551616+x-y-u
theorem zcQ {p v o x y a b:Nat} (hx:x<4294967296) (hy:y<4294967296) (ho:o≤1) (h:a+p*o=v+b):
  a+p*x+p*4294967296*(sb x y o/9223372036854775808)=v+p*(sb x y o%4294967296)+(b+p*y):=by
 have e:x+4294967296*(sb x y o/9223372036854775808)=sb x y o%4294967296+y+o:=by unfold sb;split <;> omega
 have e2:=congrArg (p* ·) e
 simp only [Nat.mul_add,←Nat.mul_assoc] at e2
 omega
theorem YK {α:Type} (f:α→Nat) {l:List α} {g:Nat} {a:α} (h:l[g]? =some a):((l.take (g+1)).map f).sum=((l.take g).map f).sum+f a:=by
 rw [List.take_add_one,h];simp
theorem Yt {α:Type} (f:α→Nat) (l:List α) (g:Nat):((l.take g).map f).sum≤(l.map f).sum:=by
 have:(l.map f).sum=((l.take g).map f).sum+((l.drop g).map f).sum:=by rw [←List.sum_append,←List.map_append,List.take_append_drop]
 omega
def Zv (ll:List (List Nat)):List (List SV):=ll.map fun l=>[zy l]
theorem zcR {ll:List (List Nat)} (hl:∀ l∈ll,xU l) (hs:(ll.map List.length).sum+ll.length≤cap):zp Tryz.prog G 187 [zU 1 id (Zv ll)] (zy (yz (ll.map val).sum)):=by
 unfold cap at hs
 have hcl:(Zv ll).length=ll.length:=by simp [Zv]
 refine zs Tryz.func187 ?_;refine zr ?_;refine zz ?_;refine zJ ?_;refine zh ?_;refine zg ?_
 refine Zh (fun g s d=>⟨_,[(11,intS .i64 (g:Nat)),(10,intS .i64 ll.length),(9,zU 1 id (Zv ll)),(2,zy s)],[],d,(0,false)⟩)
   (fun g s d=>g≤ll.length∧xU s∧val s=((ll.take g).map val).sum∧s.length≤((ll.take g).map List.length).sum+g) (fun g s d=>ll.length-g) 0 [] [] ⟨Nat.zero_le _,vB,rfl,Nat.le_refl _⟩
   (yo (zb rfl (xk rfl (congrArg (intS .i64) (by rw [hcl])) (zb rfl ⟨⟨_,rfl,wF rfl⟩,trivial⟩)))) ?_
 rintro g s d ⟨hg,hls,hvs,hns⟩
 refine zr ?_;refine zz ?_;refine zJ ?_;refine zh ?_;refine zd (fun _ k12=>?_) fun _ k12=>?_
 ·obtain⟨a,ha⟩:∃ a,ll[g]? =some a:=⟨_,List.getElem?_eq_getElem (by omega)⟩
  have hla:=hl a (List.mem_of_getElem? ha)
  have hsl:=YK List.length ha
  have hsv:=YK val ha
  have hle:=Yt List.length ll (g+1)
  refine zE ?_;refine zh ?_;refine zg ?_;refine zo (zi rfl rfl rfl (by omega) (y:=[zy a]) (by show (Zv ll)[g]? =_;simp [Zv,ha])) ?_;refine zg ?_;refine xg fun b5=>?_;refine zg ?_;refine za ((max a.length s.length+1:Nat):Int) ?_;refine Run.make (n:=0) (c:=max a.length s.length+1) rfl rfl rfl rfl rfl rfl rfl (by omega) (by omega) (by unfold yP;omega) fun b21 hb21=>?_;refine xg fun b6=>?_;refine zw ?_;refine zJ ?_;refine zh ?_;refine zg ?_;refine zf Ke ?_;refine zg ?_
  refine ul rfl rfl (QT (a:=s) (b:=a) hls hla) (fun ss h=>zaj h) (by decide) rfl
    (fun k h i=>i=(0,false)∧∃ q over out,yu q k∧over≤1∧xU out∧out.length=k∧val out+4294967296^k*over=low s k+low a k ∧
     h=[⟨some b6,35,[eqS (rowV q k)],0⟩,rowE q 64 1 k (out.flatMap xP),⟨some b5,100,[intS .u64 (over:Nat)],0⟩])
    (fun _ _ _=>False) ⟨rfl,_,0,[],hb21,by omega,vB,rfl,rfl,rfl⟩ ?_ ?_ ?_
  ·rintro l k ss h i hk ⟨rfl,q,over,out,hq,ho,hlo,hln,hval,rfl⟩
   obtain⟨hk1,rfl⟩:=Kd hk
   have hx:=yF hls k
   have hy:=yF hla k
   refine zr ?_;refine zz ?_;refine zJ ?_;refine zO ?_;refine zz ?_;refine zJ ?_
   refine⟨rfl,?_⟩
   refine zg ?_;refine zo (yA rfl rfl rfl rfl (xf (by omega) (by omega))) ?_;refine za ((over+(limb s k+limb a k):Nat):Int) ?_;refine zg ?_;refine zo (yQ (z:=(((over+(limb s k+limb a k))%4294967296:Nat):Int)) rfl rfl xx) ?_;refine zo (xl [(over+(limb s k+limb a k))%4294967296] rfl rfl (by decide) rfl (by simp) rfl rfl rfl) ?_;refine Run.append 1 rfl rfl rfl rfl rfl rfl rfl rfl hq (by rw [yH,hln]) yJ (by unfold yP;simp;omega) (by unfold yP;simp;omega) fun q36 hq36=>?_;refine zg ?_;refine zo ((wr rfl rfl rfl (by omega) (by simp [IntKind.bits])).sub (zD (Ys _))) ?_;refine zw ?_;refine zJ ?_
   refine⟨rfl,q36,(over+(limb s k+limb a k))/4294967296,out++[(over+(limb s k+limb a k))%4294967296],hq36,by omega,wZ hlo (by omega),by simp [hln],?_,by rw [List.flatMap_append];rfl⟩
   rw [vK,hln,xr,xr,yZ];exact Kf hval rfl rfl rfl
  ·rintro h i D ⟨rfl,q,over,out,hq,ho,hlo,hln,hval,rfl⟩
   rw [wu] at hln hval hq
   rw [wJ (by omega),wJ (by omega)] at hval
   refine zO ?_;refine zo (yn 0 rfl rfl (by rw [wu];rfl) rfl) ?_;refine zz ?_;refine zA ?_;refine zo (xl [over] rfl rfl (by decide) rfl (by simp) rfl rfl rfl) ?_;refine Run.append 1 rfl rfl rfl rfl (by rw [wu];rfl) rfl rfl rfl hq (by rw [yH,hln]) yJ (by unfold yP;simp;omega) (by unfold yP;simp;omega) fun q43 hq43=>?_;refine zz ?_;refine Run.ghost _ rfl (yU 1 2 rfl rfl hq43 (l:=out++[over]) (f:=xP) (by simp [hln]) List.flatMap_append.symm yJ (by unfold yP;simp;omega)) ?_;refine Run.ghost _ rfl (zY (List.nil_sublist _)) ?_;refine zg ?_;refine zA ?_;refine zz ?_;refine zJ ?_
   refine⟨g+1,out++[over],D++d,⟨by omega,wZ hlo (by omega),?_,?_⟩,by omega,yo zk⟩
   ·rw [vK,hln,hsv];omega
   ·simp only [List.length_append,List.length_cons,List.length_nil,hln];omega
  ·intro h i D e c hc hInv;exact hInv.elim
 ·have hgl:g=ll.length:=by omega
  subst hgl
  rw [List.take_length] at hvs hns
  haveI:=vT hls
  refine zI ?_;refine zg ?_;refine zo (ze rfl rfl (xV (by unfold cap;omega))) ?_;refine zg ?_
  exact zj (zu (e:=congrArg zy (congrArg yz hvs)))
theorem YL {a b:List Nat} {m n k l:Nat} [ha:IsNat a m] [hb:IsNat b n] [hk:Sz a k] [hl:Sz b l] (h:k+l+2≤cap:=by decide):zp Tryz.prog G 187 [zU 1 id [[zy a],[zy b]]] (zy (yz (m+n))):=by
 have:=zcR (G:=G) (ll:=[a,b]) (fun l h=>by simp at h;rcases h with rfl | rfl;exact ha.lim;exact hb.lim) (by have:=hk.h;have:=hl.h;simp;omega)
 simp only [List.map_cons,List.map_nil,List.sum_cons,List.sum_nil,ha.val,hb.val,Nat.add_zero] at this
 exact this
theorem Kg {a b:List Nat} {m n:Nat} [hm:IsNat a m] [hn:IsNat b n] (hs:max a.length b.length≤cap:=by exact Sz.le2 (by decide)):zp Tryz.prog G 240 [zy a,zy b] (xn [zy (yz (m-n)),intS .i64 (if m<n then 10 else 0)]):=by
 unfold cap at hs
 refine zs Tryz.func240 ?_;refine zr ?_;(iterate 2 refine zz ?_);refine zJ ?_;refine zh ?_;refine zg ?_;refine zf zcP ?_;refine zg ?_;refine zd (fun _ k14=>?_) fun _ k14=>?_
 ·have hlt:m<n:=by unfold ue at k14;split at k14;assumption;split at k14 <;> omega
  refine zr ?_;refine zo ((yS rfl rfl).sub (wF (l:=yz (m-n)) (vC.2 (by omega)))) ?_;refine zg ?_
  exact zj (zu (e:=by rw [if_pos hlt]))
 ·have hge:n≤m:=by unfold ue at k14;split at k14 <;> omega
  refine zE ?_;refine zr ?_;refine Run.ghost _ rfl (yL 64 1) ?_;refine xg fun b6=>?_;refine zx ?_;refine xg fun b7=>?_;refine zw ?_;refine zJ ?_;refine zh ?_;refine zg ?_;refine zf Ke ?_;refine zg ?_
  refine ul rfl rfl (QT (a:=a) (b:=b) hm.lim hn.lim) (fun ss h=>zaj h) (by decide) rfl
    (fun k h i=>i=(0,false)∧∃ q under out,yu q k∧under≤1∧xU out∧out.length=k∧low a k+4294967296^k*under=val out+low b k ∧
     h=[⟨some b7,100,[intS .u64 (under:Nat)],0⟩,⟨some b6,35,[eqS (rowV q k)],0⟩,rowE q 64 1 k (out.flatMap xP)])
    (fun _ _ _=>False) ⟨rfl,none,0,[],rfl,by omega,vB,rfl,rfl,rfl⟩ ?_ ?_ ?_
  ·rintro l k ss h i hk ⟨rfl,q,under,out,hq,ho,hlo,hln,hval,rfl⟩
   obtain⟨hk1,rfl⟩:=Kd hk
   have hx:=yF hm.lim k
   have hy:=yF hn.lim k
   refine zr ?_;refine zz ?_;refine zJ ?_;refine zO ?_;refine zz ?_;refine zJ ?_
   refine⟨rfl,?_⟩
   refine zg ?_;refine zo (wX rfl rfl rfl rfl) ?_;refine zz ?_;refine zo ((wX rfl rfl rfl rfl).sub (zD (show _=((sb (limb a k) (limb b k) under:Nat):Int) by rw [wk,wk];unfold sb;split <;> omega))) ?_;refine zg ?_;refine zo (yQ (z:=((sb (limb a k) (limb b k) under%4294967296:Nat):Int)) rfl rfl xx) ?_;refine zo (xl [sb (limb a k) (limb b k) under%4294967296] rfl rfl (by decide) rfl (by simp) rfl rfl rfl) ?_;refine Run.append 2 rfl rfl rfl rfl rfl rfl rfl rfl hq (by rw [yH,hln]) yJ (by unfold yP;simp;omega) (by unfold yP;simp;omega) fun q29 hq29=>?_;refine zg ?_;refine zo ((wr rfl rfl rfl (by omega) (by simp [IntKind.bits])).sub (zD (zoq _))) ?_;refine zw ?_;refine zJ ?_
   refine⟨rfl,q29,sb (limb a k) (limb b k) under/9223372036854775808,out++[sb (limb a k) (limb b k) under%4294967296],hq29,?_,wZ hlo (by omega),by simp [hln],?_,by rw [List.flatMap_append];rfl⟩
   ·unfold sb;split <;> omega
   ·rw [vK,hln,xr,xr,yZ];exact zcQ hx hy ho hval
  ·rintro h i D ⟨rfl,q,under,out,hq,ho,hlo,hln,hval,rfl⟩
   rw [wu] at hln hval hq
   rw [wJ (by omega),wJ (by omega),hm.val,hn.val] at hval
   have hv:=wn hlo
   rw [hln] at hv
   have hu:under=0:=by
    rcases Nat.lt_or_ge 0 under with h | h
    ·have:under=1:=by omega
     subst this;omega
    ·omega
   subst hu
   haveI:IsNat out (m-n):=⟨hlo,by omega⟩
   refine zr ?_;refine zz ?_;refine Run.ghost _ rfl (yU 2 32 rfl rfl (by rw [wu];exact hq) (l:=out) (f:=xP) (by rw [wu];exact hln) rfl yJ (by rw [wu];unfold yP;omega)) ?_;refine zo (ze rfl rfl (xV (by unfold cap;omega))) ?_;refine zg ?_
   exact zj (zu (e:=by rw [if_neg (by omega)]))
  ·intro h i D e c hc hInv;exact hInv.elim
end Go.Proofs
/- Contracts of the functions of straitref01. -/
namespace Go.Proofs
open Go Go.Sv Num
variable {G:Imm}
theorem Uf (l:List Nat) (k:Nat):val (l.drop k)=limb l k+4294967296*val (l.drop (k+1)):=by
 by_cases h:k<l.length
 ·rw [List.drop_eq_getElem_cons h]
  have:limb l k=l[k]:=by simp [limb,List.getD_eq_getElem?_getD,h]
  simp only [val,this]
 ·rw [List.drop_eq_nil_of_le (by omega),List.drop_eq_nil_of_le (by omega),xY (by omega)];rfl
theorem zal (l:List Nat) (k:Nat):val l=low l k+4294967296^k*val (l.drop k):=by
 induction k with
 | zero=>rw [vS,Nat.pow_zero,Nat.one_mul,Nat.zero_add,List.drop_zero]
 | succ k ih=>rw [ih,xr,yZ,Uf,Nat.mul_add,Nat.mul_assoc,Nat.add_assoc]
theorem zhW {l:List Nat} {k:Nat} (h:val l<4294967296^k):low l k=val l:=by
 have:=zal l k
 rcases Nat.eq_zero_or_pos (val (l.drop k)) with h0 | h0
 ·rw [h0] at this;simpa using this.symm
 ·have:=Nat.le_mul_of_pos_right (4294967296^k) h0;omega
theorem zkh {p v o x y a b:Nat} (hx:x<4294967296) (hy:y<4294967296) (ho:o≤1) (h:a+p*o=v+b):
  a+p*x+p*4294967296*(1-(x+4294967296-y-o)/4294967296)=v+p*((x+4294967296-y-o)%4294967296)+(b+p*y):=by
 have e:x+4294967296*(1-(x+4294967296-y-o)/4294967296)=(x+4294967296-y-o)%4294967296+y+o:=by omega
 have e2:=congrArg (p* ·) e
 simp only [Nat.mul_add,←Nat.mul_assoc] at e2
 omega
theorem zeJ {a b:List Nat} (hl:a.length=b.length) (h:∀ j,j<a.length→limb a j=limb b j):a=b:=by
 refine List.ext_getElem? fun i=>?_
 by_cases hi:i<a.length
 ·rw [yV hi,yV (by omega),h i hi]
 ·rw [List.getElem?_eq_none (by omega),List.getElem?_eq_none (by omega)]
theorem Kh {m n k l:Nat} (h:m<4294967296^k) (h':n<4294967296^l):m+n<4294967296^(k+l+1):=(bd_add (h:=⟨h⟩) (h':=⟨h'⟩)).h
theorem xE {l:List Nat} {n:Nat} [hn:IsNat l n] (hk:l.length≤cap:=by exact Sz.le (by decide)):zp Tryz.prog G 109 [zy l] (zy (yz n)):=by
 unfold cap at hk
 refine zs Tryz.func109 ?_;refine zr ?_;refine zz ?_;refine zx ?_;(iterate 3 refine zz ?_);refine zJ ?_;refine zh ?_;refine zQ ?_;refine yK (γ:=Nat) (fun g=>⟨_,[(3,intS .i64 g),(0,zy l)],[],[],(0,false)⟩) (fun g=>g≤l.length∧∀ i,g≤i→limb l i=0) (fun g=>g) l.length ⟨Nat.le_refl _,fun i h=>xY h⟩ (yo zk) ?_
 rintro g ⟨hg,hz⟩
 have fin:(g=0∨limb l (g-1)≠0)→l.take g=yz n:=fun h=>by rw [←hn.val];exact Qc hn.lim hg hz h
 refine zh ?_;refine zr ?_;refine zz ?_
 refine Run.oneB (zZ rfl rfl rfl rfl) rfl rfl rfl (fun h2_1=>?_) (fun h2_1=>?_)
 ·have k2_1:=of_decide_eq_true h2_1
  refine zg ?_;refine za ((g-1:Nat):Int) ?_;refine zo (zi rfl rfl rfl (by omega) (y:=limb l (g-1)) (yV (by omega))) ?_;refine zg ?_;refine zd (fun _ k15=>?_) fun _ k15=>?_
  ·refine zg ?_;refine za ((g-1:Nat):Int) ?_;refine zg ?_
   exact⟨g-1,⟨by omega,fun i hi=>by by_cases h:g≤i;exact hz i h;rw [show i=g-1 by omega];omega⟩,by omega,yo (zb rfl (zb rfl trivial))⟩
  ·refine zI ?_;refine zr ?_;refine Run.buildRow rfl rfl rfl rfl rfl rfl (by decide) rfl (.inl rfl) rfl rfl fun b18 hb18=>?_;refine zg ?_;refine zo (xX (lo:=0) (hi:=g) (m:=g) rfl rfl (.inl ⟨rfl,rfl⟩) (.inr ⟨_,_,rfl,rfl⟩) (.inl rfl) (by omega) hg) ?_;refine Run.append 0 rfl rfl rfl rfl rfl rfl rfl rfl hb18 rfl yJ (by unfold yP;simp;omega) (by unfold yP;simp;omega) fun q22 hq22=>?_;refine Run.ghost _ rfl (yU 0 22 rfl rfl hq22 (l:=l.take g) (f:=xP) (by simp) rfl yJ (by unfold yP;simp;omega)) ?_;refine zg ?_
   exact zj (zu (e:=congrArg zy (fin (.inr (by omega)))))
 ·have k2_1:=of_decide_eq_false h2_1
  refine zg ?_;refine yM rfl rfl ?_;refine zI ?_;refine zr ?_;refine Run.buildRow rfl rfl rfl rfl rfl rfl (by decide) rfl (.inl rfl) rfl rfl fun b18 hb18=>?_;refine zg ?_;refine zo (xX (lo:=0) (hi:=g) (m:=g) rfl rfl (.inl ⟨rfl,rfl⟩) (.inr ⟨_,_,rfl,rfl⟩) (.inl rfl) (by omega) hg) ?_;refine Run.append 0 rfl rfl rfl rfl rfl rfl rfl rfl hb18 rfl yJ (by unfold yP;simp;omega) (by unfold yP;simp;omega) fun q22 hq22=>?_;refine Run.ghost _ rfl (yU 0 22 rfl rfl hq22 (l:=l.take g) (f:=xP) (by simp) rfl yJ (by unfold yP;simp;omega)) ?_;refine zg ?_
  exact zj (zu (e:=congrArg zy (fin (.inl (by omega)))))
theorem vU {l:List Nat} {i:Nat} (hl:xU l):zp Tryz.prog G 229 [zy l,intS .i64 i] (intS .u64 (limb l i)):=by
 refine zs Tryz.func229 ?_;refine zr ?_;refine zz ?_;refine zJ ?_;refine zh ?_;refine zg ?_;refine zd (fun _ k8=>?_) fun _ k8=>?_
 ·refine zg ?_
  exact zj (zu (e:=by rw [xY (by omega)];rfl))
 ·refine zE ?_;refine zr ?_
  have hlt:=yF hl i
  refine zg ?_;refine zo (zi rfl rfl rfl (by omega) (y:=limb l i) (yV (by omega))) ?_;refine zz ?_;refine zA ?_;refine zg ?_
  exact zj zt
theorem zam {a b:List Nat} {m n:Nat} [hm:IsNat a m] [hn:IsNat b n]:zp Tryz.prog G 166 [zy a,zy b] (intS .i64 (ue m n)):=by
 refine zs Tryz.func166 ?_;refine wT 0 rfl fun ha=>wT 1 rfl fun hb=>?_
 unfold yP at ha hb
 refine zr ?_;refine zz ?_;refine zJ ?_;refine zh ?_;refine zg ?_;refine zo (yA (z:=((max a.length b.length:Nat):Int)-1) rfl rfl rfl (congrArg some (by omega)) (wrap_i64 (by omega) (by omega))) ?_;refine zg ?_
 refine yK (γ:=Nat) (fun g=>⟨_,[(5,intS .i64 ((g:Int)-1)),(4,intS .i64 0),(0,zy a),(1,zy b)],[],[],(0,false)⟩) (fun g=>g≤max a.length b.length∧∀ j,g≤j→j<max a.length b.length→limb a j=limb b j) (fun g=>g) (max a.length b.length) ⟨Nat.le_refl _,fun j h1 h2=>by omega⟩ (yo zk) ?_
 rintro g ⟨hg,hz⟩
 refine zh ?_;refine zg ?_;refine zd (fun _ k13=>?_) fun _ k13=>?_
 ·refine zE ?_;refine zh ?_;refine zQ ?_;refine zh ?_;refine zr ?_;refine zz ?_;refine zo ((zG rfl rfl).sub (zD (show (g:Int)-1=((g-1:Nat):Int) by omega))) ?_;refine zf (vU hm.lim) ?_;refine zz ?_;refine zo ((zG rfl rfl).sub (zD (show (g:Int)-1=((g-1:Nat):Int) by omega))) ?_;refine zf (vU hn.lim) ?_;refine zg ?_;refine zd (fun _ k22=>?_) fun _ k22=>?_
  ·refine zg ?_;refine zj ?_
   exact⟨_,[],.one (.tmp rfl),List.nil_sublist _,by
    have:=zbs hm.lim (i:=g-1) (n:=max a.length b.length) (by omega) (by omega) (by omega) (fun j h1 h2=>hz j (by omega) h2) (by omega)
    rw [hm.val,hn.val] at this
    unfold ue;rw [if_pos this],rfl⟩
  ·refine zE ?_;refine zr ?_;refine zz ?_;refine zo ((zG rfl rfl).sub (zD (show (g:Int)-1=((g-1:Nat):Int) by omega))) ?_;refine zf (vU hm.lim) ?_;refine zz ?_;refine zo ((zG rfl rfl).sub (zD (show (g:Int)-1=((g-1:Nat):Int) by omega))) ?_;refine zf (vU hn.lim) ?_;refine zg ?_;refine zd (fun _ k29=>?_) fun _ k29=>?_
   ·refine zg ?_;refine zj ?_
    exact⟨_,[],.one (.tmp rfl),List.nil_sublist _,by
     have:=zbs hn.lim (a:=b) (b:=a) (i:=g-1) (n:=max a.length b.length) (by omega) (by omega) (by omega) (fun j h1 h2=>(hz j (by omega) h2).symm) (by omega)
     rw [hm.val,hn.val] at this
     unfold ue;rw [if_neg (by omega),if_pos this],rfl⟩
   ·refine zg ?_;refine zA ?_;refine zg ?_
    exact⟨g-1,⟨by omega,fun j h1 h2=>by by_cases h:g≤j;exact hz j h h2;rw [show j=g-1 by omega];omega⟩,by omega,yo (xk rfl (congrArg (intS .i64) (by omega)) (zb rfl (zb rfl (zb rfl trivial))))⟩
 ·refine zI ?_;refine zg ?_;refine zj ?_
  exact⟨_,[],.one (.tmp rfl),List.nil_sublist _,by
   have:=WP (a:=a) (b:=b) (n:=max a.length b.length) (by omega) (by omega) (fun j h=>hz j (by omega) h)
   rw [hm.val,hn.val] at this
   unfold ue;rw [if_neg (by omega),if_neg (by omega)],rfl⟩
theorem Ug {n:Nat} (h:n<18446744073709551616):zp Tryz.prog G 113 [intS .u64 n] (zy (yz n)):=by
 refine zs Tryz.func113 ?_;refine zg ?_;refine zo (yQ (z:=((n%4294967296:Nat):Int)) rfl rfl xx) ?_;refine zz ?_;refine zo (wr rfl rfl rfl (by omega) (by simp [IntKind.bits])) ?_;refine zo (yQ (z:=((n/4294967296:Nat):Int)) rfl rfl ((vH (by simp;omega) (by simp;omega)).trans (by simp))) ?_;refine zo (xl [n%4294967296,n/4294967296] rfl rfl (by decide) rfl (by simp) rfl rfl rfl) ?_
 have:IsNat [n%4294967296,n/4294967296] n:=⟨um (by omega) (um (by omega) vB),by simp [val];omega⟩
 refine zo (ze rfl rfl (xE (by simp [cap]))) ?_;refine zg ?_
 exact zj zt
theorem zhX {a b:List Nat} {m n:Nat} [hm:IsNat a m] [hn:IsNat b n] (hs:a.length+b.length+2≤cap:=by exact Sz.le3 (by decide)):zp Tryz.prog G 227 [zy a,zy b] (zy (yz (m+n))):=by
 unfold cap at hs
 refine zs Tryz.func227 ?_;refine zr ?_;refine zz ?_;refine zx ?_;refine Run.ghost _ rfl (yL 64 1) ?_;refine zz ?_;refine zx ?_;refine zz ?_;refine zJ ?_;refine zh ?_;refine zg ?_
 refine ZA (fun k q over out=>⟨_,[(7,intS .i64 (k:Nat)),(6,intS .u64 (over:Nat)),(5,eqS (rowV q k)),(0,zy a),(1,zy b)],[rowE q 64 1 k (out.flatMap xP)],[],(0,false)⟩)
   (fun k q over out=>k≤max a.length b.length∧yu q k∧over≤1∧xU out∧out.length=k∧val out+4294967296^k*over=low a k+low b k) (fun k q over out=>max a.length b.length-k)
   0 none 0 [] ⟨Nat.zero_le _,rfl,by omega,vB,rfl,rfl⟩ (zL zk rfl) ?_
 rintro k q over out ⟨hk,hq,ho,hlo,hln,hval⟩
 have hx:=yF hm.lim k
 have hy:=yF hn.lim k
 refine zh ?_;refine zg ?_;refine zd (fun _ k15=>?_) fun _ k15=>?_
 ·refine zE ?_;refine zh ?_;refine zg ?_;refine zf (vU hm.lim) ?_;refine zg ?_;refine zf (vU hn.lim) ?_;refine zo (yA rfl rfl rfl rfl (xf (by omega) (by omega))) ?_;refine zz ?_;refine za ((over+(limb a k+limb b k):Nat):Int) ?_;refine zg ?_;refine zo (yQ (z:=(((over+(limb a k+limb b k))%4294967296:Nat):Int)) rfl rfl xx) ?_;refine zo (xl [(over+(limb a k+limb b k))%4294967296] rfl rfl (by decide) rfl (by simp) rfl rfl rfl) ?_;refine Run.append 0 rfl rfl rfl rfl rfl rfl rfl rfl hq (by rw [yH,hln]) yJ (by unfold yP;simp;omega) (by unfold yP;simp;omega) fun q31 hq31=>?_;refine zg ?_;refine zo ((wr rfl rfl rfl (by omega) (by simp [IntKind.bits])).sub (zD (Ys _))) ?_;refine zg ?_;refine zA ?_;refine zz ?_;refine zJ ?_
  refine⟨k+1,q31,(over+(limb a k+limb b k))/4294967296,out++[(over+(limb a k+limb b k))%4294967296],⟨by omega,hq31,by omega,wZ hlo (by omega),by simp [hln],?_⟩,by omega,zL (zb rfl (zb rfl (zb rfl (zb rfl (zb rfl trivial))))) (by rw [List.flatMap_append];rfl)⟩
  rw [vK,hln,xr,xr,yZ];exact Kf hval rfl rfl rfl
 ·have e1:k=max a.length b.length:=by omega
  rw [wJ (by omega),wJ (by omega),hm.val,hn.val] at hval
  refine zI ?_;refine zg ?_;refine zA ?_;refine zo (xl [over] rfl rfl (by decide) rfl (by simp) rfl rfl rfl) ?_;refine Run.append 0 rfl rfl rfl rfl rfl rfl rfl rfl hq (by rw [yH,hln]) yJ (by unfold yP;simp;omega) (by unfold yP;simp;omega) fun q38 hq38=>?_;refine Run.ghost _ rfl (yU 0 38 rfl rfl hq38 (l:=out++[over]) (f:=xP) (by simp [hln]) List.flatMap_append.symm yJ (by unfold yP;simp;omega)) ?_
  have:IsNat (out++[over]) (m+n):=⟨wZ hlo (by omega),by rw [vK,hln];omega⟩
  refine zo (ze rfl rfl (xE (by unfold cap;simp;omega))) ?_;refine zg ?_
  exact zj zt
theorem zhY {ll:List (List Nat)} (hl:∀ l∈ll,xU l) (hs:(ll.map List.length).sum+ll.length+2≤cap):zp Tryz.prog G 163 [zU 1 id (Zv ll)] (zy (yz (ll.map val).sum)):=by
 unfold cap at hs
 have hcl:(Zv ll).length=ll.length:=by simp [Zv]
 refine zs Tryz.func163 ?_;refine zr ?_;refine zz ?_;refine zx ?_;refine zz ?_;refine zJ ?_;refine zh ?_;refine zg ?_
 refine yX (fun g s=>⟨_,[(4,intS .i64 (g:Nat)),(3,zy s),(0,zU 1 id (Zv ll))],[],[],(0,false)⟩)
   (fun g s=>g≤ll.length∧xU s∧val s=((ll.take g).map val).sum∧s.length≤((ll.take g).map List.length).sum+g) (fun g s=>ll.length-g) 0 [] ⟨Nat.zero_le _,vB,rfl,Nat.le_refl _⟩
   (yo (zb rfl ⟨⟨_,rfl,wF rfl⟩,zb rfl trivial⟩)) ?_
 rintro g s ⟨hg,hls,hvs,hns⟩
 refine zh ?_;refine zg ?_;refine zd (fun _ k8=>?_) fun _ k8=>?_
 ·obtain⟨a,ha⟩:∃ a,ll[g]? =some a:=⟨_,List.getElem?_eq_getElem (by omega)⟩
  have hla:=hl a (List.mem_of_getElem? ha)
  have hsl:=YK List.length ha
  have hsv:=YK val ha
  have hle:=Yt List.length ll (g+1)
  haveI:=vT hls
  haveI:=vT hla
  have hdl:(yz (val s+val a)).length≤s.length+a.length+1:=zK (Bd.of_val (isNat_dig (n:=val s+val a)) ⟨zK (Kh (wn hls) (wn hla))⟩).h
  refine zE ?_;refine zh ?_;refine zg ?_;refine zo (zi rfl rfl rfl (by omega) (y:=[zy a]) (by show (Zv ll)[g]? =_;simp [Zv,ha])) ?_;refine zz ?_;refine zo (ze rfl rfl (zhX (by unfold cap;omega))) ?_;refine zg ?_;refine zA ?_;refine zg ?_
  exact⟨g+1,_,⟨by omega,xe _,by rw [xq];omega,by omega⟩,by omega,yo (zb rfl (zb rfl (zb rfl trivial)))⟩
 ·have hgl:g=ll.length:=by omega
  subst hgl
  rw [List.take_length] at hvs hns
  haveI:=vT hls
  refine zI ?_;refine zg ?_;refine zo (ze rfl rfl (xE (by unfold cap;omega))) ?_;refine zg ?_
  exact zj (zu (e:=congrArg zy (congrArg yz hvs)))
theorem Xq {a b:List Nat} {m n k l:Nat} [ha:IsNat a m] [hb:IsNat b n] [hk:Sz a k] [hl:Sz b l] (h:k+l+4≤cap:=by decide):zp Tryz.prog G 163 [zU 1 id [[zy a],[zy b]]] (zy (yz (m+n))):=by
 have:=zhY (G:=G) (ll:=[a,b]) (fun l h=>by simp at h;rcases h with rfl | rfl;exact ha.lim;exact hb.lim) (by have:=hk.h;have:=hl.h;simp;omega)
 simp only [List.map_cons,List.map_nil,List.sum_cons,List.sum_nil,ha.val,hb.val,Nat.add_zero] at this
 exact this
theorem YM {a b:List Nat} {m n:Nat} [hm:IsNat a m] [hn:IsNat b n] (hs:a.length≤cap:=by exact Sz.le (by decide)):zp Tryz.prog G 167 [zy a,zy b] (xn [zy (yz (m-n)),intS .i64 (if m<n then 10 else 0)]):=by
 unfold cap at hs
 refine zs Tryz.func167 ?_;refine zr ?_;(iterate 2 refine zz ?_);refine zJ ?_;refine zh ?_;refine zg ?_;refine zf zam ?_;refine zg ?_;refine zd (fun _ k13=>?_) fun _ k13=>?_
 ·have hlt:m<n:=by unfold ue at k13;split at k13;assumption;split at k13 <;> omega
  refine zr ?_;refine zo ((yS rfl rfl).sub (wF (l:=yz (m-n)) (vC.2 (by omega)))) ?_;refine zg ?_
  exact zj (zu (e:=by rw [if_pos hlt]))
 ·have hge:n≤m:=by unfold ue at k13;split at k13 <;> omega
  refine zE ?_;refine zr ?_;refine Run.ghost _ rfl (yL 64 1) ?_;refine zz ?_;refine zx ?_;refine zz ?_;refine zJ ?_;refine zh ?_;refine zg ?_
  refine ZA (fun k q under out=>⟨_,[(8,intS .i64 (k:Nat)),(7,intS .u64 (under:Nat)),(6,eqS (rowV q k)),(0,zy a),(1,zy b)],[rowE q 64 1 k (out.flatMap xP)],[],(0,false)⟩)
    (fun k q under out=>k≤a.length∧yu q k∧under≤1∧xU out∧out.length=k∧low a k+4294967296^k*under=val out+low b k) (fun k q under out=>a.length-k)
    0 none 0 [] ⟨Nat.zero_le _,rfl,by omega,vB,rfl,rfl⟩ (zL zk rfl) ?_
  rintro k q under out ⟨hk,hq,ho,hlo,hln,hval⟩
  have hx:=yF hm.lim k
  have hy:=yF hn.lim k
  refine zh ?_;refine zg ?_;refine zd (fun _ k17=>?_) fun _ k17=>?_
  ·refine zE ?_;refine zh ?_;refine zg ?_;refine zf (vU hm.lim) ?_;refine zo (yA rfl rfl rfl rfl (xf (by omega) (by omega))) ?_;refine zg ?_;refine zf (vU hn.lim) ?_;refine zo (yA rfl rfl rfl rfl (xf (by omega) (by omega))) ?_;refine zz ?_;refine za ((limb a k+4294967296-limb b k-under:Nat):Int) ?_;refine zg ?_;refine zo (yQ (z:=(((limb a k+4294967296-limb b k-under)%4294967296:Nat):Int)) rfl rfl xx) ?_;refine zo (xl [(limb a k+4294967296-limb b k-under)%4294967296] rfl rfl (by decide) rfl (by simp) rfl rfl rfl) ?_;refine Run.append 0 rfl rfl rfl rfl rfl rfl rfl rfl hq (by rw [yH,hln]) yJ (by unfold yP;simp;omega) (by unfold yP;simp;omega) fun q34 hq34=>?_;refine zg ?_;refine zo ((wr rfl rfl rfl (by omega) (by simp [IntKind.bits])).sub (zD (Ys _))) ?_;refine za ((1-(limb a k+4294967296-limb b k-under)/4294967296:Nat):Int) ?_;refine zg ?_;refine zA ?_;refine zz ?_;refine zJ ?_
   refine⟨k+1,q34,1-(limb a k+4294967296-limb b k-under)/4294967296,out++[(limb a k+4294967296-limb b k-under)%4294967296],⟨by omega,hq34,by omega,wZ hlo (by omega),by simp [hln],?_⟩,by omega,zL (zb rfl (zb rfl (zb rfl (zb rfl (zb rfl trivial))))) (by rw [List.flatMap_append];rfl)⟩
   rw [vK,hln,xr,xr,yZ];exact zkh hx hy ho hval
  ·have e1:k=a.length:=by omega
   have hal:=wn hm.lim
   rw [hm.val,←e1] at hal
   rw [wJ (by omega),zhW (by rw [hn.val];omega),hm.val,hn.val] at hval
   have hv:=wn hlo
   rw [hln] at hv
   have hu:under=0:=by
    rcases Nat.lt_or_ge 0 under with h | h
    ·have:under=1:=by omega
     subst this;omega
    ·omega
   subst hu
   have:IsNat out (m-n):=⟨hlo,by omega⟩
   refine zI ?_;refine zr ?_;refine Run.ghost _ rfl (yU 0 6 rfl rfl hq (l:=out) (f:=xP) hln rfl yJ (by unfold yP;omega)) ?_;refine zz ?_;refine zo (ze rfl rfl (xE (by unfold cap;omega))) ?_;refine zg ?_
   exact zj (zu (e:=by rw [if_neg (by omega)]))
theorem Ki {a b:List Nat}:zp Tryz.prog G 75 [zy a,zy b] (zm (decide (a=b))):=by
 refine zs Tryz.func75 ?_;refine wT 0 rfl fun ha=>wT 1 rfl fun hb=>?_
 unfold yP at ha hb
 refine zr ?_;refine zz ?_;refine zJ ?_;refine zh ?_;refine zg ?_;refine zd (fun _ k10=>?_) fun _ k10=>?_
 ·refine zg ?_
  exact zj (zu (e:=by rw [decide_eq_false fun h=>k10 (by rw [h])]))
 ·refine zE ?_;refine zh ?_;refine zg ?_
  refine yK (γ:=Nat) (fun g=>⟨_,[(5,intS .i64 g),(0,zy a),(1,zy b)],[],[],(0,false)⟩) (fun g=>g≤a.length∧∀ j,j<g→limb a j=limb b j) (fun g=>a.length-g) 0 ⟨Nat.zero_le _,fun j h=>by omega⟩ (yo zk) ?_
  rintro g ⟨hg,hz⟩
  refine zh ?_;refine zg ?_;refine zd (fun _ k14=>?_) fun _ k14=>?_
  ·refine zE ?_;refine zh ?_;refine zQ ?_;refine zS 9 (by kernel_rfl) ?_;refine zg ?_;refine zo (zi rfl rfl rfl (by omega) (y:=limb a g) (yV (by omega))) ?_;refine zg ?_;refine zo (zi rfl rfl rfl (by omega) (y:=limb b g) (yV (by omega))) ?_;refine zg ?_;refine zd (fun _ k25=>?_) fun _ k25=>?_
   ·refine zg ?_
    exact zj (zu (e:=by rw [decide_eq_false fun h=>k25 (by rw [h])]))
   ·refine zg ?_;refine zA ?_;refine zg ?_
    exact⟨g+1,⟨by omega,fun j h=>by by_cases h1:j<g;exact hz j h1;rw [show j=g by omega];omega⟩,by omega,yo (zb rfl (zb rfl (zb rfl trivial)))⟩
  ·refine zI ?_;refine zg ?_
   exact zj (zu (e:=by rw [decide_eq_true (zeJ (by omega) fun j h=>hz j (by omega))]))
theorem QU {l:List Nat} {n:Nat} [hn:IsNat l n] (hs:l.length≤cap:=by exact Sz.le (by decide)):zp Tryz.prog G 111 [zy l] (xn [intS .u64 (if n<18446744073709551616 then (n:Int) else 0),zm (decide (n<18446744073709551616))]):=by
 refine zs Tryz.func111 ?_;refine zg ?_;refine zf (xE hs) ?_;refine zz ?_;refine zJ ?_;refine zh ?_;refine zg ?_;refine zd (fun _ k11=>?_) fun _ k11=>?_
 ·have hbig:¬ n<18446744073709551616:=fun h=>by have:=zK (n:=n) (k:=2) (by omega);omega
  refine zg ?_
  exact zj (zu (e:=by rw [if_neg hbig,decide_eq_false hbig]))
 ·have hsm:n<18446744073709551616:=by have:=xj (n:=n) (k:=2) (by omega);omega
  refine zE ?_;refine zr ?_;refine zz ?_;refine zJ ?_;refine zh ?_;refine zg ?_;refine zo (yA (z:=(((yz n).length:Nat):Int)-1) rfl rfl rfl (congrArg some (by omega)) (wrap_i64 (by omega) (by omega))) ?_;refine zg ?_;refine yK (γ:=Nat) (fun g=>⟨_,[(6,intS .i64 ((g:Int)-1)),(5,intS .u64 (val ((yz n).drop g):Nat)),(4,zy (yz n))],[],[],(0,false)⟩) (fun g=>g≤(yz n).length) (fun g=>g) (yz n).length (Nat.le_refl _) (yo (zb rfl (xk rfl (congrArg (intS .u64) (by rw [List.drop_length];rfl)) (zb rfl trivial)))) ?_
  intro g hg
  refine zh ?_;refine zg ?_;refine zd (fun _ k16=>?_) fun _ k16=>?_
  ·have hv:val ((yz n).drop g)<4294967296:=by
    have h1:=wn (vJ (xe n) g)
    rw [List.length_drop] at h1
    have:4294967296^((yz n).length-g)≤4294967296^1:=Nat.pow_le_pow_right (by omega) (by omega)
    omega
   have he:val ((yz n).drop (g-1))=limb (yz n) (g-1)+4294967296*val ((yz n).drop g):=by
    rw [List.drop_eq_getElem_cons (show g-1<(yz n).length by omega),show g-1+1=g by omega]
    simp [val,limb,List.getD_eq_getElem?_getD,show g-1<(yz n).length by omega]
   have hl:=yF (xe n) (g-1)
   refine zE ?_;refine zh ?_;refine zg ?_;refine zo ((Zs rfl rfl rfl (by omega) (by simp [IntKind.bits])).sub (zD (n:=((4294967296*val ((yz n).drop g):Nat):Int)) ((xf (by simp;omega) (by simp;omega)).trans (by simp;omega)))) ?_;refine zz ?_;refine zo ((zG rfl rfl).sub (zD (show (g:Int)-1=((g-1:Nat):Int) by omega))) ?_;refine zo (zi rfl rfl rfl (by omega) (y:=limb (yz n) (g-1)) (yV (by omega))) ?_;refine zz ?_;refine zA ?_;refine za ((val ((yz n).drop (g-1)):Nat):Int) ?_;refine zg ?_;refine zA ?_;refine zg ?_
   exact⟨g-1,(by omega:g-1≤(yz n).length),by omega,yo (xk rfl (congrArg (intS .i64) (by omega)) zk)⟩
  ·have hg0:g=0:=by omega
   subst hg0
   refine zI ?_;refine zg ?_
   exact zj (zu (e:=by rw [if_pos hsm,decide_eq_true hsm,List.drop_zero,xq]))
end Go.Proofs
/- Rows of limbs of one's own: made, read at a place, written at a place. -/
namespace Go.Proofs
open Go Go.Sv Num
theorem ZC (l:List Nat):l.flatMap xP=l.map fun x=>intS .u32 (x:Nat):=by
 induction l with
 | nil=>rfl
 | cons x l ih=>simp only [List.flatMap_cons,List.map_cons,ih];rfl
theorem zbt {l:List Nat} {i:Nat} (h:i<l.length):(l.flatMap xP)[i]? =some (intS .u32 (limb l i:Nat)):=by
 rw [ZC,List.getElem?_map,yV h];rfl
theorem Uh (l:List Nat) (i z:Nat):(l.flatMap xP).set i (intS .u32 (z:Nat))=(l.set i z).flatMap xP:=by
 rw [ZC,ZC,List.map_set]
theorem zcS (n:Nat):(yB [.int .u32 0] (n*1)).map eqS=(List.replicate n 0).flatMap xP:=by
 rw [ZC,Nat.mul_one,JT,List.map_replicate,List.map_replicate];rfl
section
variable {P:Program} {G:Imm} {E:Env} {r:Option Nat} {gd:Nat→Option Nat} {p:Bool} {o:Oper} {ops:List Oper} {K:St→Prop}
theorem xm {H:HL} {g:List (Nat×SV)} {t e:Nat} [IsSl P t e 1] {x ix:Operand} {b c n:Nat} {k:IntKind} {i:Nat} (hop:o.op= .indexAddr t x ix) (hx:xd g x=some (eqS (rowV (some (b,c)) n))) (hi:xd g ix=some (intS k i)) (h1:i<n):
  OpOK P G H o g (eqS (.pointer (some ⟨b,i,none⟩))):=
 vI hop hx hi (by omega) (by omega) (by simp)
theorem vf (j:Nat) {H:HL} {g:List (Nat×SV)} {t:TypeId} [IsScalar P t] {x:Operand} {b i e c n:Nat} {l:List Nat} (hop:o.op= .load t x) (hx:xd g x=some (eqS (.pointer (some ⟨b,i,none⟩)))) (hH:H[j]? =some (rowE (some (b,c)) e 1 n (l.flatMap xP))) (h:i<l.length):OpOK P G H o g (intS .u32 (limb l i:Nat)):=
 yn j hop hx hH (zbt h)
theorem Run.storeRow (j:Nat) {n0:Nat} {g:List (Nat×SV)} {h:HL} {d:List Nat} {i0:Nat×Bool} {t:TypeId} [HasSize P t 1] {x y:Operand} {b i e c n:Nat} {l:List Nat} {z:Nat} (hp:p=false) (hop:o.op= .store t x y) (hx:xd g x=some (eqS (.pointer (some ⟨b,i,none⟩)))) (hy:xd g y=some (intS .u32 z))
  (hH:h[j]? =some (rowE (some (b,c)) e 1 n (l.flatMap xP))) (hi:i<l.length) (hd:o.dst=none) (hg:zH gd g o true)
  (hr:Run P G E r gd p ops ⟨n0,g,wh h j [rowE (some (b,c)) e 1 n ((l.set i z).flatMap xP)],d,i0⟩ K):Run P G E r gd p (o::ops) ⟨n0,g,h,d,i0⟩ K:=by
 have hlen:i+1≤(l.flatMap xP).length:=by rw [yH];omega
 have hble:Nat.ble (i+[intS .u32 (z:Nat)].length) (l.flatMap xP).length=true:=by rw [Nat.ble_eq];exact hlen
 refine Run.store j hp hop hx hy hH rfl hble hd hg ?_
 show Run P G E r gd p ops ⟨n0,g,wh h j [⟨some b,e,(l.flatMap xP).set i (intS .u32 z),c*1-n*1⟩],d,i0⟩ K
 rw [Uh];exact hr
theorem Run.makeNat {n0 d0:Nat} {g:List (Nat×SV)} {h:HL} {d:List Nat} {i:Nat×Bool} {t e bytes:Nat} [IsSl P t e 1] [IsElem P e [.int .u32 0] bytes] {x y:Operand} {k k':IntKind} {n c:Nat} (hp:p=false) (hop:o.op= .makeSlice t x y) (hx:xd g x=some (intS k n)) (hy:xd g y=some (intS k' c)) (hg:zH gd g o true) (ht:o.dst=some d0) (hd:Nat.blt d0 n0=true)
  (hnc:n≤c) (hb:bytes*c≤281474976710656) (hc:c≤cap)
  (hr:∀ b,yu (some (b,c)) n→Run P G E r gd p ops ⟨n0,(d0,eqS (rowV (some (b,c)) n))::g,rowE (some (b,c)) e 1 n ((List.replicate n 0).flatMap xP)::h,d,i⟩ K):Run P G E r gd p (o::ops) ⟨n0,g,h,d,i⟩ K:=
 Run.make hp hop hx hy hg ht hd hnc hb (by unfold cap at hc;unfold yP;omega) fun b hb=>by rw [zcS];exact hr b hb
end
theorem Xr:∀ {l:List Nat} {j:Nat} (z:Nat),j<l.length→val (l.set j z)+4294967296^j*limb l j=val l+4294967296^j*z
  | [],j,z,h=>by simp at h
  | x::l,0,z,h=>by simp only [List.set_cons_zero,val,ZM,Nat.pow_zero,Nat.one_mul];omega
  | x::l,j+1,z,h=>by
    have ih:=Xr (l:=l) (j:=j) z (by simpa using h)
    simp only [List.set_cons_succ,val,ZN]
    rw [Nat.pow_succ,Nat.mul_comm (4294967296^j),Nat.mul_assoc,Nat.mul_assoc]
    generalize 4294967296^j*limb l j=u at *
    generalize 4294967296^j*z=v at *
    omega
theorem wq {l:List Nat} {i j z:Nat} (h:i≠j):limb (l.set i z) j=limb l j:=by
 simp only [limb,List.getD_eq_getElem?_getD,List.getElem?_set_ne h]
theorem Zk {l:List Nat} {i z:Nat} (h:i<l.length):limb (l.set i z) i=z:=by
 simp [limb,List.getD_eq_getElem?_getD,h]
theorem uv {l:List Nat} {i z:Nat} (h:xU l) (hz:z<4294967296):xU (l.set i z):=fun x hx=>by
 rcases List.mem_or_eq_of_mem_set hx with h1 | h1
 ·exact h x h1
 ·omega
theorem wj (n:Nat):xU (List.replicate n 0):=fun x hx=>by rw [List.eq_of_mem_replicate hx];omega
theorem ZZ (n j:Nat):limb (List.replicate n 0) j=0:=by
 simp only [limb,List.getD_eq_getElem?_getD,List.getElem?_replicate];split <;> rfl
theorem Kj {x y o c:Nat} (hx:x<4294967296) (hy:y<4294967296) (ho:o<4294967296) (hc:c<4294967296):x*y+o+c<18446744073709551616:=by
 have:=Nat.mul_le_mul (show x≤4294967295 by omega) (show y≤4294967295 by omega)
 omega
theorem zcT {v w c o x y q bk p s t:Nat} (hp:p=q*bk) (h:v+p*c=w+q*(x*t)) (hs:s+p*o=v+p*((x*y+o+c)%4294967296)):s+p*4294967296*((x*y+o+c)/4294967296)=w+q*(x*(t+bk*y)):=by
 have e:p*((x*y+o+c)%4294967296)+p*4294967296*((x*y+o+c)/4294967296)=p*(x*y)+p*o+p*c:=by
  rw [Nat.mul_assoc,←Nat.mul_add,Nat.mod_add_div,Nat.mul_add,Nat.mul_add]
 have e2:q*(x*(t+bk*y))=q*(x*t)+p*(x*y):=by subst hp;grind
 omega
end Go.Proofs
