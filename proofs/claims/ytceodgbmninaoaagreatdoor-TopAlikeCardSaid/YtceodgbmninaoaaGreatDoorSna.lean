/- Natural numbers as the program holds them: what a slice of. -/
import Derived.Test.YtceodgbmninaoaaGreatDoorSvw
import Derived.Test.YtceodgbmninaoaaGreatDoorSma
import Derived.Test.YtceodgbmninaoaaGreatDoorSvt
set_option linter.all false
namespace Go.Proofs
open Go Go.Sv Num Tryz
variable {k n x:Nat} {l a:G7} {I:Imm}
abbrev wB (x:Nat):List SV:=[ze .u32 x]
abbrev zD (l:List Nat):SV:=zR 1 wB l
class IsNat (l:G7) (n:outParam Nat):Prop where
 lim:wZ l
 val:Num.val l=n
instance isNat_dig {n:Nat}:IsNat (dig n) n:=⟨xe n,xu n⟩
theorem uW (h:wZ l):IsNat l (val l):=⟨h,Z⟩
instance isNat_one:IsNat [1] 1:=⟨uT C ug,Z⟩
class Sz (l:G7) (k:outParam Nat):Prop where
 h:l.length<=k
class Bd (n:Nat) (k:outParam Nat):Prop where
 h:n<4294967296^k
instance {n k:Nat} [h:Bd n k]:Sz (dig n) k:=⟨zT h.h⟩
instance:Sz [] 0:=⟨Af _⟩
instance {x:Nat}:Sz [x] 1:=⟨Af _⟩
def Wr {m l:Nat} (h:n<4294967296^k) (a:m<=n) (b:k<=l):m<4294967296^l:=
 Cs a (Ah h (Cm C b))
theorem aW (h:IsNat l n) (a:Sz l k):Bd n k:=⟨by rw [<-h.val];exact Wr (wz h.lim) (Af _) a.h⟩
instance bd_mul {m n k l:Nat} [h:Bd m k] [h':Bd n l]:Bd (m*n) (k+l):=⟨by
 rw [Ct];exact Nat.mul_lt_mul_of_lt_of_lt h.h h'.h⟩
instance bd_add {m n k l:Nat} [h:Bd m k] [h':Bd n l]:Bd (m+n) (k+l+1):=⟨by
 have h1:=Wr (l:=k+l) h.h (Af _) C;have a:=Wr (l:=k+l) h'.h (Af _) C
 omega⟩
instance bd_sub {m n k:Nat} [h:Bd m k]:Bd (m-n) k:=⟨Wr h.h C (Af _)⟩
def cap:Nat:=1099511627776
def jP:Nat:=1073741824
def Sz.le [h:Sz l k] (a:k<=cap):l.length<=cap:=Ag h.h a
def ef {b:G7} {l:Nat} [h:Sz a k] [h':Sz b l] (c:max k l<=cap):max a.length b.length<=cap:=by have:=h.h;have:=h'.h;omega
def ec {b:G7} {l:Nat} [h:Sz a k] [h':Sz b l] (c:k+l+2<=cap):a.length+b.length+2<=cap:=by have:=h.h;have:=h'.h;omega
def zjY {v:Value} (h:(zR 1 id (l.map wB)).den I v):(zD l).den I v:=by
 obtain⟨a,cap,c,h1,d,f⟩:=h;rw [BR] at c h1 d
 refine⟨a,cap,c,h1,d,?_⟩;simp_all
def UI {α:Type} {st:Nat} {f:α->List SV}:(zR st f []).den I (.slice none 0 0):=⟨none,0,Z,Af _,BL _,.inl Z⟩
def vz (h:l=[]) (I:Imm) (v:Value) (a:(G8).den I v):(zD l).den I v:=by
 subst h;cases a;exact UI
def xj {P:Program} {G:Imm} {H:HL} {o:Oper} {g:Ha} {t e:Nat} {zs:List Value} [am P t e 1] [al P e zs] {parts:Array (Nat×Operand)} {ps:Ha} {qs:List (Nat×List SV)} (l:G7) (a:o.op= .buildSlice t n parts) (hp:WN g parts.toList=some ps) [FlatL ps qs]
 (c:n*1<=16777216) (hq:qs.length=n) (b:n=0\/zs≠[]) (d:UB 1 (qs.map (·.2))=true)
 (j:Jk ((List.range n).map fun i=>(i*1,1)) ((yD zs (n*1)).map eqS) qs=some (qs.map (·.2)).flatten) (f:qs.map (·.2)=l.map wB):OpOK P G H o g (zD l):=
 (zy a hp c hq b d j).sub fun _ _ h=>zjY (f▸h)
def vK {α:Type} [LT α] [DecidableLT α] (a b:α):Int:=if a<b then -1 else if b<a then 1 else 0
def Ws {y:Nat} (hx:x<18446744073709551616) (hy:y<18446744073709551616):qG .or .u64 x y=((x ||| y:Nat):Int):=by
 have h:x ||| y<2^64:=Cw (by omega) GN
 have a:(BitVec.ofInt 64 (x:Int)).toNat=x:=by simp;omega
 have e2:(BitVec.ofInt 64 (y:Int)).toNat=y:=by simp;omega
 show IntKind.u64.wrap ((BitVec.ofInt 64 (x:Int) ||| BitVec.ofInt 64 (y:Int)).toNat:Nat)=_;rw [BitVec.toNat_or,a,e2,xA C (by omega)]
def Vg {y:Nat} (hx:x<18446744073709551616) (hy:y<18446744073709551616):qG .and .u64 x y=((x &&& y:Nat):Int):=by
 have h:x &&& y<2^64:=Cs Nat.and_le_left (by omega);have a:(BitVec.ofInt 64 (x:Int)).toNat=x:=by simp;omega
 have e2:(BitVec.ofInt 64 (y:Int)).toNat=y:=by simp;omega
 show IntKind.u64.wrap ((BitVec.ofInt 64 (x:Int) &&& BitVec.ofInt 64 (y:Int)).toNat:Nat)=_;rw [BitVec.toNat_and,a,e2,xA C (by omega)]
def kK {y:Nat} (hy:y<4294967296):4294967296*x ||| y=4294967296*x+y:=by
 have:=Nat.shiftLeft_add_eq_or_of_lt (i:=32) GN x;rw [Nat.shiftLeft_eq] at this;grind
variable {G:Imm}
variable {l:G7} {i:Nat}
def yZ:∀ x∈l,(wB x).length=1:=fun _ _=>rfl
def zcb (d:l.length<=cap):G0 G 236 [zD l] (zD l):=by
 unfold cap at d
 refine Fq func236 ?_;refine Fi (WQ Z Z Z) ?_;refine qH Z Z (fun b=>?_) ?_
 .refine zr<|Fi ((yt Z Z).sub (vz b)) ?_;exact Hj
 .refine zg ?_;refine ae.buildRow Z Z Z Z Z Z J Z (.inl Z) Z Z fun g c=>zz ?_;refine FL 0 Z Z Z Z c Z fun e a=>?_;exact ae.ghost _ Z (yF 0 7 Z Z a C Z yZ GK)<|Lk
def XP:G0 G 244 [zD l,MK i] (ze .u32 (limb l i)):=by
 refine zs func244 ?_;refine Fh ?_;refine Fp ?_ ?_<;>intro a
 .have:=MO a;refine Fi (zh Z Z Z C (y:=limb l i) (xN C)) ?_;exact Hj
 .have:=MP a;exact zj (zu (e:=by rw [wJ C];rfl))
def wG {n:Nat} [f:IsNat l n] (j:l.length<=cap:=by exact Sz.le (by decide)):G0 G 148 [zD l] (zD (dig n)):=by
 have d:=j;unfold cap at d
 refine Fq func148 ?_;refine Qj [0] (fun (g:Nat) z=>(3,MK g)::z) (fun g=>[]) (fun g=>g<=l.length/\∀ i,g<=i->limb l i=0) (fun g=>g) l.length ⟨Af _,fun i h=>wJ h⟩ ?_;rintro g ⟨b,hz⟩;have c:(g=0\/limb l (g-1)≠0)->l.take g=dig n:=fun h=>by rw [<-f.val];exact qI f.lim b hz h
 refine zi<|zr<|zz ?_;refine FE ?_ ?_<;>intro _ k
 .refine Do (g-1) ?_;refine Fi (zh Z Z Z C (y:=limb l (g-1)) (xN C)) ?_;refine Fp ?_ ?_<;>intro a
  .have h1:limb l (g-1)=0:=by simpa using a
   exact Ip
  .have h1:limb l (g-1)≠0:=by simpa using a
   refine Fi (xU Z Z (.inl ⟨Z,Z⟩) (.inr ⟨_,_,Z,Z⟩) (.inr ⟨_,_,Z,Z,Af _,b⟩) C b) ?_;refine Fl Z Z (zcb (l:=l.take g) GV) ?_;exact zj (zu (e:=MW zD (c (.inr h1))))
 .refine Fu ?_;refine Fi (xU Z Z (.inl ⟨Z,Z⟩) (.inr ⟨_,_,Z,Z⟩) (.inr ⟨_,_,Z,Z,Af _,b⟩) C b) ?_;refine Fl Z Z (zcb (l:=l.take g) GV) ?_;exact zj (zu (e:=MW zD (c (.inl C))))
variable {a b:G7} {n i:Nat} {c:List SV}
def JE (a b:G7):List (List SV):=(List.range (max a.length b.length)).map fun i=>[ze .u64 (limb a i),ze .u64 (limb b i)]
def vq:(JE a b).length=max a.length b.length:=by simp [JE]
def zcc (h:i<max a.length b.length):(JE a b)[i]? =some [ze .u64 (limb a i),ze .u64 (limb b i)]:=by
 simp only [JE,Ba,Cx h,AM]
def zcd (h:(JE a b)[i]? =some c):i<max a.length b.length/\c=[ze .u64 (limb a i),ze .u64 (limb b i)]:=by
 have h1:i<max a.length b.length:=by have:=yJ h;rwa [vq] at this
 refine⟨h1,?_⟩;rw [zcc h1] at h;grind
def zep (h:c∈JE a b):c.length=2:=Iw
def zqP {l:G7} (a:wZ l) (c:val l=n) (b:∀ j,1<j->limb l j=0):n=limb l 0+4294967296*limb l 1/\n<18446744073709551616:=by
 have d:=yV a 0;have h1:=yV a 1;have:val l=val [limb l 0,limb l 1]:=Zh fun j=>by
  match j with
  | 0=>rfl
  | 1=>rfl
  | j+2=>rw [b _ C];rfl
 simp [val] at this;omega
def zeq {l:G7} (_:wZ l) (a:val l=n) {j:Nat} (c:1<j) (h:limb l j≠0):¬ n<18446744073709551616:=by
 intro b;have h1:j<l.length:=by
  by_cases h1:j<l.length
  .omega
  .exact M1 (wJ C) h
 have e:=WR l j C;have hp:val (l.drop j)≠0:=by
  rw [AO h1];have:limb l j=l[j]:=by simp [limb,Ay,h1]
  simp only [val];omega
 have:4294967296^2<=4294967296^j:=Cm C C;have d:4294967296^j*1<=4294967296^j*val (l.drop j):=Cq _ C;omega
def zht {m:Nat} [d:IsNat a m] [c:IsNat b n]:G0 G 237 [zD a,zD b] (MK (vK m n)):=by
 refine zs func237 ?_;refine uM 0 Z fun l=>uM 1 Z fun hb=>?_;unfold yE at l hb
 refine zg ?_;refine wO<|zi<|wN<|Fh ?_;refine Fi (yK (z:=((max a.length b.length:Nat):Int)-1) Z Z Z (MW some (by omega)) (wrap_i64 (by omega) (by omega))) ?_
 refine Qj [4,0,1] (fun (g:Nat) z=>(5,MK ((g:Int)-1))::z) (fun g=>[]) (fun g=>g<=max a.length b.length/\∀ j,g<=j->j<max a.length b.length->limb a j=limb b j) (fun g=>g) (max a.length b.length) ⟨Af _,fun j h1 h2=>by omega⟩ ?_;rintro g ⟨o,hz⟩;refine Fh ?_;refine FQ ?_ ?_<;>intro _ k
 .refine zB<|zi<|zN<|zr<|zz ?_;refine Fi ((zC Z Z).sub (zI (C:(g:Int)-1=((g-1:Nat):Int)))) ?_;refine zf XP ?_;refine zz ?_;refine Fi ((zC Z Z).sub (zI (C:(g:Int)-1=((g-1:Nat):Int)))) ?_;refine Fk XP ?_;refine Fo ?_ ?_<;>intro _ f
  .refine zj ?_;exact⟨_,[],.one (.tmp Z),BZ _,by
    have:=kw d.lim (i:=g-1) (n:=max a.length b.length) C C C (fun j h1 h2=>hz j C h2) C;rw [d.val,c.val] at this
    unfold vK;rw [MX this],Z⟩
  .refine Fo ?_ ?_<;>intro _ e
   .refine zj ?_;exact⟨_,[],.one (.tmp Z),BZ _,by
     have:=kw c.lim (i:=g-1) (by omega) (by omega) (by omega) (fun j h1 h2=>(hz j (by omega) h2).symm) (by omega);rw [d.val,c.val] at this
     unfold vK;grind,Z⟩
   .exact HY
 .refine zj ?_;exact⟨_,[],.one (.tmp Z),BZ _,by
   have:=Qw (by omega) (by omega) (fun j h=>hz j (by omega) h);rw [d.val,c.val] at this
   unfold vK;grind,Z⟩
def Ki (h:n<18446744073709551616):G0 G 239 [ze .u64 n] (zD (dig n)):=by
 refine Fq func239 ?_;refine Fi (yO (z:=((n%4294967296:Nat):Int)) Z Z wh) ?_;refine Fi (wH Z Z Z C GG) ?_;refine zo (yO (z:=((n/4294967296:Nat):Int)) Z Z ((vt GV GV).trans B)) ?_;refine Fi (xj [n%4294967296,n/4294967296] Z Z J Z B Z Z Z) ?_;have:IsNat [n%4294967296,n/4294967296] n:=⟨uT C (uT C ug),by simp [val];omega⟩
 refine Fl Z Z (wG (by simp [cap])) ?_;exact Hj
def JF {l:G7} [a:IsNat l n]:G0 G 150 [zD l] (yR [ze .u64 (if n<18446744073709551616 then (n:Int) else 0),zp (decide (n<18446744073709551616))]):=by
 refine zs func150 ?_;refine uM 0 Z fun o=>?_;unfold yE at o
 refine Fh ?_;refine Qj [7,6,0] (fun (g:Nat) z=>(8,MK g)::z) (fun g=>[]) (fun g=>g<=l.length/\∀ j,1<j->j<g->limb l j=0) (fun g=>l.length-g) 0 ⟨BL _,fun j h1 k=>by omega⟩ ?_;rintro g ⟨q,d⟩;refine Fh ?_;refine Fo ?_ ?_<;>intro _ m
 .refine zo (zh Z Z Z (by simp) (y:=limb l g) (xN (by omega))) ?_;(iterate 3 refine zz ?_);refine zx<|zz ?_
  refine FE ?_ ?_<;>intro _ b
  .refine Fo ?_ ?_<;>intro _ c
   .exact zj (zu (e:=by rw [MY (zeq a.lim a.val (j:=g) (by omega) (by omega)),MS (zeq a.lim a.val (j:=g) (by omega) (by omega))]))
   .refine zA ?_;refine zg ?_;exact⟨g+1,⟨by omega,fun j h1 k=>by grind⟩,by omega,MM⟩
  .refine Fu ?_;refine zA ?_;refine zg ?_;exact⟨g+1,⟨by omega,fun j h1 k=>by omega⟩,by omega,MM⟩
 .have f:=zqP a.lim a.val (fun j h1=>by by_cases h:j<g;exact d j h1 h;exact wJ C);have h1:=yV a.lim 1;have p:=yV a.lim 0;refine Fk (XP (i:=1)) ?_;refine zA ?_;refine Fi ((ZC Z Z Z (by simp) GG).sub (zI (n:=((4294967296*limb l 1:Nat):Int)) ((xA GV GV).trans GV))) ?_;refine Fk (XP (i:=0)) ?_;refine zA ?_;refine Fi ((vg Z B Z Z).sub (zI (n:=(n:Int)) (by rw [Ws (by omega) (by omega),kK p];omega))) ?_;exact zj (zu (e:=by grind))
def zaS (h:wZ a) (f:wZ b):xc prog G 516 [yo [zD a],yo [zD b]] (JE a b):=by
 refine xM func516 Z Z Z Z fun l E hy=>Fh ?_;refine uM 5 Z fun e=>uM 7 Z fun lb=>?_;unfold yE at e lb;refine xi (γ:=Nat) (fun g=>⟨_,[(10,MK g),(9,ML (max a.length b.length)),(0,yieldS l),(1,yo [zD a]),(2,yo [zD b])],[],[],(g,false)⟩) (fun g=>g<=max a.length b.length) (fun g=>max a.length b.length-g) 0 (BL _) (aA (aa Z (xm Z (MW (ze .i64) (by omega)) zk))) ?_
 intro g i;refine Fh ?_;refine Fo ?_ ?_<;>intro _ d
 .have h1:=yV h g;have j:=yV f g;refine Fw 9 ?_;refine Fk XP ?_;refine zA ?_;refine zg ?_;refine Fk XP ?_;refine zA ?_;refine zM<|ae.yield Z hy Z Z Z (zcc C) (yU _) Z Z Z fun y=>zg ?_;refine Fp ?_ ?_<;>intro c
  .exact zj ⟨.inl Z,.inr c⟩
  .refine zA ?_;refine zg ?_;exact⟨g+1,(by omega:g+1<=max a.length b.length),by omega,Z,zk,wq _,Z,by grind⟩
 .exact⟨.inr Z,.inl (by rw [vq,(C:g=max a.length b.length)])⟩
def zce:G0 G 490 [zD a,zD b] (wD 516 [yo [zD a],yo [zD b]]):=by
 refine Fq func490 ?_;exact Hj
def yX (l:G7):(l.flatMap wB).length=l.length*1:=by
 induction l with
 | nil=>rfl
 | cons x l ih=>grind
def Wu (m:Nat):(m:Int)/2^(32:Int).toNat=((m/4294967296:Nat):Int):=B
def zwX (m:Nat):(m:Int)/2^(63:Int).toNat=((m/9223372036854775808:Nat):Int):=B
def zcf {p v o t x y z o' a b:Nat} (h:v+p*o=a+b) (ht:t=o+(x+y)) (c:z=t%4294967296) (d:o'=t/4294967296):v+p*z+p*4294967296*o'=a+p*x+(b+p*y):=by
 have e:p*(t%4294967296)+p*4294967296*(t/4294967296)=p*t:=by rw [Cj,<-Ci,Cy]
 grind
def sb (x y u:Nat):Nat:=if y+u<=x then x-y-u else 18446744073709551616+x-y-u
def zhu {p v o x y a b:Nat} (hx:x<4294967296) (hy:y<4294967296) (c:o<=1) (h:a+p*o=v+b):
 a+p*x+p*4294967296*(sb x y o/9223372036854775808)=v+p*(sb x y o%4294967296)+(b+p*y):=by
 have e:x+4294967296*(sb x y o/9223372036854775808)=sb x y o%4294967296+y+o:=by unfold sb;split <;> omega
 grind
def Vh {α:Type} (f:α->Nat) {l:List α} {g:Nat} {a:α} (h:l[g]? =some a):((l.take (g+1)).map f).sum=((l.take g).map f).sum+f a:=by
 rw [Cz,h];simp
def Wv {α:Type} (f:α->Nat) (l:List α) (g:Nat):((l.take g).map f).sum<=(l.map f).sum:=by
 have:(l.map f).sum=((l.take g).map f).sum+((l.drop g).map f).sum:=by rw [<-CA,<-Cp,BB]
 omega
def Xn (ll:List (G7)):List (List SV):=ll.map fun l=>[zD l]
def zhv {ll:List (G7)} (R:∀ l∈ll,wZ l) (O:(ll.map List.length).sum+ll.length<=cap):G0 G 436 [zR 1 id (Xn ll)] (zD (dig (ll.map val).sum)):=by
 unfold cap at O
 have K:(Xn ll).length=ll.length:=by simp [Xn]
 refine Fq func436 ?_;refine uu (fun g s d=>⟨_,[(11,ML g),(10,MK ll.length),(9,zR 1 id (Xn ll)),(2,zD s)],[],d,(0,false)⟩)
  (fun g s d=>g<=ll.length/\wZ s/\val s=((ll.take g).map val).sum/\s.length<=((ll.take g).map List.length).sum+g) (fun g s d=>ll.length-g) 0 [] [] ⟨BL _,ug,Z,Af _⟩
  (aA (aa Z (xm Z (MW (ze .i64) (by omega)) (aa Z ⟨⟨_,Z,vz Z⟩,trivial⟩)))) ?_
 rintro g s d ⟨hg,o,r,H⟩;refine Fh ?_;refine Fo ?_ ?_<;>intro _ E
 .obtain⟨a,x⟩:=FU ll g;have v:=R a (AE x);have N:=Vh List.length x;have F:=Vh val x;have Q:=Wv List.length ll (g+1);refine Fi (zh Z Z Z C (y:=[zD a]) (by show (Xn ll)[g]? =_;simp [Xn,x])) ?_;refine Fm fun X=>?_;refine Do (max a.length s.length+1) ?_;refine ae.make (n:=0) Z Z Z Z Z Z Z C C GK fun Y w=>Fm fun W=>?_;refine Fk zce ?_
  refine uN Z Z (zaS o v) (fun L h=>zep h) J Z
   (fun k h i=>i=(0,false)/\∃ q j out,zX q k/\j<=1/\wZ out/\out.length=k/\val out+4294967296^k*j=low s k+low a k /\
    h=[⟨some W,42,[eqS (rowV q k)],0⟩,rowE q 125 1 k (out.flatMap wB),⟨some X,162,[ze .u64 (j:Nat)],0⟩])
   (fun _ _ _=>False) ⟨Z,_,0,[],w,C,ug,Z,Z,Z⟩ ?_ ?_ ?_
  .rintro l k L h i U ⟨rfl,q,j,out,hq,P,p,hln,m,rfl⟩;obtain⟨S,rfl⟩:=zcd U;have hx:=yV o k;have hy:=yV v k;refine Fh ?_;refine⟨Z,?_⟩;refine zg ?_;refine Fi (yK Z Z Z Z (xA C C)) ?_;refine Do (j+(limb s k+limb a k)) ?_;refine zo (yO (z:=(((j+(limb s k+limb a k))%4294967296:Nat):Int)) Z Z wh) ?_;refine Fi (xj [(j+(limb s k+limb a k))%4294967296] Z Z J Z B Z Z Z) ?_;refine Fx 1 Z Z Z Z hq GU fun A u=>?_;refine Fi ((wH Z Z Z C GG).sub (zI (Wu _))) ?_;refine⟨Z,A,(j+(limb s k+limb a k))/4294967296,out++[(j+(limb s k+limb a k))%4294967296],u,C,vV p C,by grind,?_,by rw [CB];rfl⟩
   rw [uD,hln,xO,xO,xw];exact zcf m Z Z Z
  .rintro h i D ⟨rfl,q,j,out,hq,P,p,hln,m,rfl⟩;rw [vq] at hln m hq
   rw [vF C,vF C] at m
   refine zJ<|Fi (zQ 0 Z Z (by rw [vq];rfl) Z) ?_;refine zA ?_;refine Fi (xj [j] Z Z J Z B Z Z Z) ?_;refine ae.append 1 Z Z Z Z (by rw [vq];rfl) Z Z Z hq GU yZ GF GF fun M t=>zz ?_;refine ae.ghost _ Z (yF 1 2 Z Z t (l:=out++[j]) (by simp [hln]) CB.symm yZ GF)<|ae.ghost _ Z (zF (BZ _))<|zg ?_;refine zA ?_;refine Fh ?_
   refine⟨g+1,out++[j],D++d,⟨C,vV p C,?_,?_⟩,C,MM⟩
   .rw [uD,hln,F];omega
   grind
  simp
 .have I:g=ll.length:=C;subst I;rw [B3] at r H
  haveI:=uW o;refine Fl Z Z (wG GH) ?_;exact zj (zu (e:=MW zD (MW dig r)))
def Vi {a b:G7} {m n k l:Nat} [ha:IsNat a m] [hb:IsNat b n] [d:Sz a k] [c:Sz b l] (h:k+l+2<=cap:=by decide):G0 G 436 [zR 1 id [[zD a],[zD b]]] (zD (dig (m+n))):=by
 have:=zhv (G:=G) (ll:=[a,b]) (fun l h=>by simp at h;rcases h with rfl | rfl;exact ha.lim;exact hb.lim) (by have:=d.h;have:=c.h;grind);exact I5
def od {a b:G7} {m n:Nat} [s:IsNat a m] [r:IsNat b n] (x:max a.length b.length<=cap:=by exact ef (by decide)):G0 G 512 [zD a,zD b] (yR [zD (dig (m-n)),MK (if m<n then 10 else 0)]):=by
 unfold cap at x
 refine Fq func512 ?_;refine Fk zht ?_;refine zd ?_ ?_<;>intro _ g
 .have hlt:m<n:=by unfold vK at g;split at g;assumption;split at g <;> omega
  exact IU
 .have E:n<=m:=by unfold vK at g;split at g <;> omega
  refine zB<|zr<|ae.ghost _ Z (yI 125 1)<|Fm fun H=>?_;refine Fm fun F=>?_;refine Fk zce ?_;refine uN Z Z (zaS s.lim r.lim) (fun u h=>zep h) J Z
   (fun k h i=>i=(0,false)/\∃ q c out,zX q k/\c<=1/\wZ out/\out.length=k/\low a k+4294967296^k*c=val out+low b k /\
    h=[⟨some F,162,[ze .u64 (c:Nat)],0⟩,⟨some H,42,[eqS (rowV q k)],0⟩,rowE q 125 1 k (out.flatMap wB)])
   (fun _ _ _=>False) ⟨Z,none,0,[],Z,C,ug,Z,Z,Z⟩ ?_ ?_ ?_
  .rintro l k u h i A ⟨rfl,q,c,out,hq,t,j,hln,d,rfl⟩;obtain⟨y,rfl⟩:=zcd A;have hx:=yV s.lim k;have hy:=yV r.lim k;refine Fh ?_;refine⟨Z,?_⟩;refine zg ?_;refine Fi (ur Z Z Z Z) ?_;refine Fi ((ur Z Z Z Z).sub (zI (show _=((sb (limb a k) (limb b k) c:Nat):Int) by rw [wP,wP];unfold sb;grind))) ?_;refine zo (yO (z:=((sb (limb a k) (limb b k) c%4294967296:Nat):Int)) Z Z wh) ?_;refine Fi (xj [sb (limb a k) (limb b k) c%4294967296] Z Z J Z B Z Z Z) ?_;refine Fx 2 Z Z Z Z hq GU fun p o=>?_;refine Fi ((wH Z Z Z C GG).sub (zI (zwX _))) ?_
   refine⟨Z,p,sb (limb a k) (limb b k) c/9223372036854775808,out++[sb (limb a k) (limb b k) c%4294967296],o,?_,vV j C,by grind,?_,by rw [CB];rfl⟩
   .unfold sb;grind
   .rw [uD,hln,xO,xO,xw];exact zhu hx hy t d
  .rintro h i D ⟨rfl,q,c,out,hq,t,j,hln,d,rfl⟩;rw [vq] at hln d hq
   rw [vF C,vF C,s.val,r.val] at d
   have v:=wz j;rw [hln] at v
   have w:c=0:=by
    rcases Ab 0 c with h | h
    .grind
    .omega
   subst w;haveI:IsNat out (m-n):=⟨j,C⟩;refine zr<|zz ?_;refine ae.ghost _ Z (yF 2 32 Z Z (by rw [vq];exact hq) (by rw [vq];exact hln) Z yZ (by rw [vq];unfold yE;omega))<|Fl Z Z (wG GH) ?_
   exact zj (zu (e:=by grind))
  simp
variable {n m k p:Nat} {l a:G7}
def Kj (l:G7) (k:Nat):val (l.drop k)=limb l k+4294967296*val (l.drop (k+1)):=by
 by_cases h:k<l.length
 .rw [AO h];have:limb l k=l[k]:=by simp [limb,Ay,h]
  simp only [val,this]
 .rw [AN C,AN C,wJ C];rfl
def zer (l:G7) (k:Nat):val l=low l k+4294967296^k*val (l.drop k):=by
 induction k with
 | zero=>rw [uV,CG,CH,Br,CI]
 | succ k ih=>rw [ih,xO,xw,Kj,Ci,Cj,An]
def zok (h:val l<4294967296^k):low l k=val l:=by
 have:=zer l k;rcases Bm (val (l.drop k)) with a | a
 .grind
 .have:=Bn (4294967296^k) a;omega
def zqQ {v o x y a b:Nat} (hx:x<4294967296) (hy:y<4294967296) (c:o<=1) (h:a+p*o=v+b):
 a+p*x+p*4294967296*(1-(x+4294967296-y-o)/4294967296)=v+p*((x+4294967296-y-o)%4294967296)+(b+p*y):=by
 have e:x+4294967296*(1-(x+4294967296-y-o)/4294967296)=(x+4294967296-y-o)%4294967296+y+o:=C;grind
def je {l:Nat} (h:m<4294967296^k) (h':n<4294967296^l):m+n<4294967296^(k+l+1):=(bd_add (h:=⟨h⟩) (h':=⟨h'⟩)).h
def xV [r:IsNat l n] (s:l.length<=cap:=by exact Sz.le (by decide)):G0 G 38 [zD l] (zD (dig n)):=by
 unfold cap at s
 refine Fq func38 ?_;refine Qj [0] (fun (g:Nat) z=>(3,MK g)::z) (fun g=>[]) (fun g=>g<=l.length/\∀ i,g<=i->limb l i=0) (fun g=>g) l.length ⟨Af _,fun i h=>wJ h⟩ ?_;rintro g ⟨o,q⟩;have d:(g=0\/limb l (g-1)≠0)->l.take g=dig n:=fun h=>by rw [<-r.val];exact qI r.lim o q h
 refine zi<|zr<|zz ?_;refine FE ?_ ?_<;>intro _ c
 .refine Do (g-1) ?_;refine Fi (zh Z Z Z (by simp) (y:=limb l (g-1)) (xN (by omega))) ?_;refine FP ?_ ?_<;>intro _ k
  .refine Do (g-1) ?_;exact⟨g-1,⟨by omega,fun i hi=>by grind⟩,by omega,MM⟩
  .refine zK<|zr<|ae.buildRow Z Z Z Z Z Z J Z (.inl Z) Z Z fun p b=>zg ?_;refine Fi (xU (m:=g) Z Z (.inl ⟨Z,Z⟩) (.inr ⟨_,_,Z,Z⟩) (.inl Z) (by omega) o) ?_;refine FL 0 Z Z Z Z b Z fun j a=>?_;refine ae.ghost _ Z (yF 0 22 Z Z a (l:=l.take g) B Z yZ GF)<|zg ?_
   exact zj (zu (e:=MW zD (d (.inr (by omega)))))
 .refine yM Z Z<|zK<|zr<|ae.buildRow Z Z Z Z Z Z J Z (.inl Z) Z Z fun p b=>zg ?_;refine Fi (xU (m:=g) Z Z (.inl ⟨Z,Z⟩) (.inr ⟨_,_,Z,Z⟩) (.inl Z) (by omega) o) ?_;refine FL 0 Z Z Z Z b Z fun j a=>?_;refine ae.ghost _ Z (yF 0 22 Z Z a (l:=l.take g) B Z yZ GF)<|zg ?_
  exact zj (zu (e:=MW zD (d (.inl (by omega)))))
def uX {i:Nat} (c:wZ l):G0 G 335 [zD l,MK i] (ze .u64 (limb l i)):=by
 refine Fq func335 ?_;refine Fo ?_ ?_<;>intro _ a
 .exact zj (zu (e:=by rw [wJ C];rfl))
 .have b:=yV c i;refine Fi (zh Z Z Z C (y:=limb l i) (xN C)) ?_;refine zA ?_;exact Lk
def zes {b:G7} [d:IsNat a m] [c:IsNat b n]:G0 G 233 [zD a,zD b] (MK (vK m n)):=by
 refine zs func233 ?_;refine uM 0 Z fun l=>uM 1 Z fun hb=>?_;unfold yE at l hb
 refine Fh ?_;refine Fi (yK (z:=((max a.length b.length:Nat):Int)-1) Z Z Z (MW some (by omega)) (wrap_i64 (by omega) (by omega))) ?_;refine Qj [4,0,1] (fun (g:Nat) z=>(5,MK ((g:Int)-1))::z) (fun g=>[]) (fun g=>g<=max a.length b.length/\∀ j,g<=j->j<max a.length b.length->limb a j=limb b j) (fun g=>g) (max a.length b.length) ⟨Af _,fun j h1 h2=>by omega⟩ ?_;rintro g ⟨o,hz⟩;refine Fh ?_;refine FQ ?_ ?_<;>intro _ k
 .refine zB<|zi<|zN<|zi<|zr<|zz ?_;refine Fi ((zC Z Z).sub (zI (C:(g:Int)-1=((g-1:Nat):Int)))) ?_;refine zf (uX d.lim) ?_;refine zz ?_;refine Fi ((zC Z Z).sub (zI (C:(g:Int)-1=((g-1:Nat):Int)))) ?_;refine Fk (uX c.lim) ?_;refine FP ?_ ?_<;>intro _ f
  .refine zj ?_;exact⟨_,[],.one (.tmp Z),BZ _,by
    have:=kw d.lim (i:=g-1) (n:=max a.length b.length) C C C (fun j h1 h2=>hz j C h2) C;rw [d.val,c.val] at this
    unfold vK;rw [MX this],Z⟩
  .refine zB<|zr<|zz ?_;refine Fi ((zC Z Z).sub (zI (C:(g:Int)-1=((g-1:Nat):Int)))) ?_;refine zf (uX d.lim) ?_;refine zz ?_;refine Fi ((zC Z Z).sub (zI (C:(g:Int)-1=((g-1:Nat):Int)))) ?_;refine Fk (uX c.lim) ?_;refine Fo ?_ ?_<;>intro _ e
   .refine zj ?_;exact⟨_,[],.one (.tmp Z),BZ _,by
     have:=kw c.lim (i:=g-1) (by omega) (by omega) (by omega) (fun j h1 h2=>(hz j (by omega) h2).symm) (by omega);rw [d.val,c.val] at this
     unfold vK;grind,Z⟩
   .exact HY
 .refine zj ?_;exact⟨_,[],.one (.tmp Z),BZ _,by
   have:=Qw (by omega) (by omega) (fun j h=>hz j (by omega) h);rw [d.val,c.val] at this
   unfold vK;grind,Z⟩
def Kk (h:n<18446744073709551616):G0 G 139 [ze .u64 n] (zD (dig n)):=by
 refine Fq func139 ?_;refine Fi (yO (z:=((n%4294967296:Nat):Int)) Z Z wh) ?_;refine Fi (wH Z Z Z C GG) ?_;refine zo (yO (z:=((n/4294967296:Nat):Int)) Z Z ((vt GV GV).trans B)) ?_;refine Fi (xj [n%4294967296,n/4294967296] Z Z J Z B Z Z Z) ?_;have:IsNat [n%4294967296,n/4294967296] n:=⟨uT C (uT C ug),by simp [val];omega⟩
 refine Fl Z Z (xV (by simp [cap])) ?_;exact Hj
def zol {b:G7} [p:IsNat a m] [o:IsNat b n] (s:a.length+b.length+2<=cap:=by exact ec (by decide)):G0 G 329 [zD a,zD b] (zD (dig (m+n))):=by
 unfold cap at s
 refine zs func329 ?_;refine zr<|zz ?_;refine zx<|ae.ghost _ Z (yI 125 1)<|Fh ?_;refine jm [0,1] (fun k q c out z=>(7,ML k)::(6,ze .u64 (c:Nat))::(5,eqS (rowV q k))::z) (fun k q c out=>[rowE q 125 1 k (out.flatMap wB)]) (fun k q c out=>k<=max a.length b.length/\zX q k/\c<=1/\wZ out/\out.length=k/\val out+4294967296^k*c=low a k+low b k) (fun k q c out=>max a.length b.length-k) 0 none 0 [] ⟨BL _,Z,C,ug,Z,Z⟩ ?_;rintro k q c out ⟨u,hq,t,h,hln,d⟩;have hx:=yV p.lim k;have hy:=yV o.lim k;refine Fh ?_;refine Fo ?_ ?_<;>intro _ j
 .refine Fk (uX p.lim) ?_;refine Fk (uX o.lim) ?_;refine Fi (yK Z Z Z Z (xA C C)) ?_;refine Do (c+(limb a k+limb b k)) ?_;refine zo (yO (z:=(((c+(limb a k+limb b k))%4294967296:Nat):Int)) Z Z wh) ?_;refine Fi (xj [(c+(limb a k+limb b k))%4294967296] Z Z J Z B Z Z Z) ?_;refine Fx 0 Z Z Z Z hq GU fun i g=>?_;refine Fi ((wH Z Z Z C GG).sub (zI (Wu _))) ?_;refine zA ?_;refine Fh ?_;refine⟨k+1,i,(c+(limb a k+limb b k))/4294967296,out++[(c+(limb a k+limb b k))%4294967296],⟨C,g,C,vV h C,by grind,?_⟩,C,an zk Gv⟩
  rw [uD,hln,xO,xO,xw];exact zcf d Z Z Z
 .rw [vF C,vF C,p.val,o.val] at d
  refine zA ?_;refine Fi (xj [c] Z Z J Z B Z Z Z) ?_;refine FL 0 Z Z Z Z hq GU fun r e=>?_;refine ae.ghost _ Z (yF 0 38 Z Z e (l:=out++[c]) (by simp [hln]) CB.symm yZ GF) ?_
  have:IsNat (out++[c]) (m+n):=⟨vV h C,by rw [uD,hln];omega⟩
  refine Fl Z Z (xV GD) ?_;exact Hj
def zom {ll:List (G7)} (r:∀ l∈ll,wZ l) (p:(ll.map List.length).sum+ll.length+2<=cap):G0 G 220 [zR 1 id (Xn ll)] (zD (dig (ll.map val).sum)):=by
 unfold cap at p
 have u:(Xn ll).length=ll.length:=by simp [Xn]
 refine Fq func220 ?_;refine xz (fun g s=>⟨_,[(4,ML g),(3,zD s),(0,zR 1 id (Xn ll))],[],[],(0,false)⟩)
  (fun g s=>g<=ll.length/\wZ s/\val s=((ll.take g).map val).sum/\s.length<=((ll.take g).map List.length).sum+g) (fun g s=>ll.length-g) 0 [] ⟨BL _,ug,Z,Af _⟩
  (aA (aa Z ⟨⟨_,Z,vz Z⟩,aa Z trivial⟩)) ?_
 rintro g s ⟨v,b,c,i⟩;refine Fh ?_;refine Fo ?_ ?_<;>intro _ k
 .obtain⟨a,f⟩:=FU ll g;have d:=r a (AE f);have o:=Vh List.length f;have m:=Vh val f;have q:=Wv List.length ll (g+1);haveI:=uW b;haveI:=uW d;have t:=zT (aW (isNat_dig (n:=val s+val a)) ⟨zT (je (wz b) (wz d))⟩).h;refine Fi (zh Z Z Z C (y:=[zD a]) (by show (Xn ll)[g]? =_;simp [Xn,f])) ?_;refine Fl Z Z (zol GH) ?_;refine zA ?_;refine zg ?_;exact⟨g+1,_,⟨C,xe _,by rw [xu];omega,C⟩,C,aA (aa Z (aa Z (aa Z trivial)))⟩
 .have j:g=ll.length:=C;subst j;rw [B3] at c i
  haveI:=uW b;refine Fl Z Z (xV GH) ?_;exact zj (zu (e:=MW zD (MW dig c)))
def XY {b:G7} {l:Nat} [ha:IsNat a m] [hb:IsNat b n] [d:Sz a k] [c:Sz b l] (h:k+l+4<=cap:=by decide):G0 G 220 [zR 1 id [[zD a],[zD b]]] (zD (dig (m+n))):=by
 have:=zom (G:=G) (ll:=[a,b]) (fun l h=>by simp at h;rcases h with rfl | rfl;exact ha.lim;exact hb.lim) (by have:=d.h;have:=c.h;grind);exact I5
def Vj {b:G7} [o:IsNat a m] [p:IsNat b n] (x:a.length<=cap:=by exact Sz.le (by decide)):G0 G 229 [zD a,zD b] (yR [zD (dig (m-n)),MK (if m<n then 10 else 0)]):=by
 unfold cap at x
 refine zs func229 ?_;refine Fh ?_;refine Fl Z Z zes ?_;refine zd ?_ ?_<;>intro _ d
 .have t:m<n:=by unfold vK at d;split at d;assumption;split at d <;> omega
  refine zr<|Fi ((yt Z Z).sub (vz (l:=dig (m-n)) (uv.2 C))) ?_;exact zj (zu (e:=by grind))
 .have A:n<=m:=by unfold vK at d;split at d <;> omega
  refine zB<|zr<|ae.ghost _ Z (yI 125 1)<|Fh ?_;refine uf (fun k q c out=>⟨_,[(8,ML k),(7,ze .u64 (c:Nat)),(6,eqS (rowV q k)),(0,zD a),(1,zD b)],[rowE q 125 1 k (out.flatMap wB)],[],(0,false)⟩)
   (fun k q c out=>k<=a.length/\zX q k/\c<=1/\wZ out/\out.length=k/\low a k+4294967296^k*c=val out+low b k) (fun k q c out=>a.length-k)
   0 none 0 [] ⟨BL _,Z,C,ug,Z,Z⟩ MM ?_
  rintro k q c out ⟨E,hq,y,i,hln,g⟩;have hx:=yV o.lim k;have hy:=yV p.lim k;refine zi<|zg ?_;refine zd ?_ ?_<;>intro _ s
  .refine Fh ?_;refine zf (uX o.lim) ?_;refine Fi (yK Z Z Z Z (xA C C)) ?_;refine zf (uX p.lim) ?_;refine Fi (yK Z Z Z Z (xA C C)) ?_;refine Do (limb a k+4294967296-limb b k-c) ?_;refine zo (yO (z:=(((limb a k+4294967296-limb b k-c)%4294967296:Nat):Int)) Z Z wh) ?_;refine zo (xj [(limb a k+4294967296-limb b k-c)%4294967296] Z Z J Z B Z Z Z) ?_;refine ae.append 0 Z Z Z Z Z Z Z Z hq GU yZ GF GF fun r j=>zg ?_;refine zo ((wH Z Z Z C GG).sub (zI (Wu _))) ?_;refine Do (1-(limb a k+4294967296-limb b k-c)/4294967296) ?_;refine zA ?_;refine Fh ?_;refine⟨k+1,r,1-(limb a k+4294967296-limb b k-c)/4294967296,out++[(limb a k+4294967296-limb b k-c)%4294967296],⟨C,j,C,vV i C,by grind,?_⟩,C,an zk Gv⟩
   rw [uD,hln,xO,xO,xw];exact zqQ hx hy y g
  .have D:k=a.length:=C;have u:=wz o.lim;rw [o.val,<-D] at u
   rw [vF C,zok (by rw [p.val];omega),o.val,p.val] at g
   have v:=wz i;rw [hln] at v
   have w:c=0:=by
    rcases Ab 0 c with h | h
    .grind
    .omega
   subst w;have:IsNat out (m-n):=⟨i,C⟩;refine zK<|zr<|ae.ghost _ Z (yF 0 6 Z Z hq hln Z yZ GK)<|zz ?_;refine Fl Z Z (xV GH) ?_;exact zj (zu (e:=by grind))
def zaT [m:IsNat l n] (i:l.length<=cap:=by exact Sz.le (by decide)):G0 G 143 [zD l] (yR [ze .u64 (if n<18446744073709551616 then (n:Int) else 0),zp (decide (n<18446744073709551616))]):=by
 refine Fq func143 ?_;refine Fk (xV i) ?_;refine Fo ?_ ?_<;>intro _ d
 .have a:¬ n<18446744073709551616:=fun h=>by have:=zT (k:=2) (by omega);omega
  exact zj (zu (e:=by grind))
 .have b:n<18446744073709551616:=by have:=xE (n:=n) (k:=2) (by omega);omega
  refine Fi (yK (z:=(((dig n).length:Nat):Int)-1) Z Z Z (MW some (by rfl)) (wrap_i64 (by omega) (by omega))) ?_;refine xi (γ:=Nat) (fun g=>⟨_,[(6,MK ((g:Int)-1)),(5,ze .u64 (val ((dig n).drop g):Nat)),(4,zD (dig n))],[],[],(0,false)⟩) (fun g=>g<=(dig n).length) (fun g=>g) (dig n).length (Af _) (aA (aa Z (xm Z (MW (ze .u64) (by rw [List.drop_length];rfl)) (aa Z trivial)))) ?_;intro g p;refine Fh ?_;refine Fo ?_ ?_<;>intro _ c
  .have j:val ((dig n).drop g)<4294967296:=by
    have h1:=wz (uC (xe n) g);rw [Cc] at h1
    have:4294967296^((dig n).length-g)<=4294967296^1:=Cm (by simp) (by omega);omega
   have q:val ((dig n).drop (g-1))=limb (dig n) (g-1)+4294967296*val ((dig n).drop g):=by
    rw [AO (C:g-1<(dig n).length),(C:g-1+1=g)];simp [val,limb,Ay,(C:g-1<(dig n).length)]
   have o:=yV (xe n) (g-1);refine Fh ?_;refine zo ((ZC Z Z Z (by simp) GG).sub (zI (n:=((4294967296*val ((dig n).drop g):Nat):Int)) ((xA GV GV).trans GV))) ?_;refine zz ?_;refine Fi ((zC Z Z).sub (zI (C:(g:Int)-1=((g-1:Nat):Int)))) ?_;refine Fi (zh Z Z Z (by simp) (y:=limb (dig n) (g-1)) (xN (by omega))) ?_;refine zA ?_;refine Do (val ((dig n).drop (g-1))) ?_;refine zA ?_;refine zg ?_;exact⟨g-1,(by omega:g-1<=(dig n).length),by omega,aA (xm Z (MW (ze .i64) C) zk)⟩
  .have f:g=0:=by omega
   subst f;exact zj (zu (e:=by rw [MX b,MR b,CI,xu]))
def Xz (l:G7):l.flatMap wB=l.map fun x=>ze .u32 (x:Nat):=by
 induction l with
 | nil=>rfl
 | cons x l ih=>grind
def zfO {l:G7} {i:Nat} (h:i<l.length):(l.flatMap wB)[i]? =some (ze .u32 (limb l i:Nat)):=by
 rw [Xz,Ba,xN h];rfl
def Km (l:G7) (i z:Nat):(l.flatMap wB).set i (ze .u32 (z:Nat))=(l.set i z).flatMap wB:=by
 rw [Xz,Xz,List.map_set]
def zhw (n:Nat):(yD [.int .u32 0] (n*1)).map eqS=(List.replicate n 0).flatMap wB:=by
 rw [Xz,Cr,zb2,CJ,CJ];rfl
section
variable {P:Program} {G:Imm} {E:aD} {r:Option Nat} {gd:G4} {p:Bool} {o:Oper} {ops:List Oper} {K:St->Prop}
variable {x y:Operand} {e c n b i n0 z:Nat} {i0:Nat×Bool} {k:IntKind} {H:HL} {g:Ha} {t:TypeId} {l:G7}
def xG {t:Nat} [am P t e 1] {d:Operand} (a:o.op= .indexAddr t x d) (hx:yW g x=some (eqS (rowV (some (b,c)) n))) (hi:yW g d=some (ze k i)) (h1:i<n):
 OpOK P G H o g (eqS (.pointer (some ⟨b,i,none⟩))):=
 uA a hx hi C C B
def ua (j:Nat) [ak P t] (a:o.op= .load t x) (hx:yW g x=some (eqS (.pointer (some ⟨b,i,none⟩)))) (d:H[j]? =some (rowE (some (b,c)) e 1 n (l.flatMap wB))) (h:i<l.length):OpOK P G H o g (ze .u32 (limb l i:Nat)):=
 zQ j a hx d (zfO h)
def ae.storeRow (j:Nat) {h:HL} {d:G7} [ai P t 1] (hp:p=false) (k:o.op= .store t x y) (hx:yW g x=some (eqS (.pointer (some ⟨b,i,none⟩)))) (hy:yW g y=some (ze .u32 z))
 (u:h[j]? =some (rowE (some (b,c)) e 1 n (l.flatMap wB))) (hi:i<l.length) (s:o.dst=none) (q:zO gd g o true)
 (m:ae P G E r gd p ops ⟨n0,g,wE h j [rowE (some (b,c)) e 1 n ((l.set i z).flatMap wB)],d,i0⟩ K):ae P G E r gd p (o::ops) ⟨n0,g,h,d,i0⟩ K:=by
 have a:i+1<=(l.flatMap wB).length:=by rw [yX];omega
 have f:Nat.ble (i+[ze .u32 (z:Nat)].length) (l.flatMap wB).length=true:=by rw [Nat.ble_eq];exact a
 refine ae.store j hp k hx hy u Z f s q ?_;show ae P G E r gd p ops ⟨n0,g,wE h j [⟨some b,e,(l.flatMap wB).set i (ze .u32 z),c*1-n*1⟩],d,i0⟩ K;rw [Km];exact m
def aG {m:Nat} {h:HL} {d:G7} {i:Nat×Bool} {t a:Nat} [am P t e 1] [av P e [.int .u32 0] a] {q:IntKind} (hp:p=false) (f:o.op= .makeSlice t x y) (hx:yW g x=some (ze k n)) (hy:yW g y=some (ze q c)) (u:zO gd g o true) (ht:o.dst=some m) (v:Nat.blt m n0=true)
 (j:n<=c) (l:a*c<=281474976710656) (w:c<=cap)
 (s:∀ b,zX (some (b,c)) n->ae P G E r gd p ops ⟨n0,(m,eqS (rowV (some (b,c)) n))::g,rowE (some (b,c)) e 1 n ((List.replicate n 0).flatMap wB)::h,d,i⟩ K):ae P G E r gd p (o::ops) ⟨n0,g,h,d,i⟩ K:=
 ae.make hp f hx hy u ht v j l (by unfold cap at w;unfold yE;omega) fun b l=>by rw [zhw];exact s b l
end
variable {i z x y:Nat} {l:G7}
def VP:∀ {l:G7} {j:Nat} (z:Nat),j<l.length->val (l.set j z)+4294967296^j*limb l j=val l+4294967296^j*z
 | [],j,z,h=>by grind
 | x::l,0,z,h=>by simp only [List.set_cons_zero,val,XN,CG,CH];omega
 | x::l,j+1,z,h=>by
  have a:=VP z GP;simp only [List.set_cons_succ,val,XO];grind
def vi {j:Nat} (h:i≠j):limb (l.set i z) j=limb l j:=by
 simp only [limb,Ay,AY h]
def Xb (h:i<l.length):limb (l.set i z) i=z:=by
 simp [limb,Ay,h]
def Zy (h:wZ l) (a:z<4294967296):wZ (l.set i z):=fun x hx=>by
 rcases AZ hx with h1 | h1
 .exact h x h1
 omega
def ve (n:Nat):wZ (List.replicate n 0):=fun x hx=>by grind
def XZ (n j:Nat):limb (List.replicate n 0) j=0:=by
 simp only [limb,Ay,CK];grind
def oc {o c:Nat} (hx:x<4294967296) (hy:y<4294967296) (a:o<4294967296) (b:c<4294967296):x*y+o+c<18446744073709551616:=by
 have:=CL (C:x<=4294967295) (C:y<=4294967295);omega
def zhx {v w c o q a p s t:Nat} (hp:p=q*a) (h:v+p*c=w+q*(x*t)) (b:s+p*o=v+p*((x*y+o+c)%4294967296)):s+p*4294967296*((x*y+o+c)/4294967296)=w+q*(x*(t+a*y)):=by
 have e:p*((x*y+o+c)%4294967296)+p*4294967296*((x*y+o+c)/4294967296)=p*(x*y)+p*o+p*c:=by
  rw [Cj,<-Ci,Cy,Ci,Ci]
 grind
end Go.Proofs
