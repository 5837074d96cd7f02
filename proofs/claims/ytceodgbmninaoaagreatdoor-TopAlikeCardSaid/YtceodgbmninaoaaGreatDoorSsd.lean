/- digits: texts of numbers, and numbers of texts. -/
import Derived.Test.YtceodgbmninaoaaGreatDoorSsc
import Derived.Test.YtceodgbmninaoaaGreatDoorSns
import Derived.Test.YtceodgbmninaoaaGreatDoorSnx
import Derived.Test.YtceodgbmninaoaaGreatDoorSzn
set_option linter.all false
namespace Go.Proofs
open Go Go.Sv Num Tryz
variable {G:Imm}
variable {n k d:Nat} {l:G6} {a:G7} {m:List SV}
def zrN {z:Int} (h1: -2147483648<=z) (a:z<=2147483647):IntKind.i32.wrap z=z:=by
 simp [IntKind.wrap,IntKind.bits,IntKind.signed];omega
def JQ {l:G7} (I:Imm) (v:Value) (h:(zR 1 id (l.map wB)).den I v):(zD l).den I v:=by
 obtain⟨a,cap,d,h1,g,c⟩:=h;refine⟨a,cap,by grind,by grind,by grind,?_⟩;simp_all
theorem YI (h:d<4294967296):IsNat [d] d:=⟨uT h ug,by rfl⟩
def fO (n:Nat):List (List SV):=(JH n).map fun m=>[ze .u64 (m:Nat)]
def zc4:(fO n).length=(JH n).length:=by simp [fO]
def zx4 {a:List SV} (h:a∈fO n):a.length=1:=by
 simp only [fO,Bc] at h
 grind
def zvf {a:List SV} (h:(fO n)[k]? =some a):∃ m,(JH n)[k]? =some m/\a=[ze .u64 (m:Nat)]:=by
 rw [fO,Ba,DB] at h
 grind
def zrO {α:Type} {l:List α} {x:α} {r:List α} (h:l.drop k=x::r):l[k]? =some x/\l.drop (k+1)=r/\k<l.length:=by
 have h1:l[k]? =some x:=by rw [<-List.head?_drop,h];rfl
 exact⟨h1,by rw [<-CV,h];rfl,yJ h1⟩
theorem zx5 {m:Nat} (h:(JH n)[k]? =some m):m<1000000000:=by
  induction n using Nat.strongRecOn generalizing k with
  | _ n ih=>
    by_cases a:n=0
    . subst a;rw [Xd] at h;grind
    . rw [VT a] at h
      grind
abbrev dec (n:Nat):List UInt8:=Lib.decDigits n
def WF (n:Nat):(dec n).length=Lib.nDigits n:=Lib.decDigits_length n
def zx6 (n:Nat):dec n≠[]:=fun h=>by
 have:=WF n;rw [h] at this;have:=Lib.nDigits_pos n;grind
def Zz (I:Imm) (v:Value) (h:(G8).den I v):(zD (dig 0)).den I v:=by rw [show v= .slice none 0 0 from h,ay];exact UI
def zk7 (I:Imm) (v:Value) (h:(zl [eqS (.bool false),G8]).den I v):(zl [zp false,zD (dig 0)]).den I v:=by
 obtain⟨xs,a,b,h1⟩:=h;refine⟨xs,a,?_,h1⟩;obtain⟨x,y,rfl,hx,hy⟩:=Zr b;exact yB hx (yB (Zz I y hy) aq)
def zrP (h1:¬ l=[]) (b:¬ 60<l.length) (a:l.all isD=true):QX l=true:=by
 simp only [QX,AD,DA,decide_eq_true_eq,a,and_true];grind
def lg (a:k<l.length) (h:isD l[k]=false):QX l=false:=by
 have h1:l.all isD=false:=List.all_eq_false.2 ⟨l[k],Bf _,by simp [h]⟩;unfold QX;grind
def zmR {c:UInt8} {z w:Nat} (a:(z<128/\c.toNat=z/\w=1)\/(128<=z/\128<=c.toNat)) (h:z<48\/57<z):isD c=false:=by
 simp only [isD,D7,decide_eq_false_iff_not];omega
def zio (a:k<l.length) (h:(l.take k).all isD=true) (h1:48<=l[k].toNat) (b:l[k].toNat<=57):(l.take (k+1)).all isD=true:=by
 rw [Cz,AL a,Dl,h];simp [isD,h1,b]
def JR (h:fe l≠0):QX l=false:=by
 cases h1:QX l with
 | false=>rfl
 | true=>exact M1 (by simp [fe,h1]) h
def mR (h:QX l=true):fe l=0/\Kz l=Xo l:=by simp [fe,Kz,h]
def Zj (h:QX l=false):fe l=60/\Kz l=0:=by simp [fe,Kz,h]
def kl (l:G6):Kz l<10^60:=by
 cases h:QX l with
 | false=>rw [(Zj h).2];decide
 | true=>
  rw [(mR h).2];simp only [QX,AD,decide_eq_true_eq] at h
  exact Ah (kH h.2.2) (Cm J h.2.1)
theorem UW {v:Nat} (h:v<10^60):Bd v 7:=⟨Ah h J⟩
def fo (b:Bool) (n:Nat):G6:=if (b&&decide (n≠0))=true then 45::dec n else dec n
def lf:dec n=[48]↔n=0:=by
 constructor
 .intro h;refine M4 fun b=>?_;obtain⟨c,r,h1,a⟩:=zhX b;grind
 .rintro rfl;exact cC
def zrQ {m:Nat} [i:IsNat a m] [e:Sz a k] (f:d<4294967296) (g:k+3<=cap:=by decide):G0 G 437 [zD a,ze .u32 d] (zD (dig (m*d))):=by
 have hi:=YI f;have c:=e.h;refine Fq func437 ?_;refine Fl Z Z ((zcl GV).args ⟨fun _ _ h=>h,fun I v h=>JQ (l:=[d]) I v h,trivial⟩) ?_;exact zj zt
def zgc {l:G7} {b:Nat} [q:IsNat l n] (x:l.length+20000<=cap):nM prog G 147 [G9 b] (fO n) [⟨some b,42,[zD l],0⟩] (fun _ H'=>H'=[]):=by
 have p:n<4294967296^l.length:=by rw [<-q.val];exact wz q.lim
 have hi:=YI (d:=1000000000) J;refine kN func147 Z Z Z Z fun r E hy _=>zg ?_;refine Fl Z Z (wG C) ?_;refine xz (fun k m=>⟨_,[(0,yieldS r),(1,G9 b)],[⟨some b,42,[zD (dig m)],0⟩],[],(k,false)⟩) (fun k m=>(JH n).drop k=JH m/\k<=(JH n).length/\m<4294967296^l.length) (fun _ m=>m) 0 n ⟨CI,BL _,p⟩ MM ?_
 rintro k m ⟨a,z,t⟩;have s:=zT t;refine Fh ?_;refine Fo ?_ ?_<;>intro _ c
 .have f:m≠0:=fun h=>by rw [h,ay] at c;grind
  rw [VT f] at a
  obtain⟨o,j,w⟩:=zrO a;have i:m/1000000000<m:=Cg (by omega) J;refine Fl Z Z ((Kr (by omega) (by unfold cap;simp)).args ⟨fun _ _ h=>h,fun I v h=>JQ (l:=[1000000000]) I v h,trivial⟩) ?_;refine zf JF ?_;refine zz ?_;refine Fi ((xp Z Z Z).sub (zI (n:=((m%1000000000:Nat):Int)) (by grind))) ?_;refine ae.yield Z hy Z Z Z (show (fO n)[k]? =some [ze .u64 ((m%1000000000:Nat):Int)] by rw [fO,Ba,o];rfl) (yU _) Z Z Z fun y=>zg ?_;refine Fp ?_ ?_<;>intro g
  .exact zj ⟨.inl Z,[],BZ _,Z,.inr (by omega)⟩
  .exact⟨k+1,m/1000000000,⟨j,by omega,by omega⟩,i,Z,zk,wq _,Z,by grind⟩
 .have f:m=0:=by
   have h1:=yH (n:=m);omega
  rw [f,Xd] at a
  have u:=List.drop_eq_nil_iff.1 a;exact⟨.inr Z,[],BZ _,Z,.inl (by rw [zc4,(C:k=(JH n).length)])⟩
def ziq {l:G7}:CallSpec prog G 102 [zD l] [] (fun s H'=>∃ b,s=wD 147 [G9 b]/\H'=[⟨some b,42,[zD l],0⟩]):=by
 refine zs func102 ?_;refine zr<|ae.box Z Z Z Z Z Z fun a=>zg ?_;exact zj ⟨_,[_],.one (.tmp Z),Dd _,a,Z,Z⟩
def oO [ba G] {l:G7} [s:IsNat l n] [E:Sz l k] (y:k+20000<=cap:=by decide):G0 G 70 [zD l] (strS (dec n)):=by
 have A:=E.h;have q:n<4294967296^l.length:=by rw [<-s.val];exact wz s.lim
 have w:=VU q;unfold cap at y
 refine Fq func70 ?_;refine Fm fun u=>?_;refine aH Z Z Z ziq Z Z Z ?_;rintro s1 H1 ⟨F,rfl,rfl⟩;refine zg ?_;refine kg Z Z (zgc GH) (fun v h=>zx4 h) J Z
  (fun k h i=>i=(0,false)/\k<=(JH n).length/\h=[⟨some u,9,[strS (txt ((JH n).take k))],0⟩])
  (fun _ _ _=>False) ⟨Z,BL _,Z⟩ ?_ ?_ ?_
 .rintro H k v h i p ⟨rfl,z,rfl⟩;obtain⟨m,o,rfl⟩:=zvf p;have t:=yJ o;have f:=zx5 o;have x:Lib.nDigits m<=9:=xn f;have d:=zcz ((JH n).take k);rw [BG] at d
  refine Fh ?_;refine⟨Z,?_⟩;refine zg ?_;refine Fl Z Z (zoM C) ?_;refine wW 8 V<|zz ?_;refine Fi ((wS Z Z).sub (zI (by rw [WF]))) ?_;refine Do (9-Lib.nDigits m) ?_;refine Fl Z Z (zhV C GV) ?_;refine Fi ((vD Z Z Z (by rw [Lib.repeatL_length,WF];grind)).sub (WS (zCu f))) ?_;refine Fi ((vD Z Z Z (by rw [qU];omega)).sub (WS (zrg o).symm)) ?_
  exact⟨Z,C,Z⟩
 .rintro h H' i D ⟨rfl,_,rfl⟩ rfl;rw [zc4,B3];refine Fh ?_;refine Fi ((zb Z Z (zea J)).sub (WS (zoO n))) ?_;refine Fi (xL Z Z Z Z) ?_;refine Fp ?_ ?_<;>intro a
  .have b:n=0:=by
    refine M4 fun r=>?_;have h1:=MU.1 a;rw [MY r] at h1
    exact zx6 n h1
   exact zj (zu (e:=by rw [b,show dec 0=[48] from cC];rfl))
  .have b:n≠0:=fun r=>by grind
   exact zj (zu (e:=by grind))
 simp
theorem zk9 [ba G] {b:Bool} {l:G7} [i:IsNat l n] [m:Sz l k] (d:k+20000<=cap:=by decide):G0 G 69 [zl [zp b,zD l]] (strS (fo b n)):=by
  have j:=m.h;have f:n<4294967296^l.length:=by rw [<-i.val];exact wz i.lim
  have o:Lib.nDigits n<=20000000000000:=by
    have h1:=VU f;have g:=qV n;obtain⟨q,hq⟩:∃ q,q=9*(JH n).length:=⟨_,Z⟩;rw [<-hq] at g
    cases q with
    | zero => have : n = 0 := by simpa using g
              rw [this,Lib.nDigits_small J];decide
    | succ q=>have:=xn g;unfold cap at d;omega
  refine zs func69 ?_;refine Fh ?_;refine zf (oO d) ?_;refine zz ?_;apply zx;(iterate 2 refine zz ?_);refine ae.oneB (Xm Z Z) Z Z Z (fun a=>?_) (fun a=>?_)
  . refine zg ?_;refine Ft ?_
    exact zj (zu (e:=by unfold fo;grind))
  . refine zg ?_;refine Fi (xL Z Z Z Z) ?_;refine xK (fun c=>?_) fun c=>?_
    . refine zg ?_
      exact zj (zu (e:=by unfold fo;rw [MY (by simp [lf.1 (MU.1 c)])]))
    . refine zg ?_;refine zf (oO d) ?_;refine Fi (vD Z Z Z (by rw [WF];simp;omega)) ?_
      exact zj (zu (e:=by unfold fo;rw [MX (by have h1:¬ dec n=[48]:=MT.1 c;rw [lf] at h1;grind)];rfl))
def zc5:G0 G 353 [strS l] (yR [zD (dig (Kz l)),MK (fe l)]):=by
 refine zs func353 ?_;refine zr<|Fi ((yt Z Z).sub Zz) ?_;refine wO<|zi<|zr<|zz ?_;refine FG (xL Z Z Z Z) ?_ ?_<;>intro f
 .have b:=Zj (l:=l) (by rw [MU.1 f];rfl);refine xt Z Z<|zr<|Fi ((yt Z Z).sub Zz) ?_;exact zj (zu (e:=by grind))
 .have p:¬ l=[]:=MT.1 f;refine Fi (wS Z Z) ?_;refine zd ?_ ?_<;>intro _ m
  .have b:=Zj (l:=l) (by unfold QX;grind);refine zr<|Fi ((yt Z Z).sub Zz) ?_;exact zj (zu (e:=by grind))
  .refine zB<|zi<|wN<|zi<|zkk Z Z Z Z Z Z Z Z Z fun r=>zN<|xi (fun k=>⟨_,[(14,G9 r),(3,MK 0),(2,zD (dig (Xo (l.take k)))),(0,strS l)],[],[],(k,false)⟩) (fun k=>k<=l.length/\(l.take k).all isD=true) (fun k=>l.length-k) 0 ⟨BL _,Z⟩ MM ?_;rintro k ⟨D,c⟩;refine zr<|eN Z Z Z Z Z Z (fun a z w s o=>?_) (fun a=>?_)
   .refine Fh ?_;refine xt Z Z<|zg ?_;refine zi<|zr<|zz ?_;refine FE ?_ ?_<;>intro _ g
    .have b:=Zj (lg a (zmR o (.inl C)));refine Ft ?_;refine xt Z Z<|zr<|zz ?_;refine Fi ((yt Z Z).sub Zz) ?_;exact zj (zu (e:=by grind))
    .refine FP ?_ ?_<;>intro _ j
     .have b:=Zj (lg a (zmR o (.inr C)));refine xt Z Z<|zr<|zz ?_;refine Fi ((yt Z Z).sub Zz) ?_;exact zj (zu (e:=by grind))
     .obtain⟨_,n,rfl⟩:z<128/\l[k].toNat=z/\w=1:=by omega
      have q:=Ah (kH c) (Cm J (Gz:(l.take k).length<=59));obtain⟨v,t⟩:∃ v,v=Xo (l.take k):=⟨_,Z⟩;have i:=qW a;rw [<-t] at q i ⊢
      have A:Bd v 7:=UW C;have y:Bd (v*10) 7:=UW C;have u:Bd (z-48) 1:=⟨C⟩;refine zg ?_;refine Fl Z Z (zrQ (d:=10) J) ?_;refine Fi (yK (z:=((z-48:Nat):Int)) Z Z Z (MW some C) (zrN C C)) ?_;refine zA ?_;refine Fl Z Z (Ki C) ?_;refine Fl Z Z (Vi J) ?_;exact⟨k+1,⟨C,zio a c C C⟩,C,Z,aa Z (aa Z (xm Z (MW (fun x=>zD (dig x)) (by rw [i,n])) zk)),wq _,Z,Z⟩
   .obtain rfl:k=l.length:=C;rw [B3] at c ⊢
    have b:=mR (zrP p C c);refine Fh ?_;refine Fu ?_;refine Fu ?_;exact zj (zu (e:=by grind))
def zee:G0 G 351 [strS l] (yR [zl [zp (Lib.hasPrefix l [45]&&decide (0<Kz (Lib.trimPrefix l [45]))),zD (dig (Kz (Lib.trimPrefix l [45])))],MK (fe (Lib.trimPrefix l [45]))]):=by
 refine Fq func351 ?_;refine Fm fun b2=>?_;refine Fk zcw ?_;refine Fk zc5 ?_;refine zd ?_ ?_<;>intro _ b
 .have d:=Zj (JR b);refine zr<|Fi ((yQ Z Z Z).sub zk7) ?_;exact zj (zu (e:=by rw [d.2,d.1,(B:(Lib.hasPrefix l [45]&&decide (0<0))=false)];rfl))
 .refine zB<|zr<|FJ ?_ ?_<;>intro a
  .refine zz ?_;(iterate 3 refine zz ?_);refine Fi ((zZ Z Z Z Z).sub (yz (c:=decide (0<Kz (Lib.trimPrefix l [45]))) (decide_eq_decide.2 (by have:=yH (n:=Kz (Lib.trimPrefix l [45]));omega)))) ?_;exact zj (zu (e:=by rw [a,b];rfl))
  .refine zg ?_;exact zj (zu (e:=by rw [a,b];rfl))
end Go.Proofs
namespace Num
open Go Go.Lib
variable {l:G6} {hp:Bool} {m k:Nat}
def zmS (k m:Nat) (h:k<9):pd (k+1) m=dg (m%1000000000) k::pd k m:=by
 rw [Ao,Kw,(FV:(1000000000:Nat)=10^9),zre h];show [dg (m/10^k) 0]++pd k m=_;rw [<-zrd];rfl
def zeX {n:Nat} {s:G6} (c:decDigits n=decDigits m++s) (o:m≠0) (q:k<=9) (hq:m/1000000000≠0\/k<=nDigits m) (l:k=9\/(m%1000000000/10^k=0/\m/1000000000=0)):
 m/1000000000=0/\pd k m++s=decDigits n\/m/1000000000≠0/\decDigits n=decDigits (m/1000000000)++(pd k m++s):=by
 by_cases h:m/1000000000=0
 .refine .inl ⟨h,?_⟩;have i:m<10^9:=by have:(10^9:Nat)=1000000000:=rfl;omega
  have b:m<10^k:=by
   rcases l with rfl | ⟨h1,_⟩
   .exact i
   .rw [CZ i] at h1
    simp_all
  have p:k≠0:=fun e=>by grind
  obtain⟨j,rfl⟩:∃ j,k=j+1:=⟨k-1,by omega⟩
  have h1:=xn b;have d:=hq.resolve_left fun g=>g h;rw [jd h1,(C:j+1-nDigits m=0),c];rfl
 .have f:=l.resolve_right fun g=>h g.2;refine .inr ⟨h,?_⟩;have h1:=zkp (n:=m%1000000000) (k:=9) h (Be _ J);rw [(C:m/1000000000*10^9+m%1000000000=m),(FV:(1000000000:Nat)=10^9),mL] at h1
  grind
def zgd (h:m%1000000000/10^k≠0):k+1<=nDigits m:=by
 refine M4 fun h1=>h ?_;have b:=lt_pow_nDigits m;have a:m<10^k:=Ah b (Cm J C);exact CT (Cs (Nat.mod_le _ _) a)
theorem zeY (l:G6):(∃r,l=45::r/\hasPrefix l [45]=true/\trimPrefix l [45]=r)\/(l[0]? ≠some 45/\hasPrefix l [45]=false/\trimPrefix l [45]=l):=by
  cases l with
  | nil=>exact .inr ⟨B,J,J⟩
  | cons c r=>
    by_cases h:c=45
    . subst h
      have:hasPrefix (45::r) [45]=true:=by simp [hasPrefix,List.isPrefixOf]
      exact .inl ⟨r,Z,this,by rfl⟩
    . have:hasPrefix (c::r) [45]=false:=by simp [hasPrefix,List.isPrefixOf];exact fun e=>h e.symm
      exact .inr ⟨by grind,this,by unfold trimPrefix;grind⟩
theorem zge (e:hp=hasPrefix l [45]) (h:0<l.length):(((l.getD 0 0).toNat:Int)==45)=hp:=by
  subst e;cases l with
  | nil=>rfl
  | cons c r=>
    by_cases h:c=45
    . subst h;rfl
    . have a:¬ c.toNat=45:=fun e=>h (UInt8.toNat_inj.1 e)
      have:hasPrefix (c::r) [45]=false:=by simp [hasPrefix,List.isPrefixOf];exact fun e=>h e.symm
      grind
def zmT (e:hp=hasPrefix l [45]) (h:¬ 0<l.length):false=hp:=by
 rw [e,List.length_eq_zero_iff.1 (C:l.length=0)];rfl
end Num
namespace Go.Proofs
open Go Go.Sv Num Tryz
variable {G:Imm}
variable {n k:Nat} {l:G6} {m:G7}
def grN (ls:List (G7)):Prop:=12<ls.length\/∃ l∈ls,12<l.length
def zvg {m:Nat} (h:m=n) (I:Imm) (v:Value) (a:(zD (dig m)).den I v):(zD (dig n)).den I v:=h▸a
def zw6 {x i:Nat} (I:Imm) (v:Value) (h:(zR 1 id [[ze .u8 ((48+x/10^i%10:Nat):Int)]]).den I v):(zR 1 u8S [Lib.dg x i]).den I v:=by
 refine ke ?_;have h1:x/10^i%10<10:=Be _ J;have a:(Lib.dg x i).toNat=48+x/10^i%10:=by unfold Lib.dg;exact Vm h1
 grind
def zir {s:G6} (h:k<s.length):s[k]? =some (s.getD k 0):=by simp [h]
def UX:G0 G 133 [strS l] (yR [zD (dig (Kz l)),MK (fe l)]):=by
 refine zs func133 ?_;refine zr<|Fi ((yt Z Z).sub Zz) ?_;refine zo (wS Z Z) ?_;refine FE ?_ ?_<;>intro _ f
 .have hb:=Zj (l:=l) (by rw [List.length_eq_zero_iff.1 (C:l.length=0)];rfl);exact LB
 .have r:¬ l=[]:=fun e=>by grind
  refine Fi (wS Z Z) ?_;refine zd ?_ ?_<;>intro _ q
  .exact Lr
  .refine zB<|zr<|Fi ((yt Z Z).sub Zz) ?_;refine Qj [0] (fun (k:Nat) z=>(5,ML k)::(4,zD (dig (Xo (l.take k))))::z) (fun k=>[]) (fun k=>k<=l.length/\(l.take k).all isD=true) (fun k=>l.length-k) 0 ⟨BL _,Z⟩ ?_;rintro k ⟨L,a⟩;refine Fh ?_;refine Fi (wS Z Z) ?_;refine FP ?_ ?_<;>intro _ p
   .have g:k<l.length:=by omega
    have i:l[k]? =some l[k]:=AL g;refine zo (Zi Z Z Z (by omega) i) ?_;refine FE ?_ ?_<;>intro _ m
    .have hb:=Zj (lg g (by simp only [isD,D7,decide_eq_false_iff_not];omega));exact LB
    .refine Fi (Zi Z Z Z (by omega) i) ?_;refine zd ?_ ?_<;>intro _ o
     .have hb:=Zj (lg g (by simp only [isD,D7,decide_eq_false_iff_not];omega));exact zr<|Ht
     .have s:=Ah (kH a) (Cm (by decide) (Gz:(l.take k).length<=59));obtain⟨v,y⟩:∃ v,v=Xo (l.take k):=⟨_,Z⟩;have j:=qW g;have t:=zio g a (by omega) (by omega);obtain⟨c,A⟩:∃ c,c=l[k].toNat:=⟨_,Z⟩;rw [<-y] at s j ⊢
      rw [<-A] at j
      have w:Bd v 7:=UW (by omega);have K:Bd (v*10) 7:=UW (by omega);have H:Bd (c-48) 1:=⟨by omega⟩
      have F:=YI (d:=c-48) (by omega);have E:=YI (d:=10) (by decide);refine zB<|wW 13 V<|Fh ?_;refine Fl Z Z ((Vk (by have:=zT (k:=7) w.h;unfold cap;simp;omega)).args ⟨fun _ _ h=>h,fun I v h=>JQ (l:=[10]) I v h,trivial⟩) ?_;refine Fi (Zi Z Z Z (by omega) i) ?_;refine Fi (yK (z:=((c-48:Nat):Int)) Z Z Z (MW some (by omega)) (by simp [IntKind.wrap,IntKind.bits,IntKind.signed];omega)) ?_;refine Fi (yO Z Z (vt (by omega) (by omega))) ?_;refine Fl Z Z ((xV (l:=[c-48]) (J:1<=cap)).args ⟨fun I v h=>JQ I v h,trivial⟩) ?_;refine Fl Z Z (XY J) ?_;refine Do (k+1) ?_
      exact⟨k+1,⟨by omega,t⟩,by omega,aA (aa Z (xm Z (MW (fun x=>zD (dig x)) j.symm) zk))⟩
   .obtain rfl:k=l.length:=by omega
    rw [B3] at a ⊢
    have hb:=mR (zrP r (by omega) a);refine Fh ?_;exact zj (zu (e:=by grind))
def zc6 (i:l.length<=100000):G0 G 132 [strS l] (yR [zl [zp (Lib.hasPrefix l [45]&&decide (0<Kz (Lib.trimPrefix l [45]))),zD (dig (Kz (Lib.trimPrefix l [45])))],MK (fe (Lib.trimPrefix l [45]))]):=by
 obtain⟨hp,d⟩:∃ hp,hp=Lib.hasPrefix l [45]:=⟨_,Z⟩;obtain⟨tl,g⟩:∃ tl,tl=Lib.trimPrefix l [45]:=⟨_,Z⟩;have b:=zeY l;rw [<-d,<-g] at b ⊢
 refine Fq func132 ?_;refine Fm fun b2=>?_;refine zo (wS Z Z) ?_;refine FI ?_ ?_<;>intro _ f
 .refine zg ?_;refine zo (Zi Z Z Z C (c:=l.getD 0 0) (zir C)) ?_;refine zz ?_;refine zo ((xl Z Z Z).sub (yz (by first | exact zge d C | exact zmT d C))) ?_;refine zg ?_;refine yL (K:=fun S1=>aC S1 (⟨35,[(4,zp hp),(2,G9 b2),(0,strS tl)],[⟨some b2,44,[eqS (.bool false),G8],0⟩],[],(0,false)⟩)) ?_ ?_
  .refine zg ?_;refine Fp ?_ ?_<;>intro a
   .have hdrop:l.drop 1=tl:=by rcases b with ⟨r,h1,h2,h3⟩ | ⟨h1,h2,h3⟩;rw [h1,h3];rfl;rw [a] at h2;cases h2
    have h:1<=l.length:=by rcases b with ⟨r,h1,h2,h3⟩ | ⟨h1,h2,h3⟩;rw [h1];simp;rw [a] at h2;cases h2
    exact Il
   .obtain rfl:l=tl:=by grind
    exact MM
  .intro S1 e;refine xq e<|zg ?_;refine Fk UX ?_;refine zd ?_ ?_<;>intro _ k24
   .exact Lz
   .refine zB<|zr<|FJ ?_ ?_<;>intro h7x0
    .exact Lp
    .refine zg ?_;exact Hn
 .refine zz ?_;(iterate 3 refine zq ?_);refine zo ((xl Z Z Z).sub (yz (c:=hp) (by grind))) ?_;refine zg ?_;refine yL (K:=fun S1=>aC S1 (⟨35,[(4,zp hp),(2,G9 b2),(0,strS tl)],[⟨some b2,44,[eqS (.bool false),G8],0⟩],[],(0,false)⟩)) ?_ ?_
  .refine zg ?_;refine Fp ?_ ?_<;>intro a
   .have hdrop:l.drop 1=tl:=by rcases b with ⟨r,h1,h2,h3⟩ | ⟨h1,h2,h3⟩;rw [h1,h3];rfl;rw [a] at h2;cases h2
    grind
   .obtain rfl:l=tl:=by grind
    exact MM
  .intro S1 e;refine xq e<|zg ?_;refine Fk UX ?_;refine zd ?_ ?_<;>intro _ k24
   .exact Lz
   .refine zB<|zr<|FJ ?_ ?_<;>intro h7x0
    .exact Lp
    .refine zg ?_;exact Hn
theorem zc7 {l:G7} [hn:IsNat l n] [hk:Sz l k] (hl:k<=1000):G0 G 95 [zD l] (strS (dec n)):=by
  have a6:=hk.h;have P:n<4294967296^l.length:=by rw [<-hn.val];exact wz hn.lim
  have Y:(dec n).length<=20000:=by
    rw [WF];have h1:=VU P;have h2:=qV n;obtain⟨q,hq⟩:∃ q,q=9*(JH n).length:=⟨_,Z⟩;rw [<-hq] at h2
    cases q with
    | zero => have : n = 0 := by simpa using h2
              rw [this,Lib.nDigits_small (by decide)];decide
    | succ q=>have:=xn h2;omega
  refine zs func95 ?_;refine zg ?_;refine Fi (zb Z Z (xV GH)) ?_;refine xK (fun F=>?_) fun F=>?_
  . have W:=MU.1 F
    have t:n=0:=by have:=yH (n:=n);omega
    refine zg ?_;exact zj (zu (e:=by rw [t,show dec 0=[48] from cC];rfl))
  . have W:=MT.1 F
    have t:n≠0:=fun h=>by have:=yH (n:=n);omega
    refine zB<|zr<|Fh ?_;refine Xt [] (fun m s z=>(3,strS s)::(0,zD (dig m))::z) (fun m s=>[]) (fun m s=>m<4294967296^l.length/\(m=0/\s=dec n\/m≠0/\dec n=dec m++s)) (fun m _=>m) n [] ⟨P,.inr ⟨t,(BV _).symm⟩⟩ ?_;rintro m s ⟨hm,hs⟩;have a4:=zT hm;refine zi<|zg ?_;refine xK (fun E=>?_) fun E=>?_
    . have U:=MO E
      have f:m≠0:=fun h=>by have:=yH (n:=m);omega
      have w:=(hs.resolve_left fun h=>f h.1).2;have a2:s.length<=20000:=by rw [w,Aw] at Y;omega
      have hr:=Be m (J:0<1000000000);have M:m/1000000000<m:=Cg C (by decide)
      have i5:=YI (d:=1000000000) (by decide)
      refine zg ?_;refine Fh ?_;refine zo (zb Z Z ((qQ GH (by unfold cap;simp)).args ⟨fun _ _ h=>h,fun I v h=>JQ (l:=[1000000000]) I v h,trivial⟩)) ?_;(iterate 2 refine zz ?_);refine zo ((xp Z Z Z).sub (zvg (MY (by decide)))) ?_;refine zg ?_;refine yL (K:=fun S1=>aC S1 (⟨55,[(7,ze .u32 (m%1000000000:Nat)),(4,zD (dig (m/1000000000))),(3,strS s)],[],[],(0,false)⟩)) ?_ ?_
      . refine zg ?_;refine xK (fun D=>?_) fun D=>?_
        . have S:=MO D
          have r:m%1000000000≠0:=fun h=>by have:=yH (n:=m%1000000000);omega
          refine zg ?_;refine zo (zh Z Z Z C (by rw [Xy r,CZ C];rfl)) ?_;refine zg ?_
          exact MM
        . have S:=MP D
          have r:m%1000000000=0:=by have:=yH (n:=m%1000000000);omega
          exact zB<|aA (xm Z (by grind) zk)
      . intro S1 a1
        refine xq a1<|Fh ?_;refine xi (fun k=>⟨_,[(8,ML k),(7,ze .u32 (m%1000000000/10^k:Nat)),(4,zD (dig (m/1000000000))),(3,strS (pd k m++s))],[],[],(0,false)⟩) (fun k=>k<=9/\(m/1000000000≠0\/k<=Lib.nDigits m)) (fun k=>9-k) 0 ⟨BL _,.inr (BL _)⟩ (aA (aa Z (xm Z (by rw [CG,CP]) (aa Z (aa Z trivial))))) ?_
        rintro k ⟨O,N⟩;have L:=qU k m;have a0:=Cu (m%1000000000) (10^k);have a3:=yH (n:=m/1000000000);obtain⟨u,Q⟩:∃ u,u=m%1000000000/10^k:=⟨_,Z⟩;rw [<-Q] at a0 ⊢
        have H:u/10=m%1000000000/10^(k+1):=by rw [Q,CQ,Ch]
        refine zi<|zr<|zz ?_;refine ae.oneB (zZ Z Z Z Z) Z Z Z (fun c=>?_) (fun c=>?_)
        . have o:=MO c
          iterate 2 refine zz ?_
          refine ae.oneB (zZ Z Z Z Z) (gB Z Z Z Z) Z Z (fun a=>?_) (fun a=>?_)
          . have j:=MO a
            have g:m/1000000000≠0\/k+1<=Lib.nDigits m:=.inr (zgd C);refine zg ?_;refine Ft ?_;refine zo (wt Z Z Z C C) ?_;refine zo (yK (z:=((48+u%10:Nat):Int)) Z Z Z (MW some C) (vt C C)) ?_;refine Fi (yO (z:=((48+m%1000000000/10^k%10:Nat):Int)) Z Z (by rw [<-Q];simp [IntKind.wrap,IntKind.bits,IntKind.signed];omega)) ?_;refine zo (zeC Z Z zw6) ?_;refine zz ?_;refine zo ((vD Z Z Z (by grind)).sub (WS (m:=pd (k+1) m++s) (by rw [zmS k m C];rfl))) ?_;refine zg ?_;refine Fi (vl Z Z Z C C (vt C C)) ?_;refine Do (k+1) ?_
            exact⟨k+1,⟨C,g⟩,C,aA (aa Z (xm Z (by grind) zk))⟩
          . have j:=MP a
            refine zg ?_;refine xK (fun A=>?_) fun A=>?_
            . have R:=MO A
              have g:m/1000000000≠0\/k+1<=Lib.nDigits m:=by first | exact g | omega
              refine zB<|zi<|zg ?_;refine zo (wt Z Z Z C C) ?_;refine zo (yK (z:=((48+u%10:Nat):Int)) Z Z Z (MW some C) (vt C C)) ?_;refine Fi (yO (z:=((48+m%1000000000/10^k%10:Nat):Int)) Z Z (by rw [<-Q];simp [IntKind.wrap,IntKind.bits,IntKind.signed];omega)) ?_;refine zo (zeC Z Z zw6) ?_;refine zz ?_;refine zo ((vD Z Z Z (by grind)).sub (WS (m:=pd (k+1) m++s) (by rw [zmS k m C];rfl))) ?_;refine zg ?_;refine Fi (vl Z Z Z C C (vt C C)) ?_;refine Do (k+1) ?_
              exact⟨k+1,⟨C,g⟩,C,aA (aa Z (xm Z (by grind) zk))⟩
            . have R:=MP A
              have p:=zeX w f O N (.inr ⟨C,C⟩);refine zK<|zg ?_;exact⟨m/1000000000,pd k m++s,⟨C,p⟩,M,MM⟩
        . have o:=MP c
          have p:=zeX w f O N (.inl C);refine zg ?_;refine Fu ?_;exact⟨m/1000000000,pd k m++s,⟨C,p⟩,M,MM⟩
    . have U:=MP E
      have f:m=0:=by have:=yH (n:=m);omega
      have X:=(hs.resolve_right fun h=>h.1 f).2;refine zK<|zg ?_;exact zj (zu (e:=by rw [X]))
theorem zis {b:Bool} {l:G7} [i:IsNat l n] [o:Sz l k] (j:k<=1000):G0 G 92 [zl [zp b,zD l]] (strS (fo b n)):=by
  have m:=o.h;have d:n<4294967296^l.length:=by rw [<-i.val];exact wz i.lim
  have p:(dec n).length<=20000:=by
    rw [WF];have h1:=VU d;have g:=qV n;obtain⟨q,hq⟩:∃ q,q=9*(JH n).length:=⟨_,Z⟩;rw [<-hq] at g
    cases q with
    | zero => have : n = 0 := by simpa using g
              rw [this,Lib.nDigits_small J];decide
    | succ q=>have:=xn g;omega
  refine zs func92 ?_;refine zg ?_;refine zf (zc7 j) ?_;refine zg ?_;refine zi<|zr<|zz ?_;refine ae.oneB (xP Z Z) Z Z Z (fun a=>?_) (fun a=>?_)
  . have f:b=true:=by simpa using a
    refine zg ?_;refine Fi (xL Z Z Z Z) ?_;refine xK (fun c=>?_) fun c=>?_
    . have h1:¬ dec n=[48]:=by first | grind | simpa using c
      refine zg ?_;refine Fi (vD Z Z Z GV) ?_;exact zj (zu (e:=by unfold fo;rw [MX (by rw [lf] at h1;grind)];rfl))
    . have h1:dec n=[48]:=by first | grind
      refine zg ?_;exact zj (zu (e:=by unfold fo;rw [MY (by rw [lf] at h1;grind)]))
  . have f:b=false:=by simpa using a
    refine zg ?_;refine Fu ?_;exact zj (zu (e:=by unfold fo;grind))
end Go.Proofs
namespace Num
open Go Go.Lib
variable {k:Nat} {s:G6} {ws:G1} {c:UInt8}
def WG (ws:G1):Bool:=ws.all fun w=> !w.isEmpty
def zit {w:G6} (h:ws[k]? =some w) (hf:WG (ws.take k)=true) (a:w≠[]):WG (ws.take (k+1))=true:=by
 unfold WG at hf ⊢
 rw [Cz,h,Dl,hf];grind
def zmU (h:ws[k]? =some []):WG ws=false:=List.all_eq_false.2 ⟨[],AE h,J⟩
def zrR {f i:Nat} (hf:f<=i) (hi:i<s.length) (d:∀ j,f<=j->j<i->s[j]? ≠some c) (h:s[i]? =some c):wA c (s.drop f)=(s.take i).drop f::wA c (s.drop (i+1)):=by
 have h1:s.drop f=(s.take i).drop f++c::s.drop (i+1):=by
  rw [<-BB i s,List.drop_append_of_le_length (by grind),List.take_append_of_le_length (by grind),BF,Nat.min_self];congr 1;rw [AO hi];rw [AL hi] at h
  rw [BA h,List.drop_append,List.drop_of_length_le (Gz:(s.take i).length<=i+1),BG,(C:i+1-min i s.length=1)];rfl
 rw [h1];refine KC _ fun x hx=>?_;obtain⟨j,a⟩:=Dr hx;grind
def zvh {f:Nat} (b:∀ j,f<=j->j<s.length->s[j]? ≠some c):wA c (s.drop f)=[s.drop f]:=by
 refine UN fun x hx=>?_;obtain⟨j,a⟩:=Dr hx;grind
def XG (c:UInt8) (s:G6):(wA c s).length<=s.length+1:=by
 induction s with
 | nil=>simp [wA]
 | cons x r ih=>
  unfold wA;grind
def zpg (c:UInt8) (r:G6):∃ p r2 m,cut r [c]=(p,r2,m)/\(m=false/\wA c r=[p]\/m=true/\wA c r=p::wA c r2/\r2.length<r.length):=by
 rcases qX c r with h | ⟨p,q,rfl,h⟩
 .exact⟨_,_,_,bA h,.inl ⟨Z,UN h⟩⟩
 .exact⟨_,_,_,nB q h,.inr ⟨Z,KC q h,by grind⟩⟩
theorem tA {c:G6} {g:Nat} {w:G6} (h:ws[g]? =some w):join (ws.take (g+1)) c=if g=0 then w else (join (ws.take g) c++c)++w:=by
  have f:g<ws.length:=(EC.1 h).1;rw [Cz,h]
  by_cases d:g=0
  . rw [MX d,d];simp [join]
  . rw [MY d]
    have b:(ws.take g).length=g:=by rw [BG];omega
    have a:ws.take g≠[]:=fun e=>d (by rw [<-b,e];rfl)
    clear b
    unfold join
    generalize ws.take g=v at a
    induction v with
    | nil=>exact M1 Z a
    | cons x v ih=>
      cases v with
      | nil=>simp [Dx]
      | cons y v=>
        have:=ih B;simp only [B1] at this ⊢;rw [Dx,Dx,this];simp
def x9 {c:G6} (ws:G1) (g:Nat):(join (ws.take g) c).length<=(join ws c).length:=by
 induction ws generalizing g with
 | nil=>simp
 | cons x v ih=>
  cases g with
  | zero=>simp [join]
  | succ g=>
   rw [B8];have h1:=ih g;unfold join at h1 ⊢
   cases v with
   | nil=>simp
   | cons y v=>
    cases g with
    | zero=>simp [Dx]
    | succ g=>
     rw [B8] at h1 ⊢
     rw [Dx,Dx,Aw,Aw,Aw,Aw];omega
def JS (h:WG ws=true):(ws.takeWhile fun w=> !w.isEmpty)=ws:=by
 induction ws with
 | nil=>rfl
 | cons w ws ih=>
  have h1:(!w.isEmpty)=true/\WG ws=true:=by unfold WG at h ⊢;rw [Du,AD] at h;exact h
  simp_all
def zx7 (h:ws[k]? =some []) (hf:WG (ws.take k)=true):(ws.takeWhile fun w=> !w.isEmpty)=ws.take k:=by
 obtain⟨b,c⟩:=EC.1 h;have h1:ws=ws.take k++[]::ws.drop (k+1):=by
  rw [<-c,<-AO b,BB]
 have d:=JS hf;generalize ws.take k=v at h1 d hf
 rw [h1,List.takeWhile_append_of_pos fun w a=>B9.1 hf w a];simp
def zx8 (ws:G1):(ws.takeWhile fun w=> !w.isEmpty).length<=ws.length:=(List.takeWhile_sublist _).length_le
def ig (s:G6) (c:UInt8):(trimSuffix s [c]).length<=s.length:=by
 unfold trimSuffix;grind
def wr (s:G6):Bool:=hasSuffix s [10]&&WG (wA 10 (trimSuffix s [10]))
def KR (s:G6) (c:UInt8):(∃r,s=r++[c]/\hasSuffix s [c]=true/\trimSuffix s [c]=r)\/(hasSuffix s [c]=false/\trimSuffix s [c]=s/\s.getLast? ≠some c):=by
 rcases zaY s with rfl | ⟨r,d,rfl⟩
 .exact .inr ⟨Z,Z,B⟩
 .by_cases h:d=c
  .subst h;have:hasSuffix (r++[d]) [d]=true:=by simp [hasSuffix]
   exact .inl ⟨r,Z,this,by unfold trimSuffix;simp_all⟩
  .have:hasSuffix (r++[d]) [c]=false:=by
    simp only [hasSuffix,<-Bool.not_eq_true,List.isSuffixOf_iff_suffix];rintro⟨t,ht⟩;have:=List.append_inj_right' ht Z;exact h (by grind)
   exact .inr ⟨this,by unfold trimSuffix;grind,by grind⟩
def zla (b:s≠[]):((wA 10 s).getLast? =some []/\WG (wA 10 s).dropLast=true↔wr s=true)/\(wr s=true->(wA 10 s).dropLast=wA 10 (trimSuffix s [10])):=by
 unfold wr;rcases KR s 10 with ⟨r,rfl,h1,a⟩ | ⟨h1,a,e⟩
 .rw [h1,a,zrm];simp
 .rw [h1,a];rcases zaY s with rfl | ⟨r,d,rfl⟩
  .grind
  .have c:d≠10:=by simpa using e
   have:=zrn c r;grind
end Num
namespace Go.Proofs
open Go Go.Sv Num Tryz
variable {G:Imm}
variable {s:G6} {c:UInt8} {ws:G1} {a:List SV} {b:Nat}
def zx9 (h:a∈ws.map tC):a.length=1:=by
 grind
def zya {k:Nat} (h:(ws.map tC)[k]? =some a):∃ w,ws[k]? =some w/\a=[strS w]:=by
 grind
def UY {l:G1} (h:l=[]) (I:Imm) (v:Value) (a:(G8).den I v):(zR 1 tC l).den I v:=by rw [show v= .slice none 0 0 from a,h];exact UI
def oM (A:s.length<=4000000000000):G0 G 29 [strS s,ze .u8 (c.toNat:Nat)] (zR 1 tC (wA c s)):=by
 refine zs func29 ?_;refine Fh ?_;refine zH (yI 9 1)<|jm [1,0] (fun (i f:Nat) (out:G1) (q:G3) z=>(7,ML i)::(6,ML f)::(5,eqS (rowV q out.length))::z) (fun i f out q=>[rowE q 9 1 out.length (out.flatMap tC)]) (fun i f out q=>i<=s.length/\f<=i/\out.length<=i/\zX q out.length/\wA c s=out++wA c (s.drop f)/\∀ j,f<=j->j<i->s[j]? ≠some c) (fun i f out q=>s.length-i) 0 0 [] none ⟨BL _,Af _,Af _,Z,Z,fun j h1 w=>by omega⟩ ?_
 rintro i f out q ⟨hi,hf,y,hq,b,r⟩;refine Fh ?_;refine Fi (wS Z Z) ?_;refine Fo ?_ ?_<;>intro _ o
 .have k:i<s.length:=by omega
  have t:s[i]? =some s[i]:=AL k;refine Fi (Zi Z Z Z (by omega) t) ?_;refine Fo ?_ ?_<;>intro _ a
  .have v:s[i]? =some c:=by rw [t];exact MW some (UInt8.toNat_inj.1 (by omega))
   have p:=zrR hf k r v;refine Fi (XC Z Z (.inr ⟨_,_,Z,Z⟩) (.inr ⟨_,_,Z,Z⟩) hf hi) ?_;refine Fx 0 Z Z Z Z hq (by rw [ji,Cr]) fun n g=>?_;refine Do (i+1) ?_;refine Do (i+1) ?_
   exact⟨i+1,i+1,out++[(s.take i).drop f],n,⟨by omega,Af _,by grind,by grind,by grind,fun j h1 w=>by omega⟩,by omega,an (aa Z (aa Z (xm Z (by simp) zk))) (by rw [Aw,CB];rfl)⟩
  .have v:s[i]? ≠some c:=fun e=>by grind
   refine Do (i+1) ?_;exact⟨i+1,f,out,q,⟨by omega,by omega,by omega,hq,b,fun j h1 w=>by grind⟩,by omega,MM⟩
 .obtain rfl:i=s.length:=by omega
  have u:=zvh r;refine Fi ((XC Z Z (.inr ⟨_,_,Z,Z⟩) (.inl ⟨Z,Z⟩) hf (Af _)).sub (WS (by rw [B3]))) ?_;refine FL 0 Z Z Z Z hq (by rw [ji,Cr]) fun x d=>?_;refine ae.ghost _ Z (yF 0 33 Z Z d (l:=out++[s.drop f]) B Gv GX GF)<|ae.ghost _ Z (zF (BZ _))<|zg ?_
  exact zj (zu (e:=by rw [b,u]))
def zc8:G0 G 30 [zR 1 tC ws] (zp (WG ws)):=by
 refine zs func30 ?_;refine uM 0 Z fun h=>?_;unfold yE at h
 refine Fh ?_;refine Qj [0] (fun (g:Nat) z=>(3,MK g)::z) (fun g=>[]) (fun g=>g<=ws.length/\WG (ws.take g)=true) (fun g=>ws.length-g) 0 ⟨BL _,Z⟩ ?_;rintro g ⟨i,c⟩;refine Fh ?_;refine Fo ?_ ?_<;>intro _ f
 .obtain⟨w,d⟩:=FU ws g;refine Fh ?_;refine Fi (xL Z Z Z Z) ?_;refine Fp ?_ ?_<;>intro b
  .have a:w=[]:=by simpa using b
   rw [a] at d
   exact zj (zu (e:=by rw [zmU d]))
  .have a:w≠[]:=by simpa using b
   refine Do (g+1) ?_;exact⟨g+1,⟨C,zit d c a⟩,C,MM⟩
 .obtain rfl:g=ws.length:=C;rw [B3] at c
  exact zj (zu (e:=by rw [c]))
def za5 (b:s.length<=4000000000000):G0 G 12 [strS s] (yR [zR 1 tC (if WG (wA 32 s) then wA 32 s else []),MK (if WG (wA 32 s) then 0 else 110)]):=by
 refine Fq func12 ?_;refine Fk (oM (c:=32) b) ?_;refine Fk zc8 ?_;refine FT ?_ ?_<;>intro a
 .have hf:WG (wA 32 s)=false:=by simpa using a
  refine zr<|Fi ((yt Z Z).sub (UY (l:=if WG (wA 32 s) then wA 32 s else []) (by grind))) ?_
  exact zj (zu (e:=by grind))
 .have hf:WG (wA 32 s)=true:=by simpa using a
  exact zj (zu (e:=by grind))
def za6 (t:s.length<=4000000000000):G0 G 9 [strS s] (yR [zR 1 tC (if wr s then wA 10 (Lib.trimSuffix s [10]) else []),MK (if s=[]\/wr s=true then 0 else 110)]):=by
 refine Fq func9 ?_;refine Fi (xL Z Z Z Z) ?_;refine FT ?_ ?_<;>intro q
 .have d:s=[]:=by simpa using q
  refine zr<|Fi ((yt Z Z).sub (UY (l:=if wr s then wA 10 (Lib.trimSuffix s [10]) else []) (by rw [d];rfl))) ?_
  exact zj (zu (e:=by grind))
 .have d:s≠[]:=by simpa using q
  refine zf (oM (c:=10) t) ?_;refine zz ?_;obtain⟨ls,n⟩:∃ ls,ls=wA 10 s:=⟨_,Z⟩;have j:=Yf 10 s;have p:=XG 10 s;obtain⟨a,g⟩:=zla d;rw [<-n,D8] at a g
  rw [<-n] at j p ⊢
  have u:=Er.2 j;have o:ls[ls.length-1]? =ls.getLast? :=(List.getLast?_eq_getElem?).symm;obtain⟨z,r⟩:∃ z,ls.getLast? =some z:=⟨_,List.getLast?_eq_some_getLast j⟩;rw [r] at o a
  refine Fh ?_;refine Do (ls.length-1) ?_;refine FG (xL Z Z Z Z) ?_ ?_<;>intro f
  .have h:z≠[]:=by simpa using f
   have b:wr s=false:=by cases e:wr s;rfl;exact M1 (BA (a.2 e).1) h
   refine xt Z Z<|zr<|Fi ((yt Z Z).sub (UY (l:=if wr s then wA 10 (Lib.trimSuffix s [10]) else []) (by grind))) ?_
   exact zj (zu (e:=by grind))
  .have h:z=[]:=by simpa using f
   refine Do (ls.length-1) ?_;refine Fi ((xU (m:=ls.length-1) Z Z (.inl ⟨Z,Z⟩) (.inr ⟨_,_,Z,Z⟩) (.inl Z) C C)) ?_;refine Fk (zc8 (ws:=ls.take (ls.length-1))) ?_;refine FT ?_ ?_<;>intro k
   .have b:wr s=false:=by cases e:wr s;rfl;exact M1 (a.2 e).2 (by grind)
    refine zr<|Fi ((yt Z Z).sub (UY (l:=if wr s then wA 10 (Lib.trimSuffix s [10]) else []) (by grind))) ?_
    exact zj (zu (e:=by grind))
   .have i:=a.1 ⟨by rw [h],by simpa using k⟩;have g:=g i;refine Do (ls.length-1) ?_;refine Fi ((xU (m:=ls.length-1) Z Z (.inl ⟨Z,Z⟩) (.inr ⟨_,_,Z,Z⟩) (.inl Z) C C)) ?_;exact zj (zu (e:=by grind))
def u7 (l:(Lib.join ws [32]).length<=140737488355328):G0 G 59 [zR 1 tC ws] (strS (Lib.join ws [32])):=by
 refine zs func59 ?_;refine uM 0 Z fun k=>?_;unfold yE at k
 refine Fh ?_;refine Qj [0] (fun (g:Nat) z=>(4,MK g)::(3,strS (Lib.join (ws.take g) [32]))::z) (fun g=>[]) (fun g=>g<=ws.length) (fun g=>ws.length-g) 0 (BL _) ?_;rintro g n;refine Fh ?_;refine Fo ?_ ?_<;>intro _ i
 .obtain⟨w,j⟩:=FU ws g;have d:=x9 (c:=[32]) ws (g+1);have a:=tA (c:=[32]) j;refine Fo ?_ ?_<;>intro _ h
  .have b:g≠0:=C;rw [MY b] at a
   refine Fi (vD Z Z Z (by rw [a,Aw,Aw] at d;simp at *;omega)) ?_;refine Fi ((vD Z Z Z (by rw [a,Aw,Aw] at d;simp at *;omega)).sub (WS a.symm)) ?_;refine Do (g+1) ?_;exact⟨g+1,C,C,MM⟩
  .have b:g=0:=C;rw [MX b] at a
   have f:Lib.join (ws.take g) [32]=[]:=by rw [b];rfl
   refine Fh ?_;refine Fi ((vD Z Z Z (by rw [a] at d;rw [f];simp;omega)).sub (WS (m:=Lib.join (ws.take (g+1)) [32]) (by rw [a,f];rfl))) ?_;refine Do (g+1) ?_;exact⟨g+1,C,C,MM⟩
 .obtain rfl:g=ws.length:=C;exact zj (zu (e:=by rw [B3]))
def zlb (a:(Lib.join ws [32]).length<=140737488355328):G0 G 44 [zR 1 tC ws] (strS (Lib.join ws [32])):=by
 refine Fq func44 ?_;refine Fk (zoQ a) ?_;exact zj zt
theorem zgf [aK G] {s:List UInt8} (hs:s.length<=1000000000):nM prog G 258 [eqS (.pointer (some ⟨b,0,none⟩)),yo [strS [c]]] ((wA c s).map tC) [⟨some b,9,[strS s],0⟩] (fun _ H'=>H'=[]):=by
  refine kN func258 Z Z Z Z fun l0 E hy _=>zN<|xz (fun k r=>⟨_,[(0,yieldS l0),(1,eqS (.pointer (some ⟨b,0,none⟩))),(2,yo [strS [c]])],[⟨some b,9,[strS r],0⟩],[],(k,false)⟩) (fun k r=>(wA c s).drop k=wA c r/\r.length<=s.length) (fun _ r=>r.length) 0 s ⟨List.drop_zero,Nat.le_refl _⟩ MM ?_
  rintro k r ⟨hdr,hrl⟩
  obtain⟨p,r2,m,hcut,hm⟩:=zpg c r
  have hcs:=zhY (G:=G) (l:=r) (m:=[c]) (by omega)
  rw [hcut] at hcs
  have hk:(wA c s)[k]? =some p:=by rw [<-List.head?_drop,hdr];rcases hm with ⟨_,h⟩ | ⟨_,h,_⟩ <;> rw [h] <;> rfl
  refine zg ?_;refine Fk hcs ?_;refine ae.yield rfl hy rfl rfl rfl (show ((wA c s).map tC)[k]? =some [strS p] by grind) (yU _) rfl rfl rfl fun y=>?_
  refine ae.oneB (Xm Z Z) Z Z Z (fun h1x3=>?_) (fun h1x3=>?_)
  . refine zg ?_;refine xt Z Z<|zj ?_
    exact⟨.inl rfl,[],List.nil_sublist _,rfl,.inr (by omega)⟩
  . refine zg ?_;refine xK (fun h21=>?_) fun h21=>?_
    . refine zj ?_
      exact ⟨.inl rfl, [], List.nil_sublist _, rfl, .inl (by have h1 := hm.resolve_right fun h => by grind
                                                             rw [h1.2] at hdr;have h2:=MW List.length hdr;grind)⟩
    . refine zg ?_
      have h1:=hm.resolve_left fun h=>by grind
      exact⟨k+1,r2,⟨by rw [<-List.drop_drop,hdr,h1.2.1];rfl,by omega⟩,h1.2.2,rfl,aa rfl (aa rfl (aa rfl (trivial))),wq _,rfl,by grind⟩
def za7:CallSpec prog G 166 [strS s,strS [c]] [] (fun v H'=>∃ b,v=wD 258 [G9 b,yo [strS [c]]]/\H'=[⟨some b,9,[strS s],0⟩]):=by
 refine zs func166 ?_;refine zr<|ae.box Z Z Z Z Z Z fun a=>zg ?_;exact zj ⟨_,[_],.one (.tmp Z),Dd _,a,Z,Z⟩
def zeZ [aK G] (F:s.length<=1000000000):CallSpec prog G 165 [wD 258 [G9 b,yo [strS [c]]]] [⟨some b,9,[strS s],0⟩] (fun v H'=>v=yR [zR 1 tC ((wA c s).takeWhile fun w=> !w.isEmpty),zp (WG (wA c s))]/\H'=[]):=by
 have H:=XG c s;refine Fq func165 ?_;refine Fm fun b2=>?_;refine yT fun t=>?_;refine zM<|wO<|zr<|zw ?_;refine zM<|zi<|wN<|yL (K:=fun S1=>∃ q D,zX q ((wA c s).takeWhile fun w=> !w.isEmpty).length/\aC S1 ⟨17,[(3,G9 t),(2,G9 b2)],[rowE q 9 1 ((wA c s).takeWhile fun w=> !w.isEmpty).length (((wA c s).takeWhile fun w=> !w.isEmpty).flatMap tC),⟨some t,4,[zp (WG (wA c s))],0⟩,⟨some b2,25,[eqS (rowV q ((wA c s).takeWhile fun w=> !w.isEmpty).length)],0⟩],D,(0,false)⟩) ?_ ?_
 .refine Fs (yI 9 1) ?_;refine zH (vO (List.perm_append_comm (l₁:=[_,_,_])))<|kg Z Z (zgf F) (fun E h=>zx9 h) J Z
   (fun k h i=>i=(0,false)/\∃ q,zX q k/\k<=(wA c s).length/\WG ((wA c s).take k)=true/\h=[rowE q 9 1 k (((wA c s).take k).flatMap tC),⟨some t,4,[zp true],0⟩,⟨some b2,25,[eqS (rowV q k)],0⟩])
   (fun e h i=>e= .exit 0/\i=(0,false)/\∃ q k,zX q k/\(wA c s)[k]? =some []/\WG ((wA c s).take k)=true/\h=[rowE q 9 1 k (((wA c s).take k).flatMap tC),⟨some t,4,[zp false],0⟩,⟨some b2,25,[eqS (rowV q k)],0⟩]) ⟨Z,none,Z,BL _,Z,Z⟩ ?_ ?_ ?_
  .rintro M k E h i y ⟨rfl,q,hq,I,a,rfl⟩;obtain⟨w,g,rfl⟩:=zya y;have A:=yJ g;refine Fh ?_;refine⟨Z,?_⟩;refine Fh ?_;refine Fi (xL Z Z Z Z) ?_;refine Fp ?_ ?_<;>intro m
   .have d:w=[]:=by simpa using m
    rw [d] at g
    exact⟨Z,Z,q,k,hq,g,a,by rw [d];rfl⟩
   .have d:w≠[]:=by simpa using m
    have x:(!w==[])=true:=by simpa using d
    refine Fx 0 Z Z Z Z hq (by rw [ji,BG];omega) fun u n=>?_
    exact⟨Z,u,n,C,zit g a d,by rw [Cz,g,CB,x];rfl⟩
  .rintro h H' i D ⟨rfl,q,hq,_,a,rfl⟩ rfl;rw [BR] at hq a ⊢
   rw [B3] at a ⊢
   have r:=JS a;rw [a];exact⟨q,_,by grind,by rw [r];exact an (aa Z (aa Z trivial)) Z⟩
  .rintro h H' i j D e c2 L ⟨rfl,rfl,q,k,hq,g,a,rfl⟩ rfl;have r:=zx7 g a;have p:=zmU g;have o:((wA c s).take k).length=k:=by rw [BG];have:=yJ g;omega
   show ∃q D,_;exact⟨q,_,by grind,by rw [r,o,p];exact an (aa Z (aa Z trivial)) Z⟩
 .rintro S1 ⟨q,D,hq,z⟩;refine xq z<|zH (uF [] [_] [] hq Z Z GX (by have:=zx8 (wA c s);unfold yE;omega))<|xv 4 [2,3] _ V (.cons_cons _ (.cons _ .slnil))<|FB ?_
  refine .loc1n 1 (xf Z Z Z Z Gg) Z Z Z ?_;rintro s1 H1 ⟨rfl,rfl⟩;refine⟨(.cons_cons _ (.cons _ .slnil)),?_⟩;refine FB ?_;refine .loc1n 0 (xf Z Z Z Z Gg) Z Z Z ?_;rintro s1 H1 ⟨rfl,rfl⟩;refine⟨(.cons_cons _ (.cons _ .slnil)),?_⟩;exact ab.nil<|zM<|zj zt
def zlc [aK G] (b:s.length<=1000000000):G0 G 167 [strS s] (yR [zR 1 tC (if WG (wA 32 s) then wA 32 s else []),MK (if WG (wA 32 s) then 0 else 110)]):=by
 refine Fq func167 ?_;refine aH Z Z Z za7 Z Z Z ?_;rintro s1 H1 ⟨d,rfl,rfl⟩;refine ah [] _ [] Z Z Z Z (zeZ b) Z Z Z ?_;rintro s2 H2 ⟨rfl,rfl⟩;refine zg ?_;refine FR ?_ ?_<;>intro a
 .have hf:WG (wA 32 s)=true:=by simpa using a
  exact zj (zu (e:=by rw [JS hf,MX hf,MX hf]))
 .have hf:WG (wA 32 s)=false:=by simpa using a
  refine zB<|zr<|Fi ((yt Z Z).sub (UY (l:=if WG (wA 32 s) then wA 32 s else []) (by grind))) ?_
  exact zj (zu (e:=by grind))
def zld [aK G] (k:s.length<=1000000000):G0 G 109 [strS s] (yR [zR 1 tC (if wr s then wA 10 (Lib.trimSuffix s [10]) else []),MK (if s=[]\/wr s=true then 0 else 110)]):=by
 refine Fq func109 ?_;refine Fi (xL Z Z Z Z) ?_;refine FT ?_ ?_<;>intro h
 .have d:s=[]:=by simpa using h
  refine zr<|Fi ((yt Z Z).sub (UY (l:=if wr s then wA 10 (Lib.trimSuffix s [10]) else []) (by rw [d];rfl))) ?_
  exact zj (zu (e:=by grind))
 .have d:s≠[]:=by simpa using h
  refine Fl Z Z (zcA C) ?_;have i:=ig s 10;refine aH Z Z Z za7 Z Z Z ?_;rintro s1 H1 ⟨j,rfl,rfl⟩;refine ah [] _ [] Z Z Z Z (zeZ C) Z Z Z ?_;rintro s2 H2 ⟨rfl,rfl⟩;(iterate 5 refine zz ?_);apply zx;refine FJ ?_ ?_<;>intro g
  .refine zz ?_;refine zz ?_;refine Fi ((xl Z Z Z).sub (yz (c:=wr s) (by unfold wr;grind))) ?_;refine FR ?_ ?_<;>intro f
   .have a:=f;have hf:WG (wA 10 (Lib.trimSuffix s [10]))=true:=by unfold wr at a;rw [AD] at a;exact a.2
    exact zj (zu (e:=by first | (rw [JS hf,MX a,MX (Or.inr a)]) | (rw [MY (show ¬(s=[]\/wr s=true) by rw [b];simp [d])])))
   .have b:=f;refine zB<|zr<|Fi ((yt Z Z).sub (UY (l:=if wr s then wA 10 (Lib.trimSuffix s [10]) else []) (by grind))) ?_
    exact zj (zu (e:=by grind))
  .refine zz ?_;refine zq ?_;refine Fi ((xl Z Z Z).sub (yz (c:=wr s) (by unfold wr;grind))) ?_;refine FR ?_ ?_<;>intro f
   .have a:=f;have hf:WG (wA 10 (Lib.trimSuffix s [10]))=true:=by unfold wr at a;rw [AD] at a;exact a.2
    grind
   .have b:=f;refine zB<|zr<|Fi ((yt Z Z).sub (UY (l:=if wr s then wA 10 (Lib.trimSuffix s [10]) else []) (by grind))) ?_
    exact zj (zu (e:=by grind))
end Go.Proofs
namespace Num
open Go Go.Lib
variable {a b:G6}
def xx (s:G6):Rat×Int×Int:=WT (cut s [47]).1 (cut s [47]).2.1 (cut s [47]).2.2
def oL {m:Bool} (h:QX (trimPrefix a [45])=false):WT a b m=(0,0,60):=by unfold WT;grind
def oK (h:QX b=false):WT a b true=(0,0,60):=by
 unfold WT;grind
def ziu (h:QX (trimPrefix a [45])=true):WT a b false=(mkRat (zn (hasPrefix a [45]) (Kz (trimPrefix a [45]))) 1,(((trimPrefix a [45]).length:Nat):Int),0):=by
 unfold WT Kz;grind
def ziv (h:QX (trimPrefix a [45])=true) (d:QX b=true):WT a b true=(mkRat (zn (hasPrefix a [45]) (Kz (trimPrefix a [45]))) (Kz b),((max (trimPrefix a [45]).length b.length:Nat):Int),if Kz b=0 then 30 else 0):=by
 unfold WT Kz;simp only [h,d];by_cases c:Xo b=0
 .simp [c,DI]
 grind
def zyb (b:Bool) (v:Nat):Zd (b&&decide (0<v)) v=zn b v:=by
 unfold Zd zn;grind
def KS {c:UInt8} {s p:G6} (h:p∈wA c s):p.length<=s.length:=by
 induction s generalizing p with
 | nil=>simp [wA] at h;grind
 | cons x r ih=>
  unfold wA at h
  grind
def zle (s:G6):∃ a,(wA 47 s)[0]? =some a/\(2<(wA 47 s).length->xx s=(0,0,60))/\(QX (trimPrefix a [45])=false->xx s=(0,0,60))/\((wA 47 s).length=1->xx s=WT a [] false)/\∀ b,(wA 47 s).length<=2->(wA 47 s)[1]? =some b->xx s=WT a b true:=by
 rcases zuL s with ⟨a,rfl,h1,g⟩ | ⟨a,b,h1,g,rfl,j⟩
 .have e:xx s=WT s [] false:=by unfold xx;rw [h1]
  rw [g];exact⟨s,Z,fun h=>by grind,fun h=>by rw [e,oL h],fun _=>e,fun b _ h=>by grind⟩
 .have e:xx (a++47::b)=WT a b true:=by unfold xx;rw [h1]
  rw [g];rcases qX 47 b with f | ⟨p,r,rfl,f⟩
  .rw [UN f];exact⟨a,Z,fun h=>by grind,fun h=>by rw [e,oL h],fun h=>by grind,fun c _ h=>by grind⟩
  .have d:=oK (a:=a) (zro (c:=47) J p r);have i:=Er.2 (Yf 47 r);rw [KC r f];exact⟨a,Z,fun _=>by rw [e,d],fun _=>by rw [e,d],fun h=>by grind,fun c h _=>by grind⟩
def zyc (h:QX (trimPrefix a [45])=true):a≠[]:=fun e=>by rw [e] at h;exact M1 h J
end Num
namespace Go.Proofs
open Go Go.Sv Num
variable {G:Imm}
variable {n k:Nat} {s:G6} {hp:Bool} {z:Int}
def QK {l:G6} (h:fe l=0):QX l=true:=by
 cases ho:QX l with
 | true=>rfl
 | false=>rw [(Zj ho).1] at h;omega
theorem l5 (a:n<4294967296^k) (c:k<=1000):(dec n).length<=20000:=by
  rw [WF];have h1:=VU a;have b:=qV n;obtain⟨q,hq⟩:∃ q,q=9*(JH n).length:=⟨_,Z⟩;rw [<-hq] at b
  cases q with
  | zero => have : n = 0 := by simpa using b
            rw [this,Lib.nDigits_small J];decide
  | succ q=>have:=xn b;omega
def ze0 (z:Int):fo (decide (z<0)) z.natAbs=UM z:=by
 unfold fo UM;grind
def zmV:dec n=[49]↔n=1:=by
 rw [show ([49]:G6)=Lib.decDigits 1 by rw [Lib.decDigits,MZ J];rfl];exact zuK
def zvi (h:z.natAbs<4294967296^k) (a:k<=1000):(UM z).length<=20001:=by
 have:=l5 h a;unfold UM;grind
def zvj (hp:Bool) (v:Nat):zP (mkRat (zn hp v) 1)=[zp (hp&&decide (0<v)),zD (dig v),zD [1]]:=by
 have h1:(mkRat (zn hp v) 1).num=zn hp v/\(mkRat (zn hp v) 1).den=1:=by
  have h:=Dy (zn hp v:Rat);rw [Rat.den_intCast,Rat.num_intCast] at h
  rw [h];exact⟨Rat.num_intCast _,Rat.den_intCast _⟩
 unfold zP;rw [h1.1,h1.2,mK,show dig 1=[1] by rw [Xy J,(FV:1/4294967296=0),ay]];congr 2;unfold zn;grind
def zvk {v:Nat} (I:Imm) (x:Value) (h:(zl [zp (hp&&decide (0<v)),zD (dig v),zR 1 id [[ze .u32 1]]]).den I x):(zl (zP (mkRat (zn hp v) 1))).den I x:=by
 rw [zvj];obtain⟨xs,b,c,h1⟩:=h;refine⟨xs,b,?_,h1⟩;obtain⟨x,y,z,rfl,hx,hy,a⟩:=VV c;exact yB hx (yB hy (yB (JQ I z a) aq))
instance isZ_parse {b:Bool} {v k:Nat} [h:Bd v k]:IsZ (b&&decide (0<v)) (dig v) (zn b v) k:=⟨xe _,by rw [xu,zyb],zT h.h⟩
def ze1 [ao G] {b:Bool} {l d:G7} {j:Nat} [h:IsZ b l z k] [g:IsNat d n] [m:Sz d j] (i:2*(k+j+1)+11000<=cap:=by decide):G0 G 354 [zl [zp b,zD l],zD d] (yR [zl (zP (mkRat z n)),MK (if n=0 then 30 else 0)]):=by
 have p:IsQ b l d (mkRat z n) (k+j+1):=⟨h.lim,g.lim,by rw [h.val,g.val],by have:=h.len;omega,by have:=m.h;omega,C⟩
 have f:=g.val;refine Fq Tryz.func354 ?_;refine yT fun r=>?_;refine zz ?_;apply zx;(iterate 4 refine zz ?_);refine ae.box Z Z Z Z Z Z fun o=>Fh ?_;refine ah [] _ [_] Z Z Z Z (YG i) Z Z Z ?_;rintro s1 H1 ⟨rfl,rfl⟩;rw [f];refine zg ?_;refine Fp ?_ ?_<;>intro c
 .have a:n=0:=by simpa using c
  exact zj (zu (e:=by rw [MX a];rfl))
 .have a:n≠0:=by simpa using c
  exact zj (zu (e:=by rw [MY a];rfl))
def ziw [ao G] [aK G] (F:s.length<=1000000000):G0 G 260 [strS s] (yR [zl (zP (xx s).1),MK (xx s).2.1,MK (xx s).2.2]):=by
 obtain⟨a,b,m,g⟩:∃ a b m,Lib.cut s [47]=(a,b,m):=⟨_,_,_,Z⟩;have p:=zhY (G:=G) (l:=s) (m:=[47]) C;have f:xx s=WT a b m:=by unfold xx;rw [g]
 rw [g] at p
 dsimp only at p
 obtain⟨t,c⟩:∃ t,t=Lib.trimPrefix a [45]:=⟨_,Z⟩;have E:=UW (kl t);have D:=UW (kl b);have A:=YI (d:=1) J;have w:=zee (G:=G) (l:=a);have u:=zbi (G:=G) (l:=a) (m:=[45]);rw [<-c] at w u
 refine Fq Tryz.func260 ?_;refine Fm fun b2=>?_;refine Fk p ?_;refine Fk w ?_;refine Fm fun H=>?_;refine Fo ?_ ?_<;>intro _ k
 .have z:=JR k;rw [c] at z
  refine Fl Z Z (wK (q:=0) J J) ?_;exact zj (zu (e:=by rw [f,oL z];rfl))
 .have o:=QK k;rw [c] at o
  refine Fk u ?_;refine Fi (wS Z Z) ?_;refine Fp ?_ ?_<;>intro r
  .obtain rfl:=r;refine Fk zc5 ?_;refine Fo ?_ ?_<;>intro _ i
   .have y:=JR i;refine Fl Z Z (wK (q:=0) J J) ?_;exact zj (zu (e:=by rw [f,oK y];rfl))
   .have x:=QK i;refine zo (wS Z Z) ?_;refine Fi ((Yb Z Z Z).sub (zI (n:=((max t.length b.length:Nat):Int)) C)) ?_;refine Fl Z Z (ze1 J) ?_;exact zj (zu (e:=by rw [f,ziv o x,<-c];rfl))
  .obtain rfl:=r;refine Fl Z Z ((ze1 J).args ⟨fun _ _ h=>h,fun I v h=>JQ (l:=[1]) I v h,trivial⟩) ?_;exact zj (zu (e:=by rw [f,ziu o,<-c];rfl))
def zgg (X:s.length<=2000):G0 G 86 [strS s] (yR [zl (zP (xx s).1),MK (xx s).2.1,MK (xx s).2.2]):=by
 obtain⟨a,F,L,I,N,M⟩:=zle s;have D:=XG 47 s;have Q:=KS (AE F);obtain⟨ls,A⟩:∃ ls,ls=wA 47 s:=⟨_,Z⟩;obtain⟨g,f⟩:∃ g,g=Lib.trimPrefix a [45]:=⟨_,Z⟩;obtain⟨hp,k⟩:∃ hp,hp=Lib.hasPrefix a [45]:=⟨_,Z⟩;have o:=oM (G:=G) (s:=s) (c:=47) C;have W:=UW (kl g);have u:=zc6 (G:=G) (l:=a) C;have i:=zeY a;rw [<-f] at u I i
 rw [<-k] at u i
 rw [<-A] at F L N M D o
 refine Fq Tryz.func86 ?_;refine Fm fun b2=>?_;refine Fk o ?_;refine Fo ?_ ?_<;>intro _ y
 .have h:=L C;refine Fl Z Z (ZN (q:=0) J J) ?_;exact zj (zu (e:=by rw [h];rfl))
 .refine Fk u ?_;refine Fm fun O=>?_;refine Fo ?_ ?_<;>intro _ t
  .have h:=I (JR t);refine Fl Z Z (ZN (q:=0) J J) ?_;exact zj (zu (e:=by rw [h];rfl))
  .have v:=QK t;have z:a≠[]:=zyc (f▸v);have E:=Er.2 z;refine Fh ?_;refine zo (wS Z Z) ?_;refine zg ?_;refine yL (K:=fun S1=>aC S1 (⟨69,[(8,MK (g.length:Nat)),(6,G9 O),(5,zR 1 tC ls),(2,G9 b2)],[⟨some O,44,[zp (hp&&decide (0<Kz g)),zD (dig (Kz g))],0⟩,⟨some b2,46,[eqS (.bool false),G8,G8],0⟩],[],(0,false)⟩)) ?_ ?_
   .refine Fh ?_;refine zo (Zi Z Z Z C (c:=a.getD 0 0) (zir C)) ?_;refine Fi ((zZ Z Z Z Z).sub (yz (zge k E))) ?_;refine Fp ?_ ?_<;>intro w
    .have m:g.length+1=a.length:=by rcases i with ⟨r,h1,h2,h3⟩ | ⟨h1,h2,h3⟩;rw [h1,h3];rfl;rw [w] at h2;cases h2
     refine Do g.length ?_;exact MM
    .have m:g=a:=by rcases i with ⟨r,h1,h2,h3⟩ | ⟨h1,h2,h3⟩;rw [w] at h2;cases h2;exact h3
     exact an (xm Z (by rw [m]) zk) Z
   .intro S1 H;refine xq H<|Fh ?_;refine FQ ?_ ?_<;>intro _ x
    .have h:=N C;rw [ziu (f▸v),<-f,<-k] at h
     refine zg ?_;refine zo (zy Z Z J Z B Z Z) ?_;refine Fi ((yQ Z Z Z).sub zvk) ?_;exact zj (zu (e:=by rw [h];rfl))
    .obtain⟨b,P⟩:∃ b,ls[1]? =some b:=⟨_,AL (by grind)⟩
     have h:=M b C P;have U:=UW (kl b);refine Fh ?_;refine Fk UX ?_;refine Fo ?_ ?_<;>intro _ p
     .rw [oK (JR p)] at h
      refine Fl Z Z (ZN (q:=0) J J) ?_;exact zj (zu (e:=by rw [h];rfl))
     .rw [ziv (f▸v) (QK p),<-f,<-k] at h
      refine Fl Z Z (Vq J) ?_;refine Fm fun R=>?_;refine xv 10 [8] _ V (.cons_cons _ (.cons_cons _ (.cons _ .slnil)))<|FC (zE 0 Z Z Z Z Z) ?_;refine FD (wS Z Z) ?_;refine FD ((Yb Z Z Z).sub (zI (n:=((max g.length b.length:Nat):Int)) C)) ?_;refine .loc1n 2 (xf Z Z Z Z Gg) Z Z Z ?_;rintro s1 H1 ⟨rfl,rfl⟩;refine⟨(.cons_cons _ (.cons_cons _ (.cons _ .slnil))),?_⟩;refine FB ?_;refine ab.nil<|zg ?_;exact zj (zu (e:=by rw [h];rfl))
variable {x y:Int} {k j:Nat} {b c:Bool} {l m:G7}
def zph:((x-y).sign==0)=decide (x=y):=by
 grind
def zmW (b:Bool) (n:Nat):(Zd b n).natAbs=n:=by unfold Zd;omega
def zvl (h1:x.natAbs<4294967296^k) (a:y.natAbs<4294967296^j):(x-y).natAbs<4294967296^(k+j+1):=by
 have c:4294967296^k<=4294967296^(k+j):=Cm J C;have b:4294967296^j<=4294967296^(k+j):=Cm J C;omega
def zlf [hx:IsZ b l x k] [hy:IsZ c m y j] (a:k+j+1100<=cap:=by decide):G0 G 138 [zl [zp b,zD l],zl [zp c,zD m]] (MK (x-y).sign):=by
 have h1:Bz x k:=⟨by rw [<-hx.val,zmW];exact Ah (wz hx.lim) (Cm J hx.len)⟩
 have d:Bz y j:=⟨by rw [<-hy.val,zmW];exact Ah (wz hy.lim) (Cm J hy.len)⟩
 have e:Bz (x-y) (k+j+1):=⟨zvl h1.h d.h⟩;refine Fq Tryz.func138 ?_;refine Fk (zcH a) ?_;refine Fl Z Z (UQ C) ?_;exact Hj
def zix [hx:IsZ b l x k] [hy:IsZ c m y j] (a:k+j+1100<=cap:=by decide):G0 G 93 [zl [zp b,zD l],zl [zp c,zD m]] (zp (decide (x=y))):=by
 refine Fq Tryz.func93 ?_;refine zf (zlf a) ?_;refine Fi ((zZ Z Z Z Z).sub (yz zph)) ?_;exact Hj
def UZ {d:G7} {q:Rat} [h:IsQ b l d q k] [hq:Bq q k] (o:64*k+20000<=65536):G0 G 57 [zl [zp b,zD l,zD d]] (strS (uE q)):=by
 have m:Bd q.num.natAbs k:=⟨hq.num⟩;have i:Bd q.den k:=⟨hq.den⟩;have p:=l5 hq.den C;have hi:=zvi hq.num C;have g:IsZ false (dig q.den) (q.den:Int) k:=⟨xe _,by rw [xu,zev],zT hq.den⟩
 refine zs Tryz.func57 ?_;refine zr<|ae.box Z Z Z Z Z Z fun r=>zg ?_;refine Fl Z Z (vH C) ?_;refine Fi ((zb Z Z (zis C)).sub (WS (ze0 q.num))) ?_;refine Fw 5 ?_;refine Fl Z Z (qY J J) ?_;refine Fi ((zb Z Z (zix GH)).sub (yz (c:=decide (q.den=1)) (decide_eq_decide.2 C))) ?_;refine Fp ?_ ?_<;>intro f
 .have a:=MO f;exact zj (zu (e:=by unfold uE;grind))
 .have a:=MP f;refine Fi (vD Z Z Z GV) ?_;refine Fl Z Z (zc7 C) ?_;refine Fi (vD Z Z Z GV) ?_;exact zj (zu (e:=by unfold uE;grind))
end Go.Proofs
namespace Num
open Go Go.Lib
def kD (q:Rat):Nat:=if q.den=1 then nDigits q.num.natAbs else max (nDigits q.num.natAbs) (nDigits q.den)
def ze2 {q:Rat} (h1:nDigits q.num.natAbs<=60) (a:nDigits q.den<=60):xx (uE q)=(q,((kD q:Nat):Int),0):=zoP h1 a
def om (s:G6):(xx s).2.2=0\/(xx s).2.2=30\/((xx s).2.2=60/\(xx s).2.1=0):=by
 unfold xx WT;grind
def zmX {s:G6} {q:Rat} {k:Int} (h:xx s=(q,k,0)):xx (uE q)=(q,((kD q:Nat):Int),0)/\(kD q:Int)<=k/\k<=60/\q.num.natAbs<4294967296^7/\q.den<4294967296^7:=by
 obtain⟨h1,a,e,d⟩:=zuM h;have c:=Ah (lt_pow_nDigits _) (Cm J h1);have b:=Ah (lt_pow_nDigits _) (Cm J a);exact⟨ze2 h1 a,e,d,Ah c J,Ah b J⟩
end Num
namespace Go.Proofs
open Go Go.Sv Num
variable {G:Imm}
def w5 {q:Rat} {k:Nat} (h:Bq q k) (a:k<=1000):(uE q).length<=50000:=by
 have h1:=zvi h.num a;have b:=l5 h.den a;unfold uE;rw [Aw];split
 .simp;omega
 .rw [Ap];have:(Lib.decDigits q.den).length<=20000:=b;omega
end Go.Proofs
namespace Num
open Go Go.Lib
def zda (n:Nat):uE ((n:Int):Rat)=decDigits n:=by
 unfold uE UM;rw [(FV:(((n:Int):Rat)).num=(n:Int)),(FV:(((n:Int):Rat)).den=1),MY C,MX Z,BV];rfl
end Num
namespace Go.Proofs
open Go Go.Sv Num
variable {G:Imm}
end Go.Proofs
namespace Num
open Go Go.Lib
def zpi {s:G6} (h:(xx s).2.2≠0):(xx s).1=0:=by
 revert h
 unfold xx WT;grind
end Num
namespace Go.Proofs
open Go Go.Sv Num
variable {G:Imm}
theorem m9 (s:G6):Bq (xx s).1 7:=by
 by_cases h:(xx s).2.2=0
 .obtain⟨a,k2,b⟩:∃ a k2,xx s=(a,k2,0):=⟨_,_,Prod.ext Z (Prod.ext Z h)⟩;obtain⟨_,_,_,h1,c⟩:=zmX b;rw [b];exact⟨h1,c⟩
 .rw [zpi h];exact⟨J,J⟩
end Go.Proofs
namespace Num
open Go Go.Lib
variable {α β:Type} {k:Nat}
abbrev RQ:=Bool×List Nat×List Nat
abbrev RP:=RQ×RQ
abbrev Sc:=List RP×List (List RP)×List (RP×RP)
abbrev Xf:List UInt8:=[114,111,98,111,116]
abbrev ZX:List UInt8:=[111,98,115,116,97,99,108,101]
abbrev Yh:List UInt8:=[113,117,101,114,121]
def scL (s:Sc):List (G6×List RP):=(Xf,s.1)::(s.2.1.map (fun l=>(ZX,l))++s.2.2.map fun q=>(Yh,[q.1,q.2]))
def zvm {s:Sc} {l:List RP} (h:s.2.1[k]? =some l):(scL s)[k+1]? =some (ZX,l):=by
 have a:=(EC.1 h).1;unfold scL;grind
def tp {s:Sc} {q:RP×RP} (h:s.2.2[k]? =some q):(scL s)[s.2.1.length+k+1]? =some (Yh,[q.1,q.2]):=by
 unfold scL;rw [Bh,Ae B,Ba,BR,C1,h];rfl
def hM (s:Sc):(scL s).length=s.2.1.length+s.2.2.length+1:=by simp [scL]
def eR (q:Rat):RQ:=(decide (q.num<0),dig q.num.natAbs,dig q.den)
def KT (p:Rat×Rat):RP:=(eR p.1,eR p.2)
def zdb (s:Sc):List RP:=(scL s).flatMap (·.2)
def aS (f:α->List β) (l:List α) (k:Nat):((l.take k).flatMap f).length<=(l.flatMap f).length:=by
 conv=>rhs;rw [<-BB k l,CB,Aw]
 omega
def l9 (f:α->List β) {l:List α} {x:α} (h:l[k]? =some x):(l.take (k+1)).flatMap f=(l.take k).flatMap f++f x:=by
 rw [Cz,h,CB];simp
def nD (q:Rat):Nat:=max (nDigits q.num.natAbs) (nDigits q.den)
end Num
namespace Go.Proofs
open Go Go.Sv Num
variable {G:Imm}
structure ScOk (s:Sc) (k n:Nat):Prop where
 pos:0<k
 pt:∀ x∈scL s,∀p∈x.2,wL k p
 len:(zdb s).length<=n
 row:(scL s).length<=n
def ScOk.lrow {s:Sc} {k n:Nat} (h:ScOk s k n) {x:G6×List RP} (hx:x∈scL s):x.2.length<=n:=by
 obtain⟨i,hi⟩:=Dr hx;have h1:=l9 (fun x:G6×List RP=>x.2) hi;have b:=aS (fun x:G6×List RP=>x.2) (scL s) (i+1);have a:=h.len;unfold zdb at a
 grind
def j8 (s:Sc):(Xf,s.1)∈scL s:=by simp [scL]
def mj {s:Sc} {l:List RP} (h:l∈s.2.1):(ZX,l)∈scL s:=by
 obtain⟨i,hi⟩:=Dr h;exact AE (zvm hi)
def t8 {s:Sc} {q:RP×RP} (h:q∈s.2.2):(Yh,[q.1,q.2])∈scL s:=by
 obtain⟨i,hi⟩:=Dr h;exact AE (tp hi)
def zm1 (q:Rat):qv (eR q)=q:=by
 show mkRat (Zd (decide (q.num<0)) (val (dig q.num.natAbs))) (val (dig q.den))=q;rw [xu,xu,uq];simp
abbrev jF (l:List RP):List SV:=[zR 6 pc l]
abbrev zCy (q:RP×RP):List SV:=pc q.1++pc q.2
abbrev dO (s:Sc):List SV:=[zR 6 pc s.1,zR 1 jF s.2.1,zR 12 zCy s.2.2]
def zm2 {P:Program} {G:Imm} {H:HL} {o:Oper} {g:Ha} {x y z:Operand} {c:Array TypeId} {k:IntKind} {m n p:Int} (hop:o.op= .call {callee:=.builtin .max,args:= #[x,y,z],argTypes:=c}) (hx:yW g x=some (ze k m)) (hy:yW g y=some (ze k n)) (d:yW g z=some (ze k p)):OpOK P G H o g (ze k (max (max m n) p)):=
 yy GW fun I W a _ _ b=>by
  have h1:a.eval x= .int k m:=b.get Gl hx;have h:a.eval y= .int k n:=b.get Gl hy;have f:a.eval z= .int k p:=b.get Gl d;refine⟨_,?_,Z⟩;have e:∀ u v:Int,(if v>u then v else u)=max u v:=fun u v=>by omega
  simp [execOp,hop,resolve,invoke,builtin,Builtin.max_,Builtin.max2,h1,h,f,e]
end Go.Proofs
namespace Num
abbrev QP:=Rat×Rat
abbrev QS:=List QP×List (List QP)×List (QP×QP)
end Num
namespace Go.Proofs
open Go Go.Sv Num
variable {G:Imm}
abbrev Zm (l:List QP):List SV:=[zR 6 zL l]
abbrev ZP (q:QP×QP):List SV:=zL q.1++zL q.2
abbrev qsC (s:QS):List SV:=[zR 6 zL s.1,zR 1 Zm s.2.1,zR 12 ZP s.2.2]
def pvs (l:List RP):List QP:=l.map pv
def pv2 (q:RP×RP):QP×QP:=(pv q.1,pv q.2)
def nrm (s:Sc):QS:=(pvs s.1,s.2.1.map pvs,s.2.2.map pv2)
def oJ:∀ l:List (List QP),(l.flatMap Zm).length=l.length*1
 | []=>rfl
 | x::l=>by rw [BM,Aw,oJ l,Ap];grind
def oI:∀ l:List (QP×QP),(l.flatMap ZP).length=l.length*12
 | []=>rfl
 | x::l=>by rw [BM,Aw,oI l,Ap];grind
def tM {α β:Type} (f:α->β) {l:List α} {k:Nat} {x:α} (h:l[k]? =some x):(l.take (k+1)).map f=(l.take k).map f++[f x]:=by
 rw [Cz,h];simp
end Go.Proofs
namespace Num
open Go Go.Lib
def nl (ws:G1):G6:=ws.flatMap fun w=>w++[10]
def m8 {ws:G1} (h:ws≠[]):nl ws=join ws [10]++[10]:=by
 induction ws with
 | nil=>grind
 | cons w v ih=>
  cases v with
  | nil=>simp [nl,join]
  | cons y v=>
   have:=ih B;unfold nl join at this ⊢;simp_all
def zpl (r:G6):wr (r++[10])=WG (wA 10 r)/\trimSuffix (r++[10]) [10]=r:=by
 rcases KR (r++[10]) 10 with ⟨a,h,b,ht⟩ | ⟨_,_,h⟩
 .have e:r=a:=(List.append_inj_left' h Z);subst e;exact⟨by unfold wr;grind,ht⟩
 grind
def tB {ws:G1} (a:ws≠[]):(join ws [32]).length+1=(nl ws).length:=by
 induction ws with
 | nil=>exact M1 Z a
 | cons w v ih=>
  cases v with
  | nil=>simp [nl,join]
  | cons y v=>
   have:=ih B;unfold nl join at this ⊢;rw [BM,Dx];simp only [Aw,DX] at this ⊢;omega
end Num
namespace Go.Proofs
open Go Go.Sv Num
variable {G:Imm}
end Go.Proofs
