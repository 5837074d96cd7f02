/- The planner in general: a verdict's line. -/
import Derived.Test.YtceodgbmninaoaaGreatDoorSr9
import Derived.Test.YtceodgbmninaoaaGreatDoorSru
import Derived.Test.YtceodgbmninaoaaGreatDoorSqf
import Derived.Test.YtceodgbmninaoaaGreatDoorSgj
import Derived.Test.YtceodgbmninaoaaGreatDoorScn
import Derived.Test.YtceodgbmninaoaaGreatDoorSqy
set_option linter.all false
namespace Num.Pl
open Go Go.Proofs
def Yz (k:Int):G6:=if k=0 then [80,65,84,72] else if k=2 then [66,76,79,67,75,69,68] else [78,79,80,65,84,72]
def ww (v:Vd):G1:=Yz v.1::if v.1=0 then (Xk v).map uE else []
def wC (v:Vd):G6:=Lib.join (ww v) [32]++[10]
end Num.Pl
namespace Go.Proofs
open Go Go.Sv Num Num.Pl Tryz
variable {n k:Nat} {z:Int}
theorem nr (a:n<4294967296^k):(dec n).length<=20*k+20:=by
  rw [WF];have h1:=VU a;have b:=qV n;obtain⟨q,hq⟩:∃ q,q=9*(JH n).length:=⟨_,Z⟩;rw [<-hq] at b
  cases q with
  | zero => have : n = 0 := by simpa using b
            rw [this,Lib.nDigits_small J];omega
  | succ q=>have:=xn b;omega
def zn9 (a:n<4294967296^k) (b:k<=10000000000):(dec n).length<=300000000000:=by have:=nr a;omega
def zt3 (h:z.natAbs<4294967296^k) (a:k<=10000000000):(UM z).length<=300000000001:=by
 have:=zn9 h a;unfold UM;grind
def zt4 {k:Int} (h:0<=k/\k<=2):([strS [80,65,84,72],strS [78,79,80,65,84,72],strS [66,76,79,67,75,69,68]]:List SV)[k.toNat]? =some (strS (Yz k)):=by
 rcases (by omega:k=0\/k=1\/k=2) with rfl | rfl | rfl <;> rfl
def zmk {P:Program} {G:Imm} {o:Oper} {H:HL} {g:Ha} {t e i:Nat} {x b:Operand} {k:IntKind} {cs:List SV} {s:SV} [ak P e] [ai P e 1] (u:P.underlying t=some (.array n e)) (hop:o.op= .index t x b) (hx:yW g x=some (zl cs)) (hi:yW g b=some (ze k i)) (h1:i<n) (w:cs[i]? =some s):OpOK P G H o g s:=
 yy GW fun I W a _ _ q=>by
  obtain⟨xs,r,f,D⟩:=q.get GB hx;have l:a.eval b= .int k i:=q.get GB hi;obtain⟨y,hy,c⟩:=f.get w;obtain⟨d,p,E⟩:=ak.h (P:=P) (t:=e);have A:(isAgg e).run P W= .ok false W:=by
   unfold isAgg;simp only [Sem.run_bind,run_underlying p,Result.andThen_ok];cases d <;> simp_all
  obtain⟨j,v,m⟩:=ai.i (P:=P) (t:=e);have z:(sizeOf e).run P W= .ok 1 W:=by simp [sizeOf,typeInfo,v,m]
  refine⟨y,?_,c⟩;have hin:0<=(i:Int)/\(i:Int)<n:=C;have:(Instr.index t (.agg xs.toArray) (.int k i)).run P W= .ok y W:=by
   simp only [Instr.index,Sem.run_bind,run_underlying u,asIntOf,Sem.run_pure,Result.andThen_ok,hin,and_self,if_true,z,BQ,part,A];simp [hy]
  simp [execOp,hop,r,l,this]
variable {G:Imm}
def zz3 [ao G] [ba G] {b:Bool} {l d:G7} {q:Rat} {k:Nat} [h:IsQ b l d q k] [hq:Bq q k] (f:k<=10000000000):G0 G 43 [zl [zp b,zD l,zD d]] (strS (uE q)):=by
 have i:Bd q.num.natAbs k:=⟨hq.num⟩;have g:Bd q.den k:=⟨hq.den⟩;have j:=zn9 hq.den f;have hi:=zt3 hq.num f;refine zs func43 ?_;refine zr<|ae.box Z Z Z Z Z Z fun m=>zg ?_;refine Fl Z Z (wT GH) ?_;refine Fi ((zb Z Z (zk9 GH)).sub (WS (ze0 q.num))) ?_;refine Fl Z Z (oO GH) ?_;refine Fi (xL Z Z Z Z) ?_;refine FT ?_ ?_<;>intro c
 .have a:¬ q.den=1:=fun e=>by have:=zmV.2 e;grind
  refine zJ<|zg ?_;(iterate 2 refine zo (vD Z Z Z GV) ?_);refine zg ?_;exact zj (zu (e:=by unfold uE;grind))
 .have a:q.den=1:=zmV.1 (by grind);exact zj (zu (e:=by unfold uE;grind))
def zz4:G0 G 41 [] (zl [strS [80,65,84,72],strS [78,79,80,65,84,72],strS [66,76,79,67,75,69,68]]):=by
 refine Fq func41 ?_;refine Fm fun b0=>?_;exact zj zt
def zt5 [ao G] [ba G] {v:Vd} {k0:Nat} {s1 s2 s3 s4:SV} (hz:v.1=0->s1=zR 6 zL v.2.1/\s2=zp (decide (v.2.2.num<0))/\s3=zD (dig v.2.2.num.natAbs)/\s4=zD (dig v.2.2.den)) (hk:0<=v.1/\v.1<=2) (hb:∀ q∈Xk v,Bq q k0) (hkk:k0<=10000000000) (hn:v.2.1.length<=1000000) (hl:(wC v).length<=100000000000000):G0 G 26 [zl [ze .i8 v.1,s1,s2,s3,s4]] (strS (wC v)):=by
 obtain⟨hk1,hk2⟩:=hk;have hpl:=qw v;have hjl:(Lib.join (ww v) [32]).length+1<=100000000000000:=by unfold wC at hl;rw [Aw] at hl;exact hl
 have hwl:(ww v).length<=3000000:=by unfold ww;split <;> simp <;> omega
 refine zs func26 ?_;refine zr<|ae.box Z Z Z Z Z Z fun b1=>zg ?_;refine zi<|zr<|zz ?_;refine zo ((AX (ze .i8 v.1)<|zQ 0 Z Z Z Z)) ?_;refine zo ((zZ rfl rfl rfl rfl).sub (yz (MS (by omega)))) ?_;(iterate 2 refine zz ?_);refine zo ((AX (ze .i8 v.1)<|zQ 0 Z Z Z Z)) ?_;refine Fi ((zZ rfl rfl rfl rfl).sub (yz (c:=false) (MS (by omega)))) ?_;refine yM Z Z<|zB ?_
 apply iK
 .refine qA 4 5 (by decide) ?_ (dQ [0,1,2,3,5,4,6] (by rfl) ?_)
  .refine Kt 7 [4,5,6] _ V (.refl _)<|ag (zb Z Z zz4) Z Z Z<|ag (zS Z Z Z) Z Z Z<|ag ((AX (ze .i8 v.1)<|zQ 0 Z Z Z Z)) Z Z Z<|ag ((AX (strS (Yz v.1))<|zmk Tryz.underlying83 Z Z (by rw [DV hk1];rfl) C (zt4 ⟨hk1,hk2⟩))) Z Z Z ?_
   refine ab.nil ⟨_,Z,ar.buildRow Z Z J Z (.inr B) Z V Z Z Z fun b18=>?_⟩;refine⟨.cons _ (.refl _),ab.nil ⟨_,Z,ar.alloc Z Z Z Z fun b3=>⟨.cons _ (.cons _ (.refl _)),ab.nil ⟨_,Z,ar.store 0 Z Z Z Z Z Z Z Z (.cons _ (.cons _ (.refl _))) (ab.nil (ae.nil ?_))⟩⟩⟩⟩;exact⟨Z,b3,b18,.refl⟩
  .refine Kt 7 [4,5,6] _ V (.refl _)<|ag (zb Z Z zz4) Z Z Z<|FB ?_;refine ag ((AX (strS (Yz v.1))<|zmk Tryz.underlying83 Z Z (by rw [DV hk1];rfl) C (zt4 ⟨hk1,hk2⟩))) Z Z Z ?_
   refine ab.nil ⟨_,Z,ar.alloc Z Z Z Z fun b3=>⟨.cons _ (.refl _),ab.nil ⟨_,Z,ar.buildRow Z Z J Z (.inr B) Z V Z Z Z fun b18=>?_⟩⟩⟩;refine⟨.cons _ (.cons _ (.refl _)),ab.nil ⟨_,Z,ar.store 1 Z Z Z Z Z Z Z Z (.cons _ (.cons _ (.refl _))) (ab.nil (ae.nil ?_))⟩⟩;exact⟨Z,b3,b18,(vO (.swap _ _ _)).trans (aC.ghost MM)⟩
 intro b3 b18;have hb18:zX (some (b18,1)) 1:=⟨Af _,by unfold maxLen;omega⟩
 refine zsL [2,3,30,31,32] (fun (q:G3) (D:G7) z=>z) (fun q D=>[⟨some b3,25,[eqS (rowV q (ww v).length)],0⟩,rowE q 9 1 (ww v).length ((ww v).flatMap tC),⟨some b1,68,[ze .i8 v.1,s1,s2,s3,s4],0⟩]) (fun q D=>D) (fun q D=>zX q (ww v).length) ?_ ?_
 .refine Fh ?_;refine xK ?_ ?_<;>intro h21
  .have k21:=MU.1 h21;obtain⟨rfl,rfl,rfl,rfl⟩:=hz k21;have hwf:ww v=Yz v.1::((Xk v).map uE):=by unfold ww;rw [MX k21]
   refine zr<|zo ((AX (zl (bY v))<|zE 2 Z Z Z V Z)) ?_;refine Fk zB0 ?_
   refine uN rfl rfl (zzQ hn) (fun ss h=>Yq (m:=1) (fun _=>rfl) h) (by decide) rfl
    (fun k h i=>i=(0,false)/\k<=(Xk v).length/\∃ q,zX q (k+1)/\h=[⟨some b3,25,[eqS (rowV q (k+1))],0⟩,rowE q 9 1 (k+1) ((Yz v.1::(((Xk v).map uE).take k)).flatMap tC),⟨some b1,68,bY v,0⟩])
    (fun _ _ _=>False) ⟨rfl,BL _,some (b18,1),hb18,rfl⟩ ?_ ?_ ?_
   .rintro l k ss h i hk0 ⟨rfl,hkl,q,hq,rfl⟩;obtain⟨r,hr,rfl⟩:=uQ hk0;have hrb:=hb r (AE hr);have hrl:=(EC.1 hr).1;have hms:=yp (x:=uE r) (by rw [Ba,hr];rfl);refine zJ<|yT fun b4=>?_;refine zg ?_;refine⟨Z,?_⟩;refine zN<|vA 6 [4,5] _ V (.cons_cons _ (.cons _ (.cons _ (.cons_cons _ .slnil))))<|ab.one (zQ 1 Z Z Z Z) Z Z Z V<|ab.one ((AX (zl (zP r))<|zE 0 Z Z Z V Z)) Z Z Z V<|ab.one (zb rfl rfl (zz3 hkk)) rfl rfl rfl (by kernel_rfl)<|FB ?_;refine ar.append 2 rfl rfl rfl rfl rfl rfl rfl hq (by rw [yG (st:=1) (fun _=>rfl),Ap,BG,BR];omega) (fun z hz=>by grind) (by unfold yE;grind) (by unfold yE;grind) fun q29 hq29=>⟨(.cons_cons _ (.cons _ (.cons _ (.cons_cons _ .slnil)))),?_⟩
    refine ab.nil ⟨_,Z,?_⟩;refine .loc1n 1 (xf rfl rfl rfl rfl (by simp)) rfl rfl rfl ?_;rintro s1 H1 ⟨rfl,rfl⟩;refine⟨(.cons_cons _ (.cons _ (.cons _ (.cons_cons _ .slnil)))),?_⟩;exact ab.nil<|ae.ghost _ Z (zF (B5 _ _))<|zM ⟨Z,by omega,q29,hq29,by rw [hms,show Yz v.1::(((Xk v).map uE).take k++[uE r])=(Yz v.1::((Xk v).map uE).take k)++[uE r] from Z,CB];rfl⟩
   .rintro h i D ⟨rfl,_,q,hq,rfl⟩;rw [wn] at hq ⊢
    rw [BC (by simp)];exact⟨q,D++[],by grind,by rw [hwf,Ap,BR];exact MM⟩
   simp
  .have k21:=MT.1 h21;have hwf:ww v=[Yz v.1]:=by unfold ww;rw [MY k21]
   exact zB ⟨some (b18,1),[],by grind,by rw [hwf];exact MM⟩
 .rintro q D hq;refine zH (vO (En _ _ _))<|zH (vB [] [] [] [] [_] hq rfl rfl (fun _ _=>rfl) (by unfold yE;omega))<|zg ?_;refine zo (zb Z Z (zlb C)) ?_;refine Fi (vD rfl rfl rfl (by simp;omega)) ?_;refine zj ?_
  exact⟨_,[],.one (.tmp Z),BZ _,Z,Z⟩
def zCb [ao G] [ba G] {v:Vd} {k0:Nat} (d:0<=v.1/\v.1<=2) (e:∀ q∈Xk v,Bq q k0) (a:k0<=10000000000) (b:v.2.1.length<=1000000) (c:(wC v).length<=100000000000000):G0 G 26 [zl (bY v)] (strS (wC v)):=zt5 (fun _=>⟨Z,Z,Z,Z⟩) d e a b c
end Go.Proofs
namespace Num.Pl
open Go Go.Proofs
def uy (c:Int) (vs:List Vd):G6:=if c=0 then vs.flatMap wC else [69,82,82,79,82,32]++Lib.decDigits c.toNat++[10]
end Num.Pl
namespace Go.Proofs
open Go Go.Sv Num Num.Pl Tryz
instance:ei prog 5 where
 h:=by
  have h:=aw.infoByte;obtain⟨i,hi,a⟩:=DB.1 h;simp only [Prod.mk.injEq] at a
  exact⟨i,hi,a.1,a.2.1,a.2.2⟩
 c:=aw.cellsByte
abbrev gM (b:Nat) (x:Option Addr) (s:SV):HE:=⟨some b,93,[eqS (.pointer x),s],0⟩
abbrev fd (b:Nat):Addr:=⟨b,0,none⟩
variable {G:Imm}
variable {x:Option Addr} {b:Nat} {vs:List Vd} {l:G6} {c:Int} {s1:SV} {q:G3}
def zd2 (hx:x=none\/x=some (fd b)):CallSpec prog G 73 [eqS (.pointer (some (fd b)))] [gM b x s1] (fun v H1=>v=yR []/\H1=[gM b (some (fd b)) s1]) where
 enters:=Go.Proofs.enters_of func73 Z Z
 main:=fun I W vs w A H=>by
  obtain⟨y,rfl,hy⟩:=Kv H;rw [show y= .pointer (some (fd b)) from hy];obtain⟨u,c,h,r,F,g⟩:=(A.mem (gM b x s1) B).some Z;have K:c.size=2:=r;obtain⟨D,d,q⟩:=g.get (i:=0) Z;obtain⟨y1,hy1,o⟩:=g.get (i:=1) Z;rw [show D= .pointer x from q] at d
  have t:c= #[.pointer x,y1]:=by
   apply AW;refine List.ext_getElem? fun i=>?_;rcases (by omega:i=0\/i=1\/2<=i) with rfl | rfl | hi
   .grind
   .grind
   .grind
  subst t;have E:=F y1 B;rcases hx with rfl | rfl
  .refine (Any.Builder_copyCheck_fresh {be with} aw.toX72 b W (by rw [xC h];rfl) (by simp [World.shape?,h];rfl) (by simp [World.frozen?,h])).mono fun e W' ⟨n,a⟩=>?_
   have f:∀ k,k≠b->W'.heap[k]? =W.heap[k]? :=fun k f=>by
    rw [a];unfold World.setCell;grind
   have L:W'.heap[b]? =some (.cells #[.pointer (some (fd b)),y1] 93 (0,0)):=by
    rw [a];unfold World.setCell;show (W.heap.modify b _)[b]? =_;rw [Dp,MX Z,h];rfl
   obtain⟨l,m⟩:=uz (W':=W') w u (by rw [a];rfl) (by rw [a];rfl) (by rw [a];rfl) (by simp_all) f;refine⟨.tuple #[],I,yR [],_,n,⟨Z,Z⟩,⟨[],Z,aq⟩,l,⟨by simp [bs],fun p hp=>?_⟩,m.weaken Gu fun k f=>.inl (by simpa [bs] using f)⟩;rw [AS.1 hp];exact .of_some Z ⟨u,_,L,Z,fun z j=>by
    rcases DZ.1 j with rfl | j
    .rfl
    grind,yB Z (yB o aq)⟩
  .refine (Any.Builder_copyCheck_used {be with} aw.toX72 b W (by rw [xC h];rfl)).mono fun e W' ⟨n,a⟩=>?_
   subst a;exact⟨.tuple #[],I,yR [],_,n,⟨Z,Z⟩,⟨[],Z,aq⟩,w,A,Fram.refl _ _ _⟩
def zz6 {m:G6} (hx:x=none\/x=some (fd b)) (hq:zX q l.length) (e:l.length+m.length<=yE):CallSpec prog G 46 [eqS (.pointer (some (fd b))),strS m] [gM b x (eqS (rowV q l.length)),rowE q 5 1 l.length (l.flatMap u8S)] (fun v H1=>v=yR [MK (m.length:Nat),eqS .nilIface]/\∃ a,zX a (l++m).length/\H1=[gM b (some (fd b)) (eqS (rowV a (l++m).length)),rowE a 5 1 (l++m).length ((l++m).flatMap u8S)]):=by
 refine Fq func46 ?_;refine ah [] [_] [_] Z Z Z Z (zd2 hx) Z Z Z ?_;rintro f H7 ⟨rfl,rfl⟩;refine Fh ?_;refine ae.loc1 1 Z Z (zg4 (l:=m) Z Z Z Tryz.underlying9 hq (by rw [yG GY,Cr]) e) Z Z Z ?_;rintro d H14 ⟨a,c,rfl,rfl⟩;rw [<-Aw,<-CB] at *;refine zg ?_;refine Fi (wS Z Z) ?_;refine zj ?_;exact⟨_,[_,_],.many (.cons (.tmp Z) (.cons (.tmp Z) .nil)),Dd _,Z,a,c,Z⟩
def zwQ (hq:zX q l.length) (a:q=none\/l≠[]) (d:l.length<=yE):CallSpec prog G 47 [eqS (.pointer (some (fd b)))] [gM b x (eqS (rowV q l.length)),rowE q 5 1 l.length (l.flatMap u8S)] (fun v H1=>v=strS l/\H1=[]):=by
 refine Fq func47 ?_;refine xv 11 [10] _ V (.cons _ (.cons _ .slnil)) ?_;refine FB ?_;refine FC ((zg5 Z Z hq (a.imp id fun h=>Er.2 h))) ?_;refine FC ((xd Z Z hq)) ?_;refine .loc1 1 (zjC Z Z Z Tryz.underlying131 hq Z a d) Z Z Z Z ?_;rintro c H13 ⟨rfl,rfl⟩;refine⟨(.cons _ .slnil),?_⟩;refine ab.nil ?_;exact Lk
def zqu {u:Nat} (h:u<100):G0 G 107 [ML u,MK 10] (strS (Lib.decDigits u)):=by
 refine zs func107 ?_;refine zg ?_;apply zi;apply zr;refine zz ?_;refine Fi ((zZ Z Z Z Z).sub (yz (c:=true) Z)) ?_;refine xt Z Z<|zi ?_;apply zr;refine zz ?_;refine zo ((zZ Z Z Z Z).sub (yz (MR C))) ?_;(iterate 2 refine zz ?_);refine Fi ((zZ Z Z Z Z).sub (yz (MR C))) ?_;refine Ft ?_;refine Fk (zaW h) ?_;exact Hj
def zCc {u:Nat} (h:u<100):G0 G 72 [ze .i64 (u:Nat)] (strS (Lib.decDigits u)):=by
 refine Fq func72 ?_;refine Fk (zqu h) ?_;exact Hj
def zqv {u:Nat} (h:u<100):G0 G 45 [ze .i64 (u:Nat)] (strS (Lib.decDigits u)):=by
 refine Fq func45 ?_;refine Fk (zCc h) ?_;exact Hj
structure jz (vs:List Vd) (k:Nat):Prop where
 kd:∀ v∈vs,0≤v.1∧v.1≤2
 bq:∀ v∈vs,∀q∈Xk v,Bq q k
 n:∀ v∈vs,v.2.1.length≤1000000
 k:k≤10000000000
 l:(vs.flatMap wC).length≤100000000000000
def aS (m:Nat):((vs.take m).flatMap wC).length<=(vs.flatMap wC).length:=by
 conv=>rhs;rw [<-BB m vs]
 rw [CB,Aw];omega
def Qq:∀ {vs:List Vd} {v:Vd},v∈vs→(wC v).length≤(vs.flatMap wC).length
 | w::vs,v,h=>by
  rw [BM,Aw];rcases DZ.1 h with rfl | h
  ·omega
  ·have:=Qq h;omega
def fR (v:Vd):wC v≠[]:=by unfold wC;simp
def zt7 [ao G] [ba G] {c:Int} {vs:List Vd} {k:Nat} (K:0≤c∧c<100) (E:c=0→jz vs k) (M:vs.length≤1000000):G0 G 27 [ze .i64 c,zR 5 bY vs] (strS (uy c vs)):=by
 obtain⟨r,I⟩:=K;have p:((c.toNat:Nat):Int)=c:=DV r;have H:(Lib.decDigits c.toNat).length≤20:=by rw [Lib.decDigits_length];have:=xn (k:=1) (C:c.toNat<10^(1+1));omega
 refine Fq func27 ?_;refine Fo ?_ ?_<;>intro _ i
 ·refine zo ((AX (strS (Lib.decDigits c.toNat))<|zb Z Z (by have h:=zqv (G:=G) (u:=c.toNat) (by omega);rwa [p] at h))) ?_;(iterate 2 refine zo (vD Z Z Z GV) ?_);refine zg ?_;exact zj (zu (e:=by unfold uy;rw [if_neg i]))
 ·have g:=E i;refine yT fun t=>?_;refine zM ?_;refine zi ?_;refine zH (yI 5 1) ?_;refine Fs (vO (En _ _ _)) ?_;refine Ju [4,5,14,15,24] (fun (m:Nat) (x:Option Addr) (q:G3) z=>(16,ze .i64 (m:Nat))::z) (fun m x q=>[gM t x (eqS (rowV q ((vs.take m).flatMap wC).length)),rowE q 5 1 ((vs.take m).flatMap wC).length (((vs.take m).flatMap wC).flatMap u8S)]) (fun m x q=>m≤vs.length∧(x=none∨x=some (fd t))∧zX q ((vs.take m).flatMap wC).length∧(q=none∨((vs.take m).flatMap wC)≠[])) (fun m x q=>vs.length-m) 0 none none ⟨BL _,.inl Z,Z,.inl Z⟩ ?_;rintro m x q ⟨N,hx,hq,w⟩;have s:=aS (vs:=vs) m;have L:=g.l;refine Fh ?_;refine FP ?_ ?_<;>intro _ j
  ·obtain⟨v,d⟩:=FU vs m;have a:=AE d;have F:=Qq a;have b:(vs.take (m+1)).flatMap wC=((vs.take m).flatMap wC)++wC v:=by rw [yp d,CB];simp
   have f:=aS (vs:=vs) (m+1);rw [b,Aw] at f
   refine Fh ?_;refine Fm fun O=>?_;refine Fl Z Z (zCb (g.kd v a) (g.bq v a) g.k (g.n v a) (by omega)) ?_;refine ah [_] [_,_] [] Z Z Z Z (zz6 hx hq GK) Z Z Z ?_
   rintro A H22 ⟨rfl,D,o,rfl⟩;refine zM ?_;refine Fv ?_;refine Fj ((m+1:Nat):Int) ?_;exact⟨m+1,some (fd t),D,⟨by omega,.inr Z,by rw [b];exact o,.inr (by rw [b];intro h;exact fR v (List.append_eq_nil_iff.1 h).2)⟩,by omega,by rw [b];exact an zk Z⟩
  ·obtain rfl:m=vs.length:=by omega
   rw [B3] at hq w s ⊢
   refine Fh ?_;refine ah [] [_,_] [] Z Z Z Z (zwQ hq w GK) Z Z Z ?_;rintro y H24 ⟨rfl,rfl⟩;refine zg ?_;exact zj (zu (e:=by unfold uy;rw [if_pos i]))
def zDH {a:SV} {c:Int} {vs:List Vd} {out:G6} (b:G0 G 28 [a] (yR [zR 5 bY vs,MK c])) (d:G0 G 27 [MK c,zR 5 bY vs] (strS out)):G0 G 8 [a] (strS out):=by
 refine Fq func8 ?_;refine Fk b ?_;refine Fk d ?_;exact Hj
open Num.Hp
structure bw (rob:List V2) (ts:List T3):Prop where
 r0:0<rob.length
 r4:rob.length<=4
 rb:∀ p∈rob,P3 p
 tb:∀ t∈ts,∀p∈Zu t,P3 p
 t2:ts.length<=2
section
variable {G:Imm} {rob:List V2} {ts:List T3} (h:bw rob ts)
 include h
variable {q:V2×V2} {s t:V2}
theorem bw.bl:vE 1 rob:=fun p hp=>(h.rb p hp).bp
theorem bw.tl:∀ t∈ts,vE 1 (Zu t):=fun t ht p hp=>(h.tb t ht p hp).bp
def bw.ps:∀ l∈ts.map (xh rob),vE 1 l/\l.length<=18:=fun l a=>by
 obtain⟨t,ht,rfl⟩:=Bc.1 a;exact⟨ztW h.r0 (h.tb t ht) h.rb,zqp h.r0 h.r4⟩
def bw.flat:(ts.map (xh rob)).flatten.length<=36:=by
 have h1:(ts.map (xh rob)).flatten.length<=(ts.map (xh rob)).length*18:=by
  have:=WY (f:=fun l:List V2=>l) (n:=18) (l:=ts.map (xh rob)) fun l hl=>(h.ps l hl).2
  rwa [List.flatMap_id'] at this
 have:=h.t2;grind
def bw.ml:ck (wX (ts.map (xh rob))) 55 114:=by
 refine zCa (T:=1) J h.ps ?_ h.flat J J J J;have h1:=zjx (ts.map (xh rob)) (ts.map (xh rob)).length (Af _);have a:(ts.map (xh rob)).length<=2:=by rw [BR];exact h.t2
 have b:=BK (ts.map (xh rob)).length a;omega
def bw.cells:(zV (wX (ts.map (xh rob)))).length<=1000000:=
 Ag (by rw [oW];exact zfw h.ml.wln h.ml.lvn _) h.ml.num
theorem bw.cb:∀ c∈zV (wX (ts.map (xh rob))),Bp c.2.2.2 3405:=zt2 h.ml
def bw.allG:(allG (wX (ts.map (xh rob))) (bS (wX (ts.map (xh rob)))).1 (bS (wX (ts.map (xh rob)))).2).length<=200000000:=by
 have hx:(wX (ts.map (xh rob))).xs.length<=2200:=by have:=h.ml.num;omega
 have a:(ZT (ts.map (xh rob)) (yP (ts.map (xh rob))) (wX (ts.map (xh rob))).xs).length<=(wX (ts.map (xh rob))).xs.length:=by
  exact I8
 refine Ag (ztZ ?_ (Ag a hx) h.ml.wln h.ml.lvn) J;show (vP ..).length<=_;rw [XT];exact hx
def bw.joins:(vb rob ts).joins.length<=200000000:=by
 show (Num.sortL fi (fy _ _)).length<=_;rw [Num.sortL_len];exact Ag (by have:=ny ((zV (wX (ts.map (xh rob)))).map (Jt (ts.map (xh rob)))) (Num.Pl.allG (wX (ts.map (xh rob))) (bS (wX (ts.map (xh rob)))).1 (bS (wX (ts.map (xh rob)))).2);omega) h.allG
def bw.make [ao G] {robS b o:SV} (u:G0 G 78 [robS] (zR 6 zL rob)) (t:G0 G 79 [b] (zR 18 vR ts)):G0 G 50 [zl [robS,b,o]] (zl (cE (vb rob ts))):=by
 have e:(ts.map (xh rob)).length<=2:=by rw [BR];exact h.t2
 have d:=h.ml;have i:=h.cells;have hf:=h.flat;have g:=zjw J fun l c=>(h.ps l c).1;have f:=zt0 (wX (ts.map (xh rob))) (zV (wX (ts.map (xh rob)))) (zV (wX (ts.map (xh rob)))).length;have q:(ZT (ts.map (xh rob)) (yP (ts.map (xh rob))) (wX (ts.map (xh rob))).xs).length+1<=(vP (ts.map (xh rob)) (yP (ts.map (xh rob))) (wX (ts.map (xh rob))).xs (wX (ts.map (xh rob))).levels).length:=by
  rw [XT];have v:0<(wX (ts.map (xh rob))).xs.length:=ztY _ _;show (List.map _ (List.zip _ (List.tail _))).length+1<=_;rw [BR,Ex,List.length_tail];omega
 have s:=CL e e;refine zBZ Z u t (zv8 J J h.bl h.tl J (by have:=h.r4;show rob.length<=1000;omega) h.r0 (by have:=h.t2;show ts.length<=1000000;omega)) ?_ ?_ ?_ ?_
 .exact zzB (ps:=ts.map (xh rob)) J h.ps J C C C J (wF g.1 J) (wF g.2 J) J d J
 .exact zBM (ps:=ts.map (xh rob)) J (fun l c=>⟨fun p hp=>wF ((h.ps l c).1 p hp) J,Ag (h.ps l c).2 J⟩) h.cb J C i
 .exact zDu q (fun w r=>⟨Ag (d.wln w r) J,d.wl w r⟩) (fun l c=>⟨Ag (d.lvn l c) J,d.lv l c⟩) J d.nw i (fun x hx=>Ag (f.1 x hx) i) (fun x hx=>Ag (f.2 x hx) i) h.allG
 .exact zDv h.cb J h.joins
def bw.grOk:GrOk (qh (min (vb rob ts).cells.length 131072) (vb rob ts).joins (vb rob ts).lens) 13623:=Num.Pl.gr_ok J (zn7 (k:=3405) J h.cb)
def bw.least [ao G]:dl G (zV (vb rob ts).md).length (vb rob ts).joins (vb rob ts).lens where
 spec f g hf _:=by
  have b:=h.joins;have ht:=zn8 (min (vb rob ts).cells.length 131072) (vb rob ts).joins (vb rob ts).lens (vb rob ts).joins.length;refine zz1 (kb:=13623) (K:=1785800000) (Ag h.cells J) (Cs (BL _) hf) Z b (zn7 J h.cb) (by show (VC _ _).length<=_;unfold VC;rw [BR];exact b) J ?_ J ?_ fun a=>Ag (ht.2 a) C
  .omega
  .have:=zt1 (qh (min (vb rob ts).cells.length 131072) (vb rob ts).joins (vb rob ts).lens);exact Ag (Ez (Ag this ht.1) 1) C
 nodes f g:=by
  have h1:=ov h.grOk (iN _ _ _) f g;rw [show (qh (min (vb rob ts).cells.length 131072) (vb rob ts).joins (vb rob ts).lens).length=min (vb rob ts).cells.length 131072 from ZA _ _ _ _] at h1
  exact⟨fun n c=>Ah (h1.1 n c) (Nat.min_le_left _ _),Ag h1.2 C⟩
def bw.inner (b:Bp s 55) (ht:Bp t 55):∀ l,uL (vb rob ts) s t=some l->vE 3405 l/\l.length<=131075:=fun l a=>by
 have two:∀ {u v:V2} {m:List V2},Bp u 55->Bp v 55->(∀p∈m,Bp p 3405)->m.length<=131073->vE 3405 (ZS ([u]++m++[v]))/\(ZS ([u]++m++[v])).length<=131075:=fun {u v m} hu hv hm hn=>by
  refine⟨fun p hp=>?_,Ag (ZE _) GV⟩;have:=Ug hp;simp only [Bu,AS] at this;rcases this with (rfl | c) | rfl
  .exact wF hu J
  .grind
  .exact wF hv J
 unfold uL at a
 split at a
 .rename_i f g _ _;split at a
  .obtain rfl:=BA a;exact two (m:=[]) b ht (fun p hp=>by cases hp) J
  .split at a
   .rename_i w d;have h1:=ov h.grOk (iN _ _ _) f g;rw [show wU (qh (min (vb rob ts).cells.length 131072) (vb rob ts).joins (vb rob ts).lens) f g=some w from d,show (qh (min (vb rob ts).cells.length 131072) (vb rob ts).joins (vb rob ts).lens).length=min (vb rob ts).cells.length 131072 from ZA _ _ _ _] at h1
    unfold QW iM at a
    split at a
    .obtain rfl:=BA a;refine two b ht (fun p hp=>?_) (by rw [BR];exact Ag h1.2 C);obtain⟨n,_,rfl⟩:=Bc.1 hp;exact Yv h.cb ⟨xb bq_zero J,xb bq_zero J⟩
    grind
   grind
 grind
def bw.outer (e:Bp s 1) (ht:Bp t 1):∀ l,Zn (vb rob ts) s t=some l->vE 3405 l/\l.length<=131077:=fun l a=>by
 have b:=h.ml;unfold Zn at a
 simp only at a
 split at a
 .obtain⟨m,d,rfl⟩:=DB.1 a;have h1:=h.inner (wF (Wo b.b1 b.b2 (wF e J)) J) (wF (Wo b.b1 b.b2 (wF ht J)) J) m d;refine⟨fun p hp=>?_,Ag (ZE _) GV⟩;have:=Ug hp;simp only [Bu,AS] at this;rcases this with (rfl | c) | rfl
  .exact wF e J
  .grind
  .exact wF ht J
 grind
def bw.query [ao G] (h1:Bp q.1 1) (e:Bp q.2 1):G0 G 114 [zl (cE (vb rob ts)),zl (eC q)] (zl (bY (wV (vb rob ts) q))):=by
 have b:=h.ml;have a:=h.outer h1 e;refine zzN h.bl (fun t ht p hp=>wF (h.tl t ht p hp) J) h1 e (by have:=h.r4;show rob.length<=_;omega) (by have:=h.t2;show ts.length<=_;omega) (fun l d=>⟨(a l d).1,Ag (a l d).2 J,?_⟩) J ?_ J J
 .have g:=(a l d).2;unfold cap;omega
 .refine zzM Z b (wF h1 J) (wF e J) (fun c f=>wF (h.cb c f) J) (BR _) h.least (fun l d=>?_) J h.cells;have:=h.inner (wF (Wo b.b1 b.b2 (wF h1 J)) J) (wF (Wo b.b1 b.b2 (wF e J)) J) l d;grind
def bw.vd (h1:Bp q.1 1) (d:Bp q.2 1):(0<=(wV (vb rob ts) q).1/\(wV (vb rob ts) q).1<=2)/\vE 3405 (wV (vb rob ts) q).2.1/\(wV (vb rob ts) q).2.1.length<=131077/\Bq (wV (vb rob ts) q).2.2 1785900000:=by
 have a:vE 3405 ([]:List V2):=fun p hp=>by cases hp
 have z:Bq (0:Rat) 1785900000:=xb bq_zero J;unfold wV;split
 .grind
 .split
  .exact⟨⟨Int.le_refl 0,(by decide:(0:Int)<=2)⟩,fun p hp=>(by rw [AS.1 hp];exact wF h1 J),(by decide:1<=131077),z⟩
  .split
   .rename_i l c;have b:=h.outer h1 d l c;refine⟨⟨Int.le_refl 0,(by decide:(0:Int)<=2)⟩,b.1,b.2,?_⟩;show Bq (Jv l) _;rw [<-zn0];exact xb (mG b.1 J _ (Af _)) C
   grind
end
end Go.Proofs
namespace Num.Pl
open Go Go.Lib Go.Proofs
def zt8 (k:Int):Qb (Yz k):=by
 unfold Yz Qb;grind
def qx (v:Vd):∀ w∈ww v,Qb w:=fun w h=>by
 unfold ww at h
 rcases DZ.1 h with rfl | h
 .exact zt8 _
 .split at h
  .obtain⟨q,_,rfl⟩:=Bc.1 h;exact kc q
  grind
def zd3 (v:Vd):wA 32 (join (ww v) [32])=ww v/\WG (ww v)=true:=
 ⟨KD (by unfold ww;simp) fun x hx c a=>((qx v x hx).2 c a).1,zsn (qx v)⟩
def zoa (v:Vd):join (ww v) [32]≠[]/\∀ c∈join (ww v) [32],c≠10:=by
 refine⟨fun h=>?_,fun c hc=>?_⟩
 .have:=(zd3 v).1;rw [h] at this;exact (qx v [] (by rw [<-this];simp [wA])).1 Z
 .rcases nO hc with rfl | ⟨x,hx,h⟩
  .decide
  .exact ((qx v x hx).2 c h).2
def zqw (vs:List Vd):(vs.flatMap wC=[]\/wr (vs.flatMap wC)=true)/\(if wr (vs.flatMap wC) then wA 10 (trimSuffix (vs.flatMap wC) [10]) else [])=vs.map fun v=>join (ww v) [32]:=by
 have e:vs.flatMap wC=nl (vs.map fun v=>join (ww v) [32]):=by unfold nl;rw [Eb];rfl
 cases vs with
 | nil=>exact⟨.inl Z,J⟩
 | cons v vs=>
  have h:=ziI (ws:=(v::vs).map fun v=>join (ww v) [32]) B (B9.2 fun w a=>by
   obtain⟨u,_,rfl⟩:=Bc.1 a;have:=(zoa u).1;grind) fun w a=>by
   obtain⟨u,_,rfl⟩:=Bc.1 a;exact (zoa u).2
  grind
def hG (w u:G6) (ws:G1):(join (w::u::ws) [32]).length=w.length+1+(join (u::ws) [32]).length:=by
 unfold join;rw [Dx,Aw,Aw];rfl
def ma:∀ {ws:G1} {W:Nat},(∀w∈ws,w.length<=W)->(join ws [32]).length<=ws.length*(W+1)
 | [],_,_=>BL _
 | [w],W,h=>by
  have:=h w (EA _);rw [join_one];grind
 | w::u::ws,W,h=>by
  have h1:=h w (Dv ..);have a:=ma fun x hx=>h x (Bi _ hx);rw [hG,(FV:(w::u::ws).length=(u::ws).length+1),Bj];omega
def zd4 (w:G6) (ws:G1):(join (w::ws) [32]).length<=w.length+1+(join ws [32]).length:=by
 cases ws with
 | nil=>rw [join_one];omega
 | cons u ws=>rw [hG];omega
def np {q:Rat} {k:Nat} (h:Bq q k):(uE q).length<=40*k+42:=by
 have h1:=nr h.num;have a:=nr h.den;have b:(UM q.num).length<=(dec q.num.natAbs).length+1:=by unfold UM;split;exact Af _;exact Ea _
 unfold uE;grind
def zwR {v:Vd} {k K L:Nat} (h1:vE k v.2.1) (c:Bq v.2.2 K) (h:v.2.1.length<=L):(wC v).length<=9+(40*K+43)+(2*L)*(40*k+43)+1:=by
 have d:(Yz v.1).length<=7:=by unfold Yz;split;decide;split <;> decide
 unfold wC;rw [Aw];refine Nat.add_le_add_right ?_ 1;refine Ag (zd4 _ _) ?_;split
 .have hp:∀ w∈(v.2.1.flatMap fun p=>[p.1,p.2]).map uE,w.length<=40*k+42:=fun w hw=>by
   obtain⟨q,hq,rfl⟩:=Bc.1 hw;obtain⟨p,hp,hq⟩:=DP.1 hq;simp only [DZ,D6,or_false] at hq
   rcases hq with rfl | rfl
   .exact np (h1 p hp).x
   .exact np (h1 p hp).y
  have b:=ma hp;have a:=qw v;unfold Xk at a ⊢
  rw [Ar];have g:=zd4 (uE v.2.2) ((v.2.1.flatMap fun p=>[p.1,p.2]).map uE);have f:=np c;rw [BR,(FV:40*k+42+1=40*k+43)] at b
  rw [Ap] at a
  have e:=BK (40*k+43) (C:(v.2.1.flatMap fun p=>[p.1,p.2]).length<=2*L);omega
 .show _+0<=_;omega
theorem oU:∀ (n:Nat) (row:List V2) (out:List T3),(Yn n row out).length<=out.length+(row.length-2)
  | 0,_,_=>by unfold Yn;simp
  | n+1,row,out=>by
    unfold Yn
    split
    . grind
    . split
      . rename_i i hi
        have:=AI.1 (Ev hi);have h:=oU n (Ym row i) out;rw [Zl this] at h;omega
      . split
        . rename_i i hi
          have:=AI.1 (Ev hi);have h:=oU n (Ym row i) (out++[XJ row i]);rw [Zl this,Aw] at h;grind
        . simp
def zt9 (obs:List (List RawP)):(Xu obs).length<=(obs.map fun l=>l.length-2).sum:=by
 unfold Xu
 induction obs with
 | nil=>simp
 | cons l obs ih=>
  have h:=oU (l.length+1) (uh (xR l)) [];rw [Uj] at h
  grind
end Num.Pl
namespace Go.Proofs
open Go Go.Sv Num Num.Pl
variable {G:Imm}
structure jx (t:G6) (q:QS):Prop where
 fw:bw q.1 (Xu (q.2.1.map Ue))
 ob:∀ l∈q.2.1.map Ue,0<l.length/\l.length<=1000/\∀ p∈l,wL 1 p
 on:q.2.1.length<=1000
 qb:∀ x∈q.2.2,Bp x.1 1/\Bp x.2 1
 qn:q.2.2.length<=3
def zoc:∀ (ls:List (List V2)) (n:Nat),ls.foldl dgF n=dgF n ls.flatten
 | [],_=>rfl
 | l::ls,n=>by rw [Au,zoc ls,Bg];unfold dgF;rw [Dt]
def zz7 (q:QS):dgQ q=dgF 0 (vC q):=by
 unfold dgQ iz;rw [B3,zoc,Bg];unfold vC dgF;simp
def zxL {q:Rat} (h:nD q<=3):Q3 q:=by
 unfold nD at h
 have h1:=Lib.lt_pow_nDigits q.num.natAbs;have c:=Lib.lt_pow_nDigits q.den;have b:10^Lib.nDigits q.num.natAbs<=10^3:=Cm J C;have a:10^Lib.nDigits q.den<=10^3:=Cm J C;exact⟨C,C⟩
def zd5 {t:G6} (hf:Qk t=true) (r:(textF t).2=0):jx t (textF t).1:=by
 unfold Qk at hf
 rw [show decide ((textF t).2≠0)=false from MS (fun c=>c r),AF] at hf
 simp only [AD,decide_eq_true_eq] at hf
 obtain⟨a,⟨⟨h1,o⟩,n⟩,k⟩:=hf;obtain⟨hp,e⟩:=nz r;rw [e] at h1 o n k ⊢
 obtain⟨v,u,D,A,_⟩:=(WH t).1 hp;generalize (yS t).1=q at *
 have b:∀ p∈vC q,P3 p:=fun p hp=>by
  have j:¬ ∃p∈vC q,3<nD p.1\/3<nD p.2:=fun c=>by have:=lV.2 c;rw [zz7] at k;omega
  exact⟨zxL (Nat.not_lt.1 fun c=>j ⟨p,hp,.inl c⟩),zxL (Nat.not_lt.1 fun c=>j ⟨p,hp,.inr c⟩)⟩
 have hb:=fun p hp=>(b p hp).bp;have i:∀ l∈q.2.1,∀p∈l,Bp p 1:=fun l a p hp=>hb p (Ej _ (Ei _ (EH.2 ⟨l,a,hp⟩)));have d:∀ l∈q.2.1,l.length<=1000:=fun l a=>by
  have z:=(List.sublist_flatten_of_mem a).length_le;have w:q.2.1.flatten.length<=(vC q).length:=by unfold vC;rw [Aw,Aw];omega
  omega
 have f:∀ l∈q.2.1.map Ue,0<l.length/\l.length<=1000/\∀ p∈l,wL 1 p:=fun m g=>by
  obtain⟨l,a,rfl⟩:=Bc.1 g;have s:(Ue l).length=l.length:=BR _;refine⟨by grind,by grind,fun p hp=>?_⟩;obtain⟨x,hx,rfl⟩:=Bc.1 hp;exact mo ⟨(i l a x hx).x,(i l a x hx).y⟩
 refine {fw:={r0:=Er.2 v,r4:=o,rb:=fun p hp=>b p (Ei _ hp),tb:=fun t ht=>?_,t2:=Ag (zt9 _) h1},ob:=f,on:=C,qb:=fun x hx=>?_,qn:=n}
 .obtain⟨l,a,ht⟩:=DP.1 ht;refine nh _ _ _ (fun p hp=>?_) (fun t h=>by cases h) t ht;obtain⟨x,hx,rfl⟩:=zdF hp;obtain⟨m,g,rfl⟩:=Bc.1 a;obtain⟨y,hy,rfl⟩:=Bc.1 hx;rw [k5];exact b y (Ej _ (Ei _ (EH.2 ⟨m,g,hy⟩)))
 .exact Ii
abbrev gN (t:List UInt8):cI:=vb (textF t).1.1 (Xu ((textF t).1.2.1.map Ue))
def ZZ (t:G6):List Vd:=if (textF t).2=0 then (textF t).1.2.2.map (wV (gN t)) else []
end Go.Proofs
namespace Num.Pl
open Go Go.Proofs Num.Hp
variable {k a b:Nat} {g:Gr}
section
variable {a:cI} {k:Nat} (hg:GrOk (qh (min a.cells.length 131072) a.joins a.lens) k) (hn:∀ f t w,wU (qh (min a.cells.length 131072) a.joins a.lens) f t=some w->∀ n∈w.1,n<a.cells.length)
 include hg hn
end
end Num.Pl
namespace Go.Proofs
open Go Go.Sv Num Num.Pl
variable {G:Imm}
variable {t:G6}
structure bT (t:G6):Prop where
 len:t.length<=2000
 ok:(textF t).2=0->jx t (textF t).1
def u9 (hf:Qk t=true):bT t:=by
 refine⟨?_,zd5 hf⟩;unfold Qk at hf;grind
def tv [ao G] [aK G] (h:bT t):G0 G 28 [strS t] (yR [zR 5 bY (ZZ t),MK (textF t).2]):=by
 have c:=h.len;refine zB1 (zlv C (fun h=>mn (oE C h).1 J) zxZ) ?_ ?_<;>intro h0
 .have b:=h.ok h0;refine b.fw.make (jU J b.fw.bl J (by have:=b.fw.r4;omega)) ?_;have h:=zDb (G:=G) J b.ob J (by rw [BR];exact b.on);rwa [ZU fun l=>by unfold Ue;rw [ZU (f:=pc) (g:=KT) (h:=zL) fun _=>rfl]] at h
 .have b:=h.ok h0;exact zDy (fun q hq=>b.fw.query (b.qb q hq).1 (b.qb q hq).2) (by have:=b.qn;omega)
def tN (h:bT t) (c:(textF t).2=0):jz (ZZ t) 1785900000/\((ZZ t).flatMap wC).length<=3900000000000:=by
 have b:=h.ok c;have a:∀ v∈ZZ t,(0<=v.1/\v.1<=2)/\vE 3405 v.2.1/\v.2.1.length<=131077/\Bq v.2.2 1785900000:=fun v h=>by
  unfold ZZ at h
  rw [MX c] at h
  obtain⟨q,hq,rfl⟩:=Bc.1 h;exact b.fw.vd (b.qb q hq).1 (b.qb q hq).2
 have d:((ZZ t).flatMap wC).length<=3900000000000:=by
  have h1:(ZZ t).length<=3:=by unfold ZZ;rw [MX c,BR];exact b.qn
  refine Ag (WY fun v h=>zwR (a v h).2.1 (a v h).2.2.2 (a v h).2.2.1) (Ag (BK _ h1) J)
 refine⟨⟨fun v h=>(a v h).1,fun v h q hq=>?_,fun v h=>Ag (a v h).2.2.1 J,J,Ag d J⟩,d⟩;unfold Xk at hq
 rcases DZ.1 hq with rfl | hq
 .grind
 .obtain⟨p,hp,hq⟩:=DP.1 hq;simp only [DZ,D6,or_false] at hq
  rcases hq with rfl | rfl
  .exact xb ((a v h).2.1 p hp).x J
  .exact xb ((a v h).2.1 p hp).y J
def sY [ao G] [ba G] [aK G] (h:bT t) (c:0<=(textF t).2/\(textF t).2<100):G0 G 8 [strS t] (strS (uy (textF t).2 (ZZ t))):=by
 refine zDH (tv h) (zt7 c (fun a=>(tN h a).1) ?_);by_cases a:(textF t).2=0
 .have b:=h.ok a;have:=b.qn;unfold ZZ;grind
 .unfold ZZ;grind
end Go.Proofs
namespace Num.Pl
open Go Go.Lib Go.Proofs
def rL (f:V2×V2->V2×V2):Prop:=∀ x:V2×V2,((f x).1=x.1\/(f x).1=x.2)/\((f x).2=x.1\/(f x).2=x.2)
def ta {q:Rat} (h:nD q<=6):(uE q).length<=14:=by
 have c:nDigits q.num.natAbs<=6/\nDigits q.den<=6:=by unfold nD at h;omega
 have h1:=decDigits_length q.num.natAbs;have b:=decDigits_length q.den;have a:(UM q.num).length<=(decDigits q.num.natAbs).length+1:=by unfold UM;split;exact Af _;exact Ea _
 unfold uE;grind
def w6 {w:G6} {l:List V2} (b:w.length<=8) (h:∀ p∈l,nD p.1<=6/\nD p.2<=6) (c:l.length<=6):(KX (w,l)++[10]).length<=196:=by
 have h1:=ma (ws:=ziz w l) (W:=14) fun u a=>by
  unfold ziz at a
  rcases DZ.1 a with rfl | a
  .omega
  .obtain⟨p,hp,a⟩:=DP.1 a;unfold ptT at a
   simp only [DZ,D6,or_false] at a
   rcases a with rfl | rfl
   .exact ta (h p hp).1
   .exact ta (h p hp).2
 rw [jR] at h1
 unfold KX;grind
def tO {q:QS} (h:Xh q=0):q.1.length<=6/\q.2.1.length<=4/\∀ l∈q.2.1,l.length<=6:=by
 unfold Xh at h
 split at h
 .cases h
 .rename_i c;rw [Bool.not_eq_false] at c;simp only [AD,DA,decide_eq_true_eq,cu] at c;grind
def s9 {q:QS} (c:Xh q=0) (f:q.2.2.length<=3) (a:∀ p∈vC q,nD p.1<=6/\nD p.2<=6):(prT q).length<=2000:=by
 obtain⟨e,c2,d⟩:=tO c;have h1:(prT q).length<=(qL q).length*196:=by
  unfold prT;rw [zyr];refine WY fun x hx=>?_;unfold qL at hx
  rcases DZ.1 hx with rfl | hx
  .exact w6 J (fun p hp=>a p (Ei _ hp)) e
  .rcases Bu.1 hx with hx | hx
   .obtain⟨l,b,rfl⟩:=Bc.1 hx;exact w6 J (fun p hp=>a p (Ej _ (Ei _ (EH.2 ⟨l,b,hp⟩)))) (d l b)
   .obtain⟨y,hy,rfl⟩:=Bc.1 hx;exact w6 J (fun p hp=>a p (Ej _ (Ej _ (DP.2 ⟨y,hy,hp⟩)))) B
 have g:(qL q).length=1+(q.2.1.length+q.2.2.length):=by
  unfold qL;rw [Ap,Aw,BR,BR];omega
 omega
section
variable {t:G6} {f:V2×V2->V2×V2} (hx:bT t) (h0:(textF t).2=0) (hf:rL f)
 include hx h0 hf
end
abbrev bk (x:V2×V2):V2×V2:=(x.2,x.1)
def kL (k:Int):G6:=if k=0 then [80] else if k=1 then [78] else [66]
def td (ks:List Int):G6:=ks.flatMap kL
def tR (k:Int):(kL k).length=1:=by unfold kL;grind
def sf (a:List Int):(td a).length=a.length:=by
 unfold td
 induction a with
 | nil=>rfl
 | cons k a ih=>rw [BM,Aw,ih,tR,Ap];omega
def rg {n:Nat} (h:(n:Int)<=2):(([80,78,66]:G6).take (n+1)).drop n=kL (n:Int):=by
 rcases (by omega:n=0\/n=1\/n=2) with rfl | rfl | rfl <;> rfl
end Num.Pl
namespace Go.Proofs
open Go Go.Sv Num Num.Pl Tryz
variable {G:Imm}
variable {n:Nat} {z:Int} {q:Rat} {s:G6}
def sk (h1: -128<=z) (a:z<=127):IntKind.i8.wrap z=z:=by
 simp [IntKind.wrap,IntKind.bits,IntKind.signed];omega
def rj {o:SV} {vs:List Vd} {c:Int} (d:G0 G 24 [o] (yR [zR 1 pf (vs.map (·.1)),MK c])) (q:∀ v∈vs,0<=v.1/\v.1<=2) (r:vs.length<=1000000):G0 G 15 [o] (yR [strS (td (vs.map (·.1))),MK c]):=by
 obtain⟨a,b⟩:∃ a,a=(vs.map (·.1)):=⟨_,Z⟩;have u:a.length<=1000000:=by rw [b,BR];exact r
 have j:∀ k∈a,0<=k/\k<=2:=fun k h=>by grind
 rw [<-b] at d ⊢
 clear b
 refine Fq func15 ?_;refine Fk d ?_;refine Qj [4,5] (fun (g:Nat) z=>(7,ML g)::(6,strS (td (a.take g)))::z) (fun g=>[]) (fun g=>g<=a.length) (fun g=>a.length-g) 0 (BL _) ?_;intro g w;refine Fh ?_;refine FQ ?_ ?_<;>intro _ f
 .obtain⟨k,d⟩:=FU a g;have m:=j k (AE d);obtain⟨n,rfl⟩:∃ n:Nat,k=(n:Int):=⟨k.toNat,C⟩;have t:=sf (a.take g);have p:=BG (i:=g) (l:=a);refine zB<|zi<|zN<|zi<|zg ?_;refine zo (zh Z Z Z C d) ?_;refine zz ?_;refine zo ((zZ Z Z Z Z).sub (yz (MS C))) ?_;refine zg ?_;refine zo (zh Z Z Z C d) ?_;refine zz ?_;refine Fi ((zZ Z Z Z Z).sub (yz (MS C))) ?_;refine Fu ?_;refine wW 13 V<|Fh ?_;refine Fi ((yK (z:=((n+1:Nat):Int)) Z Z Z (MW some C) (sk C C))) ?_;refine Fi ((XC Z Z (.inr ⟨_,_,Z,Z⟩) (.inr ⟨_,_,Z,Z⟩) C GV).sub (WS (rg m.2))) ?_;refine Fi ((vD Z Z Z (by rw [tR];omega))) ?_;refine Do (g+1) ?_
  exact⟨g+1,C,C,an (aa Z (aa (MW (fun l=>some (strS l)) (by rw [yp d];unfold td;simp)) zk)) Z⟩
 .obtain rfl:g=a.length:=C;exact zj (zu (e:=by rw [B3]))
def rm {t:G6}:G0 G 13 [strS t] (yR [zl (qsC (if Qk t then (textF t).1 else ([],[],[]))),zp (Qk t&&decide ((textF t).2=0))]):=by
 refine Fq func13 ?_;refine Fm fun b2=>?_;refine Fk zyS ?_;refine FT ?_ ?_<;>intro g
 .have a:Qk t=false:=by simpa using g
  refine zr<|Fi ((AX (zl (qsC ([],[],[])))<|(yQ Z Z Z).sub Wi)) ?_;exact zj (zu (e:=by rw [a];rfl))
 .have a:Qk t=true:=by simpa using g
  have i:t.length<=600:=by unfold Qk at a;simp only [AD,decide_eq_true_eq] at a;exact a.1
  have d:=oE (t:=t) C;have b:=fun h=>mn (d h).1 J;have f:=zdo (G:=G) C fun h=>⟨b h,jV (b h).rob J,fun r hr=>jV ((b h).obs r hr) J⟩;refine Fk f ?_;refine yT fun j=>?_;refine zw ?_;refine zz ?_;apply zx;(iterate 2 refine zz ?_);refine Fi ((zZ Z Z Z Z).sub (yz (c:=decide ((textF t).2=0)) (by rfl))) ?_
  exact zj (zu (e:=by rw [a];rfl))
end Go.Proofs
