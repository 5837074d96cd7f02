/- The sort of Go's library: the heap. -/
import Derived.Test.YtceodgbmninaoaaGreatDoorScn
set_option linter.all false
namespace Num
open Go Go.Sort
section
variable {α:Type} [Inhabited α] {lt:α->α->Bool} {d:Array α} {hi first r c:Nat}
def sift_end (h:hi<=2*r+1):siftDown lt hi first r d=d:=by rw [siftDown,MZ h]
def sift_step (h:2*r+1<hi) (a:c=if (decide (2*r+1+1<hi)&&lt d[first+(2*r+1)]! d[first+(2*r+1+1)]!)=true then 2*r+1+1 else 2*r+1):
 siftDown lt hi first r d=if lt d[first+r]! d[first+c]! =true then siftDown lt hi first c (swp d (first+r) (first+c)) else d:=by
 rw [siftDown,M0 C];grind
def zyz (lt:α->α->Bool) (d:Array α) (first:Nat) (h:2*r+1<hi):∃ c,c<hi/\r<c/\c=if (decide (2*r+1+1<hi)&&lt d[first+(2*r+1)]! d[first+(2*r+1+1)]!)=true then 2*r+1+1 else 2*r+1:=by
 by_cases a:(decide (2*r+1+1<hi)&&lt d[first+(2*r+1)]! d[first+(2*r+1+1)]!)=true
 .exact⟨_,MO (Bool.and_eq_true_iff.1 a).1,C,(MX a).symm⟩
 .exact⟨_,h,C,(MY a).symm⟩
theorem sift_all {p:α->Prop} {n:Nat} (hf:first+hi<=n):∀ (k:Nat) {r:Nat} {d:Array α},hi-r<=k->d.size=n->(∀x∈d.toList,p x)->(siftDown lt hi first r d).size=n/\∀ x∈(siftDown lt hi first r d).toList,p x
  | 0,r,d,h,hd,hp=>by rw [sift_end C];grind
  | k+1,r,d,h,hd,hp=>by
    by_cases h1:2*r+1<hi
    . obtain⟨c,b,a,e⟩:=zyz lt d first h1
      rw [sift_step h1 e]
      split
      . exact sift_all hf k C (by rw [Sort.swp_size];exact hd) (Zk hp C C)
      grind
    . rw [sift_end C];grind
end
end Num
namespace Go.Proofs
open Go Go.Sv Num Tryz
section
variable (P:Program) (G:Imm) {α:Type} [Inhabited α] (f0:α->List SV) (T0:TypeId) (s0:Nat)
structure dc (fid:FuncId):Prop where
 o:let f:=f0;let T:=T0;let st:=s0;∀{d:Array α} {bb cc n:Nat} {fl:FuncId} {caps:List SV} {lt:α->α->Bool} {p:α->Prop} (_:SoOk P G f p lt fl caps d n) {lo hi first:Nat} (_:lo<=hi) (_:first+hi<=n),CallSpec P G fid [eqS (rowV (some (bb,cc)) n),ze .i64 (lo:Nat),ze .i64 (hi:Nat),ze .i64 (first:Nat),wD fl caps] [rowE (some (bb,cc)) T st n (vr f d)] (fun v H'=>v=yR []/\H'=[rowE (some (bb,cc)) T st n (vr f (Sort.siftDown lt hi first lo d))])
structure dm (fid:FuncId):Prop where
 o:let f:=f0;let T:=T0;let st:=s0;∀{d:Array α} {bb cc n:Nat} {fl:FuncId} {caps:List SV} {lt:α->α->Bool} {p:α->Prop} (_:SoOk P G f p lt fl caps d n) {a b:Nat} (_:a<b) (_:b<=n),CallSpec P G fid [eqS (rowV (some (bb,cc)) n),ze .i64 (a:Nat),ze .i64 (b:Nat),wD fl caps] [rowE (some (bb,cc)) T st n (vr f d)] (fun v H'=>v=yR []/\H'=[rowE (some (bb,cc)) T st n (vr f (Sort.heapSort lt d a b))])
end
variable {G:Imm}
def j3 {S A0:Prop} (A:A0) (w:By A0->S:=by
 intro H;refine⟨?_⟩;intro f T st d bb cc n fl caps lt p u lo hi first v F;obtain⟨G,M,hp,m⟩:=u;refine wR H.o Z Z Z<|zg ?_;refine Xt [0,1,2,3,4] (fun (r:Nat) (D:Array _) z=>(10,ML r)::z) (fun r D=>[rowE (some (bb,cc)) T st n (vr f D)]) (fun r D=>D.size=n/\r<=hi/\(∀x∈D.toList,p x)/\Sort.siftDown lt hi first r D=(Sort.siftDown lt hi first lo d)) (fun r _=>hi-r) lo d ⟨G,v,hp,Z⟩ ?_;rintro r D ⟨I,L,a,j⟩;refine zg ?_;refine Do (2*r) ?_;refine Do (2*r+1) ?_;refine zd ?_ ?_<;>intro _ t
 .rw [<-j,Num.sift_end (by omega)];exact zK<|HC
 .refine zB<|yL (K:=fun S1=>∃ c:Nat,c<hi/\r<c/\(c=if (decide (2*r+1+1<hi)&&lt D[first+(2*r+1)]! D[first+(2*r+1+1)]!)=true then 2*r+1+1 else 2*r+1)/\aC S1 ⟨82,[(11,ML c),(10,ML r),(0,eqS (rowV (some (bb,cc)) n)),(1,ML lo),(2,ML hi),(3,ML first),(4,wD fl caps)],[rowE (some (bb,cc)) T st n (vr f D)],[],(0,false)⟩) ?_ ?_
  .refine yL (K:=fun S1=>∃ q:Bool,q=(decide (2*r+1+1<hi)&&lt D[first+(2*r+1)]! D[first+(2*r+1+1)]!)/\aC S1 ⟨82,[(40,zp q),(11,ML (2*r+1)),(10,ML r),(0,eqS (rowV (some (bb,cc)) n)),(1,ML lo),(2,ML hi),(3,ML first),(4,wD fl caps)],[rowE (some (bb,cc)) T st n (vr f D)],[],(0,false)⟩) ?_ ?_
   .refine wW 22 V<|zz ?_;refine za ((2*r+1+1:Nat):Int) ?_;refine zz ?_;refine FE ?_ ?_<;>intro _ l
    .obtain⟨z,g,b⟩:=m _ _ (xI a (i:=first+(2*r+1)) (by omega)) (xI a (i:=first+(2*r+1+1)) (by omega));refine Do (first+(2*r+1)) ?_;refine Fi ((zY (first+(2*r+1)) Z Z Z Z (by omega))) ?_;refine Fi ((yA 0 (f:=f) GY (d:=D) (i:=first+(2*r+1)) (by omega) Z Z Z)) ?_;refine Do (first+(2*r+1)) ?_;refine Do (first+(2*r+1+1)) ?_;refine Fi ((zY (first+(2*r+1+1)) Z Z Z Z (by omega))) ?_;refine Fi ((yA 0 (f:=f) GY (d:=D) (i:=first+(2*r+1+1)) (by omega) Z Z Z)) ?_;refine Fi ((yY Z Z Z g)) ?_;exact⟨decide (z<0),by rw [b,show decide (2*r+1+1<hi)=true from MR (by omega)];rfl,MM⟩
    .exact⟨false,by rw [show decide (2*r+1+1<hi)=false from MS (by omega)];rfl,MM⟩
   .rintro S1 ⟨q,hq,h⟩;refine xq h<|Fp ?_ ?_<;>intro e
    .refine Do (2*r+1+1) ?_;exact⟨2*r+1+1,by have:=MO (Bool.and_eq_true_iff.1 (hq.symm.trans e)).1;omega,by omega,by rw [<-hq,MX e],MM⟩
    .exact⟨2*r+1,by omega,by omega,by rw [<-hq,MY (by rw [e];decide)],MM⟩
  .rintro S1 ⟨c,N,E,y,h⟩;refine xq h<|zi ?_;have s:=Num.sift_step (lt:=lt) (d:=D) (first:=first) (C:2*r+1<hi) (c:=c) y;obtain⟨z,g,b⟩:=m _ _ (xI a (i:=first+r) (by omega)) (xI a (i:=first+c) (by omega))
   refine Fw 16 ?_;refine Do (first+r) ?_;refine Fi ((zY (first+r) Z Z Z Z (by omega))) ?_;refine Fi ((yA 0 (f:=f) GY (d:=D) (i:=first+r) (by omega) Z Z Z)) ?_;refine Do (first+c) ?_;refine Fi ((zY (first+c) Z Z Z Z (by omega))) ?_;refine Fi ((yA 0 (f:=f) GY (d:=D) (i:=first+c) (by omega) Z Z Z)) ?_;refine Fi ((yY Z Z Z g)) ?_;refine Fp ?_ ?_<;>intro k
   .rw [MY (by rw [<-b];simpa using k)] at s
    exact zj ⟨_,[_],.none,Dd _,Z,by rw [<-j,s]⟩
   .rw [MX (by rw [<-b];simpa using k)] at s
    refine xv 24 [21,23] _ V (.cons _ .slnil)<|FB ?_;refine FC (yK (z:=((first+r:Nat):Int)) Z Z Z (MW some (by omega)) (wrap_i64 (by omega) (by omega))) ?_;refine FD (yK (z:=((first+c:Nat):Int)) Z Z Z (MW some (by omega)) (wrap_i64 (by omega) (by omega))) ?_;refine FC (yK (z:=((first+c:Nat):Int)) Z Z Z (MW some (by omega)) (wrap_i64 (by omega) (by omega))) ?_;refine FC ((zY (first+c) Z Z Z Z (by omega))) ?_;refine FC ((yA 0 (f:=f) GY (d:=D) (i:=first+c) (by omega) Z Z Z)) ?_;refine FC (yK (z:=((first+r:Nat):Int)) Z Z Z (MW some (by omega)) (wrap_i64 (by omega) (by omega))) ?_;refine FC ((zY (first+r) Z Z Z Z (by omega))) ?_;refine FC ((yA 0 (f:=f) GY (d:=D) (i:=first+r) (by omega) Z Z Z)) ?_;refine FC ((zY (first+r) Z Z Z Z (by omega))) ?_
    refine .loc1n 0 (xk (f:=f) GY (d:=D) (i:=first+r) (by omega) D[first+c]! Z Z Z) Z Z Z ?_;rintro s1 H1 ⟨rfl,rfl⟩;refine⟨(.cons _ .slnil),?_⟩;refine FC ((zY (first+c) Z Z Z Z (by omega))) ?_;refine .loc1n 0 (xk (f:=f) GY (d:=D.setIfInBounds (first+r) D[first+c]!) (i:=first+c) Gm D[first+r]! Z Z Z) Z Z Z ?_;rintro s2 H2 ⟨rfl,rfl⟩;refine⟨(.cons _ .slnil),?_⟩;refine ab.nil<|zg ?_
    exact⟨c,Sort.swp D (first+r) (first+c),⟨by rw [Sort.swp_size];exact I,by omega,Zk a (by omega) (by omega),s.symm.trans j⟩,by omega,MM⟩):S:=w ⟨A⟩
def zAM:dc prog G (zP) 46 3 465:=j3 func465
def zAN:dc prog G (zL) 48 6 505:=j3 func505
def zAO:dc prog G (Vc) 282 6 509:=j3 func509
def zAP:dc prog G (Uh) 200 2 413:=j3 func413
def j0 {S A0 A1:Prop} (H:A0) (G:A1) (w:By A0->By A1->S:=by
 intro Q I;refine⟨?_⟩;intro f T st d bb cc n fl caps lt p v a b P W;obtain⟨O,K,hp,h⟩:=v;refine wR Q.o Z Z Z<|zr ?_;(iterate 2 refine zz ?_);refine zx<|Fi ((yt Z Z).sub (zI (n:=((0:Nat):Int)) Z)) ?_;refine Do (b-a) ?_;refine Do (b-a-1) ?_;refine Fi ((vl Z Z Z C C (wrap_i64 C C)).sub (zI (n:=(((b-a-1)/2+1:Nat):Int)-1) C)) ?_;refine Xt [0,1,2,3,8,9,10] (fun (k:Nat) (D:Array _) z=>(11,MK ((k:Int)-1))::z) (fun k D=>[rowE (some (bb,cc)) T st n (vr f D)]) (fun k D=>D.size=n/\k<=(b-a-1)/2+1/\(∀x∈D.toList,p x)/\Sort.heapBuild lt (b-a) a k D=Sort.heapBuild lt (b-a) a ((b-a-1)/2+1) d) (fun k _=>k) ((b-a-1)/2+1) d ⟨O,Af _,hp,Z⟩ ?_;rintro k D ⟨A,N,g,s⟩;refine Fh ?_;refine FQ ?_ ?_<;>intro _ u
 .obtain⟨k,rfl⟩:∃ j,k=j+1:=⟨k-1,C⟩;have c:=Num.sift_all (lt:=lt) (hi:=b-a) (first:=a) (r:=k) (d:=D) (n:=n) C _ (Af _) A g;refine zB<|zi<|zN<|zJ<|zz ?_;refine Fi ((zC Z Z).sub (zI (n:=((k:Nat):Int)) C)) ?_;refine ah [] [_] [] Z Z Z Z (I.o.o ⟨A,K,g,h⟩ (lo:=k) (hi:=b-a) (first:=a) C C) Z Z Z ?_;rintro M H29 ⟨rfl,rfl⟩;refine zg ?_;refine Fj ((k:Int)-1) ?_;exact⟨k,Sort.siftDown lt (b-a) a k D,⟨c.1,C,c.2,s⟩,C,MM⟩
 .obtain rfl:k=0:=C;have U:Sort.heapBuild lt (b-a) a ((b-a-1)/2+1) d=D:=s.symm;refine Fj (((b-a:Nat):Int)-1) ?_;refine xz (fun (k:Nat) (E:Array _)=>⟨_,[(12,MK ((k:Int)-1)),(0,eqS (rowV (some (bb,cc)) n)),(1,ML a),(2,ML b),(3,wD fl caps),(8,ML a),(9,ML (0)),(10,ML (b-a))],[rowE (some (bb,cc)) T st n (vr f E)],[],(0,false)⟩) (fun k E=>E.size=n/\k<=b-a/\(∀x∈E.toList,p x)/\Sort.heapPop lt a k E=Sort.heapSort lt d a b) (fun k _=>k) (b-a) D ⟨A,Af _,g,by unfold Sort.heapSort;rw [U]⟩ (an (aa Z (aa Z (aa Z (aa Z (aa Z (aa Z (aa Z (aa Z (trivial))))))))) Z) ?_;rintro k E ⟨R,N,y,q⟩;refine Fh ?_;refine Fo ?_ ?_<;>intro _ t
  .obtain⟨k,rfl⟩:∃ j,k=j+1:=⟨k-1,C⟩;obtain⟨F,e⟩:∃ F,F=Sort.swp E a (a+k):=⟨_,Z⟩;have l:F.size=n:=by rw [e,Sort.swp_size];exact R
   have m:∀ x∈F.toList,p x:=by rw [e];exact Zk y C C
   have c:=Num.sift_all (lt:=lt) (hi:=k) (first:=a) (r:=0) (d:=F) (n:=n) C _ (Af _) l m;refine xv 20 [17,19] _ V (.cons _ .slnil)<|FB ?_;refine FD (yK (z:=((a+k:Nat):Int)) Z Z Z (MW some C) (wrap_i64 C C)) ?_;refine FC (yK (z:=((a+k:Nat):Int)) Z Z Z (MW some C) (wrap_i64 C C)) ?_;refine FC ((zY (a+k) Z Z Z Z C)) ?_;refine FC ((yA 0 (f:=f) GY (d:=E) (i:=a+k) C Z Z Z)) ?_;refine FC ((zY a Z Z Z Z C)) ?_;refine FC ((yA 0 (f:=f) GY (d:=E) (i:=a) C Z Z Z)) ?_;refine FC ((zY a Z Z Z Z C)) ?_;refine .loc1n 0 (xk (f:=f) GY (d:=E) (i:=a) C E[a+k]! Z Z Z) Z Z Z ?_;rintro s1 H1 ⟨rfl,rfl⟩;refine⟨(.cons _ .slnil),?_⟩;refine FC ((zY (a+k) Z Z Z Z C)) ?_;refine .loc1n 0 (xk (f:=f) GY (d:=E.setIfInBounds a E[a+k]!) (i:=a+k) Gm E[a]! Z Z Z) Z Z Z ?_;rintro s2 H2 ⟨rfl,rfl⟩;refine⟨(.cons _ .slnil),?_⟩;refine ab.nil ?_;rw [show (E.setIfInBounds a E[a+k]!).setIfInBounds (a+k) E[a]! =F from e.symm];refine zM<|zJ ?_;(iterate 2 refine zz ?_);refine Fi ((zC Z Z).sub (zI (n:=((k:Nat):Int)) C)) ?_;refine ah [] [_] [] Z Z Z Z (I.o.o ⟨l,K,m,h⟩ (lo:=0) (hi:=k) (first:=a) C C) Z Z Z ?_;rintro L H59 ⟨rfl,rfl⟩;refine zg ?_;refine Fj ((k:Int)-1) ?_;exact⟨k,Sort.siftDown lt k a 0 F,⟨c.1,C,c.2,by rw [e];exact q⟩,C,MM⟩
  .obtain rfl:k=0:=C
   exact⟨_,[_],.none,Dd _,Z,by rw [<-q];rfl⟩):S:=w ⟨H⟩ ⟨G⟩
def zAQ:dm prog G (zP) 46 3 390:=j0 func390 (zAM (G:=G))
def zAR:dm prog G (zL) 48 6 458:=j0 func458 (zAN (G:=G))
def zAS:dm prog G (Vc) 282 6 471:=j0 func471 (zAO (G:=G))
def zAT:dm prog G (Uh) 200 2 317:=j0 func317 (zAP (G:=G))
end Go.Proofs
namespace Num
open Go Go.Sort
section
variable {α:Type} [Inhabited α] {d:Array α} {i j:Nat}
def eq_stop {lt:α->α->Bool} {a i2 j2:Nat} (h1:scanUp (fun x=> !lt d[a]! x) d j i=i2) (h2:scanDown (fun x=>lt d[a]! x) d i2 j=j2) (h:j2<i2):partEqLoop lt a i j d=(i2,d):=by
 rw [partEqLoop];grind
def eq_go {lt:α->α->Bool} {a i2 j2:Nat} (h1:scanUp (fun x=> !lt d[a]! x) d j i=i2) (h2:scanDown (fun x=>lt d[a]! x) d i2 j=j2) (h:i2<=j2) (hi:i<=i2) (hj:j2<=j) (h0:0<j2):partEqLoop lt a i j d=partEqLoop lt a (i2+1) (j2-1) (swp d i2 j2):=by
 rw [partEqLoop];grind
end
end Num
namespace Go.Proofs
open Go Go.Sv Num Tryz
section
variable (P:Program) (G:Imm) {α:Type} [Inhabited α] (f0:α->List SV) (T0:TypeId) (s0:Nat)
structure dh (fid:FuncId):Prop where
 o:let f:=f0;let T:=T0;let st:=s0;∀{d:Array α} {bb cc n:Nat} {fl:FuncId} {caps:List SV} {lt:α->α->Bool} {p:α->Prop} (_:SoOk P G f p lt fl caps d n) {a b pv:Nat} (_:a<b) (_:b<=n) (_:a<=pv) (_:pv<b),CallSpec P G fid [eqS (rowV (some (bb,cc)) n),ze .i64 (a:Nat),ze .i64 (b:Nat),ze .i64 (pv:Nat),wD fl caps] [rowE (some (bb,cc)) T st n (vr f d)] (fun v H'=>v=yR [ze .i64 ((Sort.partition lt d a b pv).1:Nat),zp (Sort.partition lt d a b pv).2.1]/\H'=[rowE (some (bb,cc)) T st n (vr f (Sort.partition lt d a b pv).2.2)])
structure bV (fid:FuncId):Prop where
 o:let f:=f0;let T:=T0;let st:=s0;∀{d:Array α} {bb cc n:Nat} {fl:FuncId} {caps:List SV} {lt:α->α->Bool} {p:α->Prop} (_:SoOk P G f p lt fl caps d n) {a b pv:Nat} (_:a<b) (_:b<=n) (_:a<=pv) (_:pv<b),CallSpec P G fid [eqS (rowV (some (bb,cc)) n),ze .i64 (a:Nat),ze .i64 (b:Nat),ze .i64 (pv:Nat),wD fl caps] [rowE (some (bb,cc)) T st n (vr f d)] (fun v H'=>v=ze .i64 ((Sort.partitionEqual lt d a b pv).1:Nat)/\H'=[rowE (some (bb,cc)) T st n (vr f (Sort.partitionEqual lt d a b pv).2)])
end
variable {G:Imm}
def kt {S A0:Prop} (b8:A0) (w:By A0->S:=by
 intro hF;refine⟨?_⟩;intro f T st d bb cc n fl caps lt p b3 a b pv d1 hb c6 c5;obtain⟨hd,hn,hp,L⟩:=b3;obtain⟨D0,E⟩:∃ D,D=Sort.swp d a pv:=⟨_,Z⟩;have b0:D0.size=n:=by rw [E,Sort.swp_size];exact hd
 have y:∀ x∈D0.toList,p x:=by rw [E];exact Zk hp C C
 refine wR hF.o Z Z Z<|zg ?_;refine xv 16 [13,15] _ V (.cons _ .slnil) ?_;(iterate 2 refine ab.one (zC Z Z) Z Z Z V ?_);(iterate 2 refine ag (zC Z Z) Z Z Z ?_);(iterate 2 refine ab.one (zC Z Z) Z Z Z V ?_);refine ab.one ((zY pv Z Z Z Z C)) Z Z Z V<|ab.one ((yA 0 (f:=f) GY (d:=d) (i:=pv) C Z Z Z)) Z Z Z V ?_;(iterate 2 refine ab.one (zC Z Z) Z Z Z V ?_);refine ab.one ((zY a Z Z Z Z C)) Z Z Z V<|ab.one ((yA 0 (f:=f) GY (d:=d) (i:=a) C Z Z Z)) Z Z Z V<|ab.one ((zY a Z Z Z Z C)) Z Z Z V<|ab.nil ⟨_,Z,?_⟩;refine .loc1n 0 (xk (f:=f) GY (d:=d) (i:=a) C d[pv]! Z Z Z) Z Z Z ?_;rintro s1 H1 ⟨rfl,rfl⟩;refine⟨(.cons _ .slnil),?_⟩;refine ab.one ((zY pv Z Z Z Z C)) Z Z Z V<|ab.nil ⟨_,Z,?_⟩;refine .loc1n 0 (xk (f:=f) GY (d:=d.setIfInBounds a d[pv]!) (i:=pv) Gm d[a]! Z Z Z) Z Z Z ?_;rintro s2 H2 ⟨rfl,rfl⟩;refine⟨(.cons _ .slnil),?_⟩;refine ab.nil ?_;rw [show (d.setIfInBounds a d[pv]!).setIfInBounds pv d[a]! =D0 from E.symm];refine zg ?_;refine za ((a+1:Nat):Int) ?_;refine zz ?_;refine za ((b-1:Nat):Int) ?_;(iterate 2 refine zz ?_);refine zM<|yL (K:=fun S1=>∃ h:Nat,(a+1)<=h/\h<=b/\Sort.scanUp (fun x=>lt x D0[a]!) D0 (b-1) (a+1)=h/\aC S1 ⟨178,[(12,ML h),(13,MK ((b-1):Nat)),(0,eqS (rowV (some (bb,cc)) n)),(1,ML a),(4,wD fl caps)],[rowE (some (bb,cc)) T st n (vr f D0)],[],(0,false)⟩) ?_ ?_
 .refine zN<|xi (γ:=Nat) (fun c=>⟨_,[(12,ML c),(13,MK ((b-1):Nat)),(0,eqS (rowV (some (bb,cc)) n)),(1,ML a),(4,wD fl caps)],[rowE (some (bb,cc)) T st n (vr f D0)],[],(0,false)⟩) (fun c=>(a+1)<=c/\c<=b/\Sort.scanUp (fun x=>lt x D0[a]!) D0 (b-1) c=Sort.scanUp (fun x=>lt x D0[a]!) D0 (b-1) (a+1)) (fun c=>b-c) ((a+1)) ⟨Af _,C,Z⟩ MM ?_;rintro c ⟨b6,a8,t⟩;refine zi<|zU 16 V ?_;(iterate 2 refine zz ?_);refine ae.oneB (zZ Z Z Z Z) Z Z Z (fun G=>?_) (fun G=>?_)
  .have X:=MO G;obtain⟨z,q,k⟩:=L _ _ (xI y (i:=c) C) (xI y (i:=a) C);refine zg ?_;refine zo ((zY c Z Z Z Z C)) ?_;refine zo ((yA 0 (f:=f) GY (d:=D0) (i:=c) C Z Z Z)) ?_;refine zg ?_;refine zo ((zY a Z Z Z Z C)) ?_;refine zo ((yA 0 (f:=f) GY (d:=D0) (i:=a) C Z Z Z)) ?_;refine zo ((yY Z Z Z q)) ?_;refine zg ?_;refine zd ?_ ?_<;>intro R b2
   .refine zg ?_;refine za ((c+1:Nat):Int) ?_;refine zg ?_;exact⟨c+1,⟨C,C,(Num.up_go (p:=fun x=>lt x D0[a]!) (i:=c) C (k.symm.trans R)).symm.trans t⟩,C,MM⟩
   .exact zK ⟨c,C,C,t.symm.trans (Num.up_stop (.inr (k.symm.trans R))),MM⟩
  .have X:=MP G;refine zg ?_;exact yM Z Z<|zK ⟨c,C,C,t.symm.trans (Num.up_stop (.inl C)),MM⟩
 .rintro S1 ⟨h,c4,c3,a7,r⟩;refine xq r<|yL (K:=fun S1=>∃ g:Nat,a<=g/\g<=(b-1)/\Sort.scanDown (fun x=> !lt x D0[a]!) D0 h ((b-1))=g/\aC S1 ⟨178,[(12,ML h),(13,ML g),(0,eqS (rowV (some (bb,cc)) n)),(1,ML a),(4,wD fl caps)],[rowE (some (bb,cc)) T st n (vr f D0)],[],(0,false)⟩) ?_ ?_
  .refine zN<|xi (γ:=Nat) (fun e=>⟨_,[(12,ML h),(13,ML e),(0,eqS (rowV (some (bb,cc)) n)),(1,ML a),(4,wD fl caps)],[rowE (some (bb,cc)) T st n (vr f D0)],[],(0,false)⟩) (fun e=>a<=e/\e<=(b-1)/\Sort.scanDown (fun x=> !lt x D0[a]!) D0 h e=Sort.scanDown (fun x=> !lt x D0[a]!) D0 h ((b-1))) (fun e=>e) ((b-1)) ⟨C,Af _,Z⟩ MM ?_;rintro e ⟨b5,a4,s⟩;refine zi<|zU 17 V ?_;(iterate 2 refine zz ?_);refine ae.oneB (zZ Z Z Z Z) Z Z Z (fun F=>?_) (fun F=>?_)
   .have W:=MO F;obtain⟨z,q,k⟩:=L _ _ (xI y (i:=e) C) (xI y (i:=a) C);refine zg ?_;refine zo ((zY e Z Z Z Z C)) ?_;refine zo ((yA 0 (f:=f) GY (d:=D0) (i:=e) C Z Z Z)) ?_;refine zg ?_;refine zo ((zY a Z Z Z Z C)) ?_;refine zo ((yA 0 (f:=f) GY (d:=D0) (i:=a) C Z Z Z)) ?_;refine zo ((yY Z Z Z q)) ?_;refine zg ?_;refine xK ?_ ?_<;>intro Q
    .refine zg ?_;refine za ((e-1:Nat):Int) ?_;refine zg ?_;exact⟨e-1,⟨C,C,(Num.down_go C C (by show (!lt _ _)=true;rw [<-k];exact Q)).symm.trans s⟩,C,MM⟩
    .exact zK ⟨e,C,C,s.symm.trans (Num.down_stop (.inr (by show (!lt _ _)=false;rw [<-k];exact Q))),MM⟩
   .have W:=MP F;refine zg ?_;exact yM Z Z<|zK ⟨e,C,C,s.symm.trans (Num.down_stop (.inl C)),MM⟩
  .rintro S1 ⟨g,c1,c0,a3,r⟩;refine xq r<|zi<|zg ?_;refine zd ?_ ?_<;>intro _ b1
   .have U:Sort.partition lt d a b pv=(g,true,Sort.swp D0 g a):=by
     unfold Sort.partition;simp only [<-E,a7,a3];rw [MX C]
    refine xv 16 [13,15] _ V (.cons _ .slnil) ?_;(iterate 2 refine ab.one (zC Z Z) Z Z Z V ?_);(iterate 2 refine ag (zC Z Z) Z Z Z ?_);(iterate 2 refine ab.one (zC Z Z) Z Z Z V ?_);refine ab.one ((zY a Z Z Z Z C)) Z Z Z V<|ab.one ((yA 0 (f:=f) GY (d:=D0) (i:=a) C Z Z Z)) Z Z Z V ?_;(iterate 2 refine ab.one (zC Z Z) Z Z Z V ?_);refine ab.one ((zY g Z Z Z Z C)) Z Z Z V<|ab.one ((yA 0 (f:=f) GY (d:=D0) (i:=g) C Z Z Z)) Z Z Z V<|ab.one ((zY g Z Z Z Z C)) Z Z Z V<|ab.nil ⟨_,Z,?_⟩;refine .loc1n 0 (xk (f:=f) GY (d:=D0) (i:=g) C D0[a]! Z Z Z) Z Z Z ?_;rintro s1 H1 ⟨rfl,rfl⟩;refine⟨(.cons _ .slnil),?_⟩;refine ab.one ((zY a Z Z Z Z C)) Z Z Z V<|ab.nil ⟨_,Z,?_⟩;refine .loc1n 0 (xk (f:=f) GY (d:=D0.setIfInBounds g D0[a]!) (i:=a) Gm D0[g]! Z Z Z) Z Z Z ?_;rintro s2 H2 ⟨rfl,rfl⟩;refine⟨(.cons _ .slnil),?_⟩;refine ab.nil<|zg ?_;exact zj ⟨_,[_],.many (.cons (.tmp Z) (.cons (.tmp Z) .nil)),Dd _,by rw [U] <;> rfl,by rw [U] <;> rfl⟩
   .obtain⟨D1,N⟩:∃ D,D=Sort.swp D0 h g:=⟨_,Z⟩;have a9:D1.size=n:=by rw [N,Sort.swp_size];exact b0
    have b4:∀ x∈D1.toList,p x:=by rw [N];exact Zk y C C
    have U:Sort.partition lt d a b pv=((Sort.partLoop lt a (h+1) (g-1) D1).1,false,Sort.swp (Sort.partLoop lt a (h+1) (g-1) D1).2 (Sort.partLoop lt a (h+1) (g-1) D1).1 a):=by
     unfold Sort.partition;simp only [<-E,a7,a3];rw [MY C,N]
    refine zB<|xv 16 [13,15] _ V (.cons _ .slnil) ?_;(iterate 2 refine ab.one (zC Z Z) Z Z Z V ?_);(iterate 2 refine ag (zC Z Z) Z Z Z ?_);(iterate 2 refine ab.one (zC Z Z) Z Z Z V ?_);refine ab.one ((zY (g) Z Z Z Z C)) Z Z Z V<|ab.one ((yA 0 (f:=f) GY (d:=D0) (i:=g) C Z Z Z)) Z Z Z V ?_;(iterate 2 refine ab.one (zC Z Z) Z Z Z V ?_);refine ab.one ((zY (h) Z Z Z Z C)) Z Z Z V<|ab.one ((yA 0 (f:=f) GY (d:=D0) (i:=h) C Z Z Z)) Z Z Z V<|ab.one ((zY (h) Z Z Z Z C)) Z Z Z V<|ab.nil ⟨_,Z,?_⟩;refine .loc1n 0 (xk (f:=f) GY (d:=D0) (i:=h) C D0[g]! Z Z Z) Z Z Z ?_;rintro s1 H1 ⟨rfl,rfl⟩;refine⟨(.cons _ .slnil),?_⟩;refine ab.one ((zY (g) Z Z Z Z C)) Z Z Z V<|ab.nil ⟨_,Z,?_⟩;refine .loc1n 0 (xk (f:=f) GY (d:=D0.setIfInBounds h D0[g]!) (i:=g) Gm D0[h]! Z Z Z) Z Z Z ?_;rintro s2 H2 ⟨rfl,rfl⟩;refine⟨(.cons _ .slnil),?_⟩;refine ab.nil ?_;rw [show (D0.setIfInBounds h D0[g]!).setIfInBounds g D0[h]! =D1 from N.symm];refine zg ?_;refine za ((h+1:Nat):Int) ?_;refine zg ?_;refine za ((g-1:Nat):Int) ?_;refine zz ?_;refine zM<|zi<|zN<|uu (fun (i j:Nat) (D:Array _)=>⟨_,[(12,ML i),(13,ML j),(0,eqS (rowV (some (bb,cc)) n)),(1,ML a),(4,wD fl caps)],[rowE (some (bb,cc)) T st n (vr f D)],[],(0,false)⟩) (fun i j D=>a+1<=i/\i<=b/\a<=j/\j<b/\D.size=n/\(∀x∈D.toList,p x)/\Sort.partLoop lt a i j D=Sort.partLoop lt a (h+1) (g-1) D1) (fun i j _=>j+1-i) (h+1) (g-1) D1 ⟨C,C,C,C,a9,b4,Z⟩ MM ?_;rintro i j D ⟨d0,c9,c8,c7,b7,A,M⟩;refine zN<|yL (K:=fun S1=>∃ m:Nat,i<=m/\m<=b/\Sort.scanUp (fun x=>lt x D[a]!) D j i=m/\aC S1 ⟨178,[(12,ML m),(13,ML j),(0,eqS (rowV (some (bb,cc)) n)),(1,ML a),(4,wD fl caps)],[rowE (some (bb,cc)) T st n (vr f D)],[],(0,false)⟩) ?_ ?_
    .refine zN<|xi (γ:=Nat) (fun c=>⟨_,[(12,ML c),(13,ML j),(0,eqS (rowV (some (bb,cc)) n)),(1,ML a),(4,wD fl caps)],[rowE (some (bb,cc)) T st n (vr f D)],[],(0,false)⟩) (fun c=>i<=c/\c<=b/\Sort.scanUp (fun x=>lt x D[a]!) D j c=Sort.scanUp (fun x=>lt x D[a]!) D j i) (fun c=>b-c) i ⟨Af _,C,Z⟩ MM ?_;rintro c ⟨b6,a8,t⟩;refine zi<|zU 16 V ?_;(iterate 2 refine zz ?_);refine ae.oneB (zZ Z Z Z Z) Z Z Z (fun v=>?_) (fun v=>?_)
     .have P:=MO v;obtain⟨z,q,k⟩:=L _ _ (xI A (i:=c) C) (xI A (i:=a) C);refine zg ?_;refine zo ((zY c Z Z Z Z C)) ?_;refine zo ((yA 0 (f:=f) GY (d:=D) (i:=c) C Z Z Z)) ?_;refine zg ?_;refine zo ((zY a Z Z Z Z C)) ?_;refine zo ((yA 0 (f:=f) GY (d:=D) (i:=a) C Z Z Z)) ?_;refine zo ((yY Z Z Z q)) ?_;refine zg ?_;refine zd ?_ ?_<;>intro I a0
      .refine zg ?_;refine za ((c+1:Nat):Int) ?_;refine zg ?_;exact⟨c+1,⟨C,C,(Num.up_go (p:=fun x=>lt x D[a]!) (i:=c) C (k.symm.trans I)).symm.trans t⟩,C,MM⟩
      .exact zK ⟨c,C,C,t.symm.trans (Num.up_stop (.inr (k.symm.trans I))),MM⟩
     .have P:=MP v;refine zg ?_;exact yM Z Z<|zK ⟨c,C,C,t.symm.trans (Num.up_stop (.inl C)),MM⟩
    .rintro S1 ⟨m,a5,c2,a6,r⟩;refine xq r<|yL (K:=fun S1=>∃ l:Nat,a<=l/\l<=j/\Sort.scanDown (fun x=> !lt x D[a]!) D m (j)=l/\aC S1 ⟨178,[(12,ML m),(13,ML l),(0,eqS (rowV (some (bb,cc)) n)),(1,ML a),(4,wD fl caps)],[rowE (some (bb,cc)) T st n (vr f D)],[],(0,false)⟩) ?_ ?_
     .refine zN<|xi (γ:=Nat) (fun e=>⟨_,[(12,ML m),(13,ML e),(0,eqS (rowV (some (bb,cc)) n)),(1,ML a),(4,wD fl caps)],[rowE (some (bb,cc)) T st n (vr f D)],[],(0,false)⟩) (fun e=>a<=e/\e<=j/\Sort.scanDown (fun x=> !lt x D[a]!) D m e=Sort.scanDown (fun x=> !lt x D[a]!) D m j) (fun e=>e) j ⟨C,Af _,Z⟩ MM ?_;rintro e ⟨b5,a4,s⟩;refine zi<|zU 17 V ?_;(iterate 2 refine zz ?_);refine ae.oneB (zZ Z Z Z Z) Z Z Z (fun u=>?_) (fun u=>?_)
      .have O:=MO u;obtain⟨z,q,k⟩:=L _ _ (xI A (i:=e) C) (xI A (i:=a) C);refine zg ?_;refine zo ((zY e Z Z Z Z C)) ?_;refine zo ((yA 0 (f:=f) GY (d:=D) (i:=e) C Z Z Z)) ?_;refine zg ?_;refine zo ((zY a Z Z Z Z C)) ?_;refine zo ((yA 0 (f:=f) GY (d:=D) (i:=a) C Z Z Z)) ?_;refine zo ((yY Z Z Z q)) ?_;refine zg ?_;refine xK ?_ ?_<;>intro H
       .refine zg ?_;refine za ((e-1:Nat):Int) ?_;refine zg ?_;exact⟨e-1,⟨C,C,(Num.down_go C C (by show (!lt _ _)=true;rw [<-k];exact H)).symm.trans s⟩,C,MM⟩
       .exact zK ⟨e,C,C,s.symm.trans (Num.down_stop (.inr (by show (!lt _ _)=false;rw [<-k];exact H))),MM⟩
      .have O:=MP u;refine zg ?_;exact yM Z Z<|zK ⟨e,C,C,s.symm.trans (Num.down_stop (.inl C)),MM⟩
     .rintro S1 ⟨l,b9,a1,a2,r⟩;refine xq r<|zi<|zg ?_;refine zd ?_ ?_<;>intro _ Y
      .rw [Num.loop_stop a6 a2 C] at M
       rw [<-M] at U
       refine zK<|xv 16 [13,15] _ V (.cons _ .slnil) ?_;(iterate 2 refine ab.one (zC Z Z) Z Z Z V ?_);(iterate 2 refine ag (zC Z Z) Z Z Z ?_);(iterate 2 refine ab.one (zC Z Z) Z Z Z V ?_);refine ab.one ((zY a Z Z Z Z C)) Z Z Z V<|ab.one ((yA 0 (f:=f) GY (d:=D) (i:=a) C Z Z Z)) Z Z Z V ?_;(iterate 2 refine ab.one (zC Z Z) Z Z Z V ?_);refine ab.one ((zY l Z Z Z Z C)) Z Z Z V<|ab.one ((yA 0 (f:=f) GY (d:=D) (i:=l) C Z Z Z)) Z Z Z V<|ab.one ((zY l Z Z Z Z C)) Z Z Z V<|ab.nil ⟨_,Z,?_⟩;refine .loc1n 0 (xk (f:=f) GY (d:=D) (i:=l) C D[a]! Z Z Z) Z Z Z ?_;rintro s1 H1 ⟨rfl,rfl⟩;refine⟨(.cons _ .slnil),?_⟩;refine ab.one ((zY a Z Z Z Z C)) Z Z Z V<|ab.nil ⟨_,Z,?_⟩;refine .loc1n 0 (xk (f:=f) GY (d:=D.setIfInBounds l D[a]!) (i:=a) Gm D[l]! Z Z Z) Z Z Z ?_;rintro s2 H2 ⟨rfl,rfl⟩;refine⟨(.cons _ .slnil),?_⟩;refine ab.nil<|zg ?_;exact zj ⟨_,[_],.many (.cons (.tmp Z) (.cons (.tmp Z) .nil)),Dd _,by rw [U] <;> rfl,by rw [U] <;> rfl⟩
      .rw [Num.loop_go a6 a2 C a5 a1 C] at M
       refine zB<|xv 16 [13,15] _ V (.cons _ .slnil) ?_;(iterate 2 refine ab.one (zC Z Z) Z Z Z V ?_);(iterate 2 refine ag (zC Z Z) Z Z Z ?_);(iterate 2 refine ab.one (zC Z Z) Z Z Z V ?_);refine ab.one ((zY l Z Z Z Z C)) Z Z Z V<|ab.one ((yA 0 (f:=f) GY (d:=D) (i:=l) C Z Z Z)) Z Z Z V ?_;(iterate 2 refine ab.one (zC Z Z) Z Z Z V ?_);refine ab.one ((zY m Z Z Z Z C)) Z Z Z V<|ab.one ((yA 0 (f:=f) GY (d:=D) (i:=m) C Z Z Z)) Z Z Z V<|ab.one ((zY m Z Z Z Z C)) Z Z Z V<|ab.nil ⟨_,Z,?_⟩;refine .loc1n 0 (xk (f:=f) GY (d:=D) (i:=m) C D[l]! Z Z Z) Z Z Z ?_;rintro s1 H1 ⟨rfl,rfl⟩;refine⟨(.cons _ .slnil),?_⟩;refine ab.one ((zY l Z Z Z Z C)) Z Z Z V<|ab.nil ⟨_,Z,?_⟩;refine .loc1n 0 (xk (f:=f) GY (d:=D.setIfInBounds m D[l]!) (i:=l) Gm D[m]! Z Z Z) Z Z Z ?_;rintro s2 H2 ⟨rfl,rfl⟩;refine⟨(.cons _ .slnil),?_⟩;refine ab.nil<|zg ?_;refine za ((m+1:Nat):Int) ?_;refine zg ?_;refine za ((l-1:Nat):Int) ?_;refine zg ?_
       exact⟨m+1,l-1,Sort.swp D m l,⟨C,C,C,C,by rw [Sort.swp_size];exact b7,Zk A C C,M⟩,C,MM⟩):S:=w ⟨b8⟩
def zyA:dh prog G (zP) 46 3 396:=kt func396
def zyB:dh prog G (zL) 48 6 464:=kt func464
def zyC:dh prog G (Vc) 282 6 477:=kt func477
def zyD:dh prog G (Uh) 200 2 323:=kt func323
def kV {S A0:Prop} (X:A0) (w:By A0->S:=by
 intro hF;refine⟨?_⟩;intro f T st d bb cc n fl caps lt p R a b pv b1 hb a4 a3;obtain⟨hd,hn,hp,H⟩:=R;obtain⟨D0,s⟩:∃ D,D=Sort.swp d a pv:=⟨_,Z⟩;have O:D0.size=n:=by rw [s,Sort.swp_size];exact hd
 have U:∀ x∈D0.toList,p x:=by rw [s];exact Zk hp C C
 have hR:(Sort.partitionEqual lt d a b pv)=Sort.partEqLoop lt a (a+1) (b-1) D0:=by rw [s];rfl
 refine wR hF.o Z Z Z<|zg ?_;refine xv 16 [13,15] _ V (.cons _ .slnil) ?_;(iterate 2 refine ab.one (zC Z Z) Z Z Z V ?_);(iterate 2 refine ag (zC Z Z) Z Z Z ?_);(iterate 2 refine ab.one (zC Z Z) Z Z Z V ?_);refine ab.one ((zY (pv) Z Z Z Z C)) Z Z Z V<|ab.one ((yA 0 (f:=f) GY (d:=d) (i:=pv) C Z Z Z)) Z Z Z V ?_;(iterate 2 refine ab.one (zC Z Z) Z Z Z V ?_);refine ab.one ((zY (a) Z Z Z Z C)) Z Z Z V<|ab.one ((yA 0 (f:=f) GY (d:=d) (i:=a) C Z Z Z)) Z Z Z V<|ab.one ((zY (a) Z Z Z Z C)) Z Z Z V<|ab.nil ⟨_,Z,?_⟩;refine .loc1n 0 (xk (f:=f) GY (d:=d) (i:=a) C d[pv]! Z Z Z) Z Z Z ?_;rintro s1 H1 ⟨rfl,rfl⟩;refine⟨(.cons _ .slnil),?_⟩;refine ab.one ((zY (pv) Z Z Z Z C)) Z Z Z V<|ab.nil ⟨_,Z,?_⟩;refine .loc1n 0 (xk (f:=f) GY (d:=d.setIfInBounds (a) d[pv]!) (i:=pv) Gm d[a]! Z Z Z) Z Z Z ?_;rintro s2 H2 ⟨rfl,rfl⟩;refine⟨(.cons _ .slnil),?_⟩;refine ab.nil ?_;rw [show (d.setIfInBounds a d[pv]!).setIfInBounds pv d[a]! =D0 from s.symm];refine zg ?_;refine za ((a+1:Nat):Int) ?_;refine zz ?_;refine za ((b-1:Nat):Int) ?_;(iterate 2 refine zz ?_);refine zM<|zi<|zN<|uu (fun (i j:Nat) (D:Array _)=>⟨_,[(11,ML i),(12,ML j),(0,eqS (rowV (some (bb,cc)) n)),(1,ML a),(4,wD fl caps)],[rowE (some (bb,cc)) T st n (vr f D)],[],(0,false)⟩) (fun i j D=>a+1<=i/\i<=b/\a<=j/\j<b/\D.size=n/\(∀x∈D.toList,p x)/\Sort.partEqLoop lt a i j D=(Sort.partitionEqual lt d a b pv)) (fun i j _=>j+1-i) (a+1) (b-1) D0 ⟨Af _,C,C,C,O,U,hR.symm⟩ MM ?_;rintro i j D ⟨a9,a8,a6,a5,W,l,r⟩;refine zN<|yL (K:=fun S1=>∃ c:Nat,i<=c/\c<=b/\Sort.scanUp (fun x=> !lt D[a]! x) D j i=c/\aC S1 ⟨90,[(11,ML c),(12,ML j),(0,eqS (rowV (some (bb,cc)) n)),(1,ML a),(4,wD fl caps)],[rowE (some (bb,cc)) T st n (vr f D)],[],(0,false)⟩) ?_ ?_
 .refine zN<|xi (γ:=Nat) (fun e=>⟨_,[(11,ML e),(12,ML j),(0,eqS (rowV (some (bb,cc)) n)),(1,ML a),(4,wD fl caps)],[rowE (some (bb,cc)) T st n (vr f D)],[],(0,false)⟩) (fun e=>i<=e/\e<=b/\Sort.scanUp (fun x=> !lt D[a]! x) D j e=Sort.scanUp (fun x=> !lt D[a]! x) D j i) (fun e=>b-e) i ⟨Af _,C,Z⟩ MM ?_;rintro e ⟨b0,a2,y⟩;refine zi<|zU 17 V ?_;(iterate 2 refine zz ?_);refine ae.oneB (zZ Z Z Z Z) Z Z Z (fun q=>?_) (fun q=>?_)
  .have G:=MO q;obtain⟨z,t,k⟩:=H _ _ (xI l (i:=a) C) (xI l (i:=e) C);refine zg ?_;refine zo ((zY a Z Z Z Z C)) ?_;refine zo ((yA 0 (f:=f) GY (d:=D) (i:=a) C Z Z Z)) ?_;refine zg ?_;refine zo ((zY e Z Z Z Z C)) ?_;refine zo ((yA 0 (f:=f) GY (d:=D) (i:=e) C Z Z Z)) ?_;refine zo ((yY Z Z Z t)) ?_;refine zg ?_;refine xK ?_ ?_<;>intro E
   .refine zg ?_;refine za ((e+1:Nat):Int) ?_;refine zg ?_;exact⟨e+1,⟨C,C,(Num.up_go (p:=fun x=> !lt D[a]! x) (i:=e) C (by show (!lt _ _)=true;rw [<-k];exact E)).symm.trans y⟩,C,MM⟩
   .exact zK ⟨e,C,C,y.symm.trans (Num.up_stop (.inr (by show (!lt _ _)=false;rw [<-k];exact E))),MM⟩
  .have G:=MP q;refine zg ?_;exact yM Z Z<|zK ⟨e,C,C,y.symm.trans (Num.up_stop (.inl C)),MM⟩
 .rintro S1 ⟨c,M,a1,N,u⟩;refine xq u<|yL (K:=fun S1=>∃ h:Nat,a<=h/\h<=j/\Sort.scanDown (fun x=>lt D[a]! x) D c j=h/\aC S1 ⟨90,[(11,ML c),(12,ML h),(0,eqS (rowV (some (bb,cc)) n)),(1,ML a),(4,wD fl caps)],[rowE (some (bb,cc)) T st n (vr f D)],[],(0,false)⟩) ?_ ?_
  .refine zN<|xi (γ:=Nat) (fun g=>⟨_,[(11,ML c),(12,ML g),(0,eqS (rowV (some (bb,cc)) n)),(1,ML a),(4,wD fl caps)],[rowE (some (bb,cc)) T st n (vr f D)],[],(0,false)⟩) (fun g=>a<=g/\g<=j/\Sort.scanDown (fun x=>lt D[a]! x) D c g=Sort.scanDown (fun x=>lt D[a]! x) D c j) (fun g=>g) j ⟨C,Af _,Z⟩ MM ?_;rintro g ⟨a7,a0,v⟩;refine zi<|zU 16 V ?_;(iterate 2 refine zz ?_);refine ae.oneB (zZ Z Z Z Z) Z Z Z (fun m=>?_) (fun m=>?_)
   .have F:=MO m;obtain⟨z,t,k⟩:=H _ _ (xI l (i:=a) C) (xI l (i:=g) C);refine zg ?_;refine zo ((zY a Z Z Z Z C)) ?_;refine zo ((yA 0 (f:=f) GY (d:=D) (i:=a) C Z Z Z)) ?_;refine zg ?_;refine zo ((zY g Z Z Z Z C)) ?_;refine zo ((yA 0 (f:=f) GY (d:=D) (i:=g) C Z Z Z)) ?_;refine zo ((yY Z Z Z t)) ?_;refine zg ?_;refine zd ?_ ?_<;>intro A Q
    .refine zg ?_;refine za ((g-1:Nat):Int) ?_;refine zg ?_;exact⟨g-1,⟨C,C,(Num.down_go (p:=fun x=>lt D[a]! x) C C (k.symm.trans A)).symm.trans v⟩,C,MM⟩
    .exact zK ⟨g,C,C,v.symm.trans (Num.down_stop (.inr (k.symm.trans A))),MM⟩
   .have F:=MP m;refine zg ?_;exact yM Z Z<|zK ⟨g,C,C,v.symm.trans (Num.down_stop (.inl C)),MM⟩
  .rintro S1 ⟨h,Y,I,L,u⟩;refine xq u<|zi<|zg ?_;refine zd ?_ ?_<;>intro _ P
   .rw [Num.eq_stop N L C] at r
    rw [<-r];refine zK<|zg ?_;exact zj ⟨_,[_],.one (.tmp Z),Dd _,Z,Z⟩
   .rw [Num.eq_go N L C M I C] at r
    refine zB<|xv 16 [13,15] _ V (.cons _ .slnil) ?_;(iterate 2 refine ab.one (zC Z Z) Z Z Z V ?_);(iterate 2 refine ag (zC Z Z) Z Z Z ?_);(iterate 2 refine ab.one (zC Z Z) Z Z Z V ?_);refine ab.one ((zY h Z Z Z Z C)) Z Z Z V<|ab.one ((yA 0 (f:=f) GY (d:=D) (i:=h) C Z Z Z)) Z Z Z V ?_;(iterate 2 refine ab.one (zC Z Z) Z Z Z V ?_);refine ab.one ((zY c Z Z Z Z C)) Z Z Z V<|ab.one ((yA 0 (f:=f) GY (d:=D) (i:=c) C Z Z Z)) Z Z Z V<|ab.one ((zY c Z Z Z Z C)) Z Z Z V<|ab.nil ⟨_,Z,?_⟩;refine .loc1n 0 (xk (f:=f) GY (d:=D) (i:=c) C D[h]! Z Z Z) Z Z Z ?_;rintro s1 H1 ⟨rfl,rfl⟩;refine⟨(.cons _ .slnil),?_⟩;refine ab.one ((zY h Z Z Z Z C)) Z Z Z V<|ab.nil ⟨_,Z,?_⟩;refine .loc1n 0 (xk (f:=f) GY (d:=D.setIfInBounds c D[h]!) (i:=h) Gm D[c]! Z Z Z) Z Z Z ?_;rintro s2 H2 ⟨rfl,rfl⟩;refine⟨(.cons _ .slnil),?_⟩;refine ab.nil<|zg ?_;refine za ((c+1:Nat):Int) ?_;refine zg ?_;refine za ((h-1:Nat):Int) ?_;refine zg ?_
    exact⟨c+1,h-1,Sort.swp D c h,⟨C,C,C,C,by rw [Sort.swp_size];exact W,Zk l C C,r⟩,C,MM⟩):S:=w ⟨X⟩
def zvR:bV prog G (zP) 46 3 395:=kV func395
def zvS:bV prog G (zL) 48 6 463:=kV func463
def zvT:bV prog G (Vc) 282 6 476:=kV func476
def zvU:bV prog G (Uh) 200 2 322:=kV func322
end Go.Proofs
namespace Num
open Go Go.Sort
section
variable {α:Type} [Inhabited α] {lt:α->α->Bool} {d:Array α} {a b i j k s i2:Nat}
def sc_go (h:i<b) (hl:lt d[i]! d[i-1]! =false):scanSorted lt d b i=scanSorted lt d b (i+1):=by rw [scanSorted,MX (by grind)]
def sc_stop (h:¬ i<b\/lt d[i]! d[i-1]! =true):scanSorted lt d b i=i:=by
 rw [scanSorted,MY];grind
def sd_stop (h:k=0\/lt d[k]! d[k-1]! =false):shiftDown lt k d=d:=by
 cases k with
 | zero=>rfl
 | succ k=>rw [shiftDown];grind
def sd_go (h0:0<k) (hl:lt d[k]! d[k-1]! =true):shiftDown lt k d=shiftDown lt (k-1) (swp d k (k-1)):=by
 obtain⟨k,rfl⟩:∃ j,k=j+1:=⟨k-1,by omega⟩
 rw [shiftDown];grind
def su_stop (h:¬ j<b\/lt d[j]! d[j-1]! =false):shiftUp lt b j d=d:=by
 rw [shiftUp];grind
def su_go (h:j<b) (hl:lt d[j]! d[j-1]! =true):shiftUp lt b j d=shiftUp lt b (j+1) (swp d j (j-1)):=by
 rw [shiftUp];grind
def pi_one (h:scanSorted lt d b i=i2) (hb:i2=b):partialIns lt a b (s+1) i d=(d,true):=by rw [partialIns];grind
def pi_two (h:scanSorted lt d b i=i2) (hb:i2≠b) (h5:b-a<50):partialIns lt a b (s+1) i d=(d,false):=by rw [partialIns];grind
def pi_go {D1 D2 D3:Array α} (h:scanSorted lt d b i=i2) (hb:i2≠b) (h5:¬ b-a<50) (h1:D1=swp d i2 (i2-1)) (h2:D2=if 2<=i2-a then shiftDown lt (i2-1) D1 else D1) (h3:D3=if 2<=b-i2 then shiftUp lt b (i2+1) D2 else D2):
 partialIns lt a b (s+1) i d=partialIns lt a b s i2 D3:=by
 rw [partialIns];grind
end
end Num
namespace Go.Proofs
open Go Go.Sv Num Tryz
section
variable (P:Program) (G:Imm) {α:Type} [Inhabited α] (f0:α->List SV) (T0:TypeId) (s0:Nat)
structure di (fid:FuncId):Prop where
 o:let f:=f0;let T:=T0;let st:=s0;∀{d:Array α} {bb cc n:Nat} {fl:FuncId} {caps:List SV} {lt:α->α->Bool} {p:α->Prop} (_:SoOk P G f p lt fl caps d n) {a b:Nat} (_:a<b) (_:b<=n),CallSpec P G fid [eqS (rowV (some (bb,cc)) n),ze .i64 (a:Nat),ze .i64 (b:Nat),wD fl caps] [rowE (some (bb,cc)) T st n (vr f d)] (fun v H'=>v=zp (Sort.partialInsertionSort lt d a b).2/\H'=[rowE (some (bb,cc)) T st n (vr f (Sort.partialInsertionSort lt d a b).1)])
end
variable {G:Imm}
def jZ {S A0:Prop} (a7:A0) (w:By A0->S:=by
 intro hF;refine⟨?_⟩;intro f T st d bb cc n fl caps lt p a5 a b b6 hb;obtain⟨hd,hn,hp,A⟩:=a5;refine wR hF.o Z Z Z<|zg ?_;refine za ((a+1:Nat):Int) ?_;refine zz ?_;refine zM<|zi<|zr<|zo ((yt Z Z).sub (zI (n:=((0:Nat):Int)) Z)) ?_;refine zg ?_;refine uu (fun (g i:Nat) (D:Array _)=>⟨_,[(9,ML i),(10,ML g),(0,eqS (rowV (some (bb,cc)) n)),(1,ML a),(2,ML b),(3,wD fl caps)],[rowE (some (bb,cc)) T st n (vr f D)],[],(0,false)⟩) (fun g i D=>g<=5/\a+1<=i/\i<=b/\D.size=n/\(∀x∈D.toList,p x)/\Sort.partialIns lt a b (5-g) i D=(Sort.partialInsertionSort lt d a b)) (fun g _ _=>5-g) 0 (a+1) d ⟨by omega,Af _,by omega,hd,hp,Z⟩ MM ?_
 rintro g i D ⟨hg,b4,b3,a6,L,e⟩;refine zi<|zg ?_;refine zd ?_ ?_<;>intro _ a4
 .obtain⟨s,hs⟩:∃ s,5-g=s+1:=⟨5-g-1,by omega⟩
  rw [hs] at e
  refine zB<|zi<|zN<|yL (K:=fun S1=>∃ c:Nat,i<=c/\c<=b/\Sort.scanSorted lt D b i=c/\aC S1 ⟨141,[(9,ML c),(10,ML g),(0,eqS (rowV (some (bb,cc)) n)),(1,ML a),(2,ML b),(3,wD fl caps)],[rowE (some (bb,cc)) T st n (vr f D)],[],(0,false)⟩) ?_ ?_
  .refine zN<|xi (γ:=Nat) (fun l=>⟨_,[(9,ML l),(10,ML g),(0,eqS (rowV (some (bb,cc)) n)),(1,ML a),(2,ML b),(3,wD fl caps)],[rowE (some (bb,cc)) T st n (vr f D)],[],(0,false)⟩) (fun l=>i<=l/\l<=b/\Sort.scanSorted lt D b l=Sort.scanSorted lt D b i) (fun l=>b-l) i ⟨Af _,by omega,Z⟩ MM ?_
   rintro l ⟨b5,b0,H⟩;refine zi<|zU 18 V ?_;(iterate 2 refine zz ?_);refine ae.oneB (zZ Z Z Z Z) Z Z Z (fun v=>?_) (fun v=>?_)
   .have R:=MO v;obtain⟨z,t,m⟩:=A _ _ (xI L (i:=l) (by omega)) (xI L (i:=l-1) (by omega));refine zg ?_;refine zo ((zY l Z Z Z Z (by omega))) ?_;refine zo ((yA 0 (f:=f) GY (d:=D) (i:=l) (by omega) Z Z Z)) ?_;refine zg ?_;refine za ((l-1:Nat):Int) ?_;refine zo ((zY (l-1) Z Z Z Z (by omega))) ?_;refine zo ((yA 0 (f:=f) GY (d:=D) (i:=l-1) (by omega) Z Z Z)) ?_;refine zo ((yY Z Z Z t)) ?_;refine zg ?_;refine xK ?_ ?_<;>intro O
    .refine zg ?_;refine za ((l+1:Nat):Int) ?_;refine zg ?_;exact⟨l+1,⟨by omega,by omega,(Num.sc_go (by omega) (by rw [<-m];simpa using O)).symm.trans H⟩,by omega,MM⟩
    .exact zK ⟨l,by omega,by omega,H.symm.trans (Num.sc_stop (.inr (by rw [<-m];simpa using O))),MM⟩
   .have R:=MP v;refine zg ?_;exact yM Z Z<|zK ⟨l,by omega,by omega,H.symm.trans (Num.sc_stop (.inl (by omega))),MM⟩
  .rintro S1 ⟨c,a9,a8,u,G⟩;refine xq G<|zi<|zg ?_;refine zd ?_ ?_<;>intro _ a3
   .rw [Num.pi_one u (by omega)] at e
    refine zg ?_;exact zj ⟨_,[_],.one (.tmp Z),Dd _,by rw [<-e],by rw [<-e]⟩
   .refine zB<|zi<|zg ?_;refine za ((b-a:Nat):Int) ?_;refine zg ?_;refine zd ?_ ?_<;>intro _ a2
    .rw [Num.pi_two u (by omega) (by omega)] at e
     refine zg ?_;exact zj ⟨_,[_],.one (.tmp Z),Dd _,by rw [<-e],by rw [<-e]⟩
    .obtain⟨D1,r⟩:∃ F,F=Sort.swp D c (c-1):=⟨_,Z⟩;have Q:D1.size=n:=by rw [r,Sort.swp_size];exact a6
     have Y:∀ x∈D1.toList,p x:=by rw [r];exact Zk L (by omega) (by omega)
     refine zB<|xv 18 [15,17] _ V (.cons _ .slnil) ?_;(iterate 2 refine ab.one (zC Z Z) Z Z Z V ?_);(iterate 2 refine ag (zC Z Z) Z Z Z ?_);refine ag (yK (z:=((c-1:Nat):Int)) Z Z Z (MW some (by omega)) (wrap_i64 (by omega) (by omega))) Z Z Z ?_;(iterate 2 refine ab.one (zC Z Z) Z Z Z V ?_);refine ab.one (yK (z:=((c-1:Nat):Int)) Z Z Z (MW some (by omega)) (wrap_i64 (by omega) (by omega))) Z Z Z V<|ab.one ((zY (c-1) Z Z Z Z (by omega))) Z Z Z V<|ab.one ((yA 0 (f:=f) GY (d:=D) (i:=c-1) (by omega) Z Z Z)) Z Z Z V ?_;(iterate 2 refine ab.one (zC Z Z) Z Z Z V ?_);refine ab.one ((zY c Z Z Z Z (by omega))) Z Z Z V<|ab.one ((yA 0 (f:=f) GY (d:=D) (i:=c) (by omega) Z Z Z)) Z Z Z V<|ab.one ((zY c Z Z Z Z (by omega))) Z Z Z V ?_
     refine ab.nil ⟨_,Z,?_⟩;refine .loc1n 0 (xk (f:=f) GY (d:=D) (i:=c) (by omega) D[c-1]! Z Z Z) Z Z Z ?_;rintro s1 H1 ⟨rfl,rfl⟩;refine⟨(.cons _ .slnil),?_⟩;refine ab.one ((zY (c-1) Z Z Z Z (by omega))) Z Z Z V ?_;refine ab.nil ⟨_,Z,?_⟩;refine .loc1n 0 (xk (f:=f) GY (d:=D.setIfInBounds c D[c-1]!) (i:=c-1) Gm D[c]! Z Z Z) Z Z Z ?_;rintro s2 H2 ⟨rfl,rfl⟩;refine⟨(.cons _ .slnil),?_⟩;refine ab.nil ?_;rw [show (D.setIfInBounds c D[c-1]!).setIfInBounds (c-1) D[c]! =D1 from r.symm];refine zM<|yL (K:=fun S1=>∃ D2:Array _,D2.size=n/\(∀x∈D2.toList,p x)/\(D2=if 2<=c-a then Sort.shiftDown lt (c-1) D1 else D1)/\aC S1 ⟨141,[(9,ML c),(10,ML g),(0,eqS (rowV (some (bb,cc)) n)),(1,ML a),(2,ML b),(3,wD fl caps)],[rowE (some (bb,cc)) T st n (vr f D2)],[],(0,false)⟩) ?_ ?_
     .refine zg ?_;refine za ((c-a:Nat):Int) ?_;refine zg ?_;refine zd ?_ ?_<;>intro _ a1
      .refine zg ?_;refine za ((c-1:Nat):Int) ?_;refine zg ?_;refine xz (fun (k:Nat) (E:Array _)=>⟨_,[(11,ML k),(9,ML c),(10,ML g),(0,eqS (rowV (some (bb,cc)) n)),(1,ML a),(2,ML b),(3,wD fl caps)],[rowE (some (bb,cc)) T st n (vr f E)],[],(0,false)⟩) (fun k E=>k<n/\E.size=n/\(∀x∈E.toList,p x)/\Sort.shiftDown lt k E=Sort.shiftDown lt (c-1) D1) (fun k _=>k) (c-1) D1 ⟨by omega,Q,Y,Z⟩ MM ?_;rintro k E ⟨hk,I,h,q⟩;refine zi<|zg ?_;refine zd ?_ ?_<;>intro _ a0
       .obtain⟨z,t,m⟩:=A _ _ (xI h (i:=k) (by omega)) (xI h (i:=k-1) (by omega));refine zB<|zi<|zN<|zi<|zU 13 V<|zg ?_;refine zo ((zY k Z Z Z Z (by omega))) ?_;refine zo ((yA 0 (f:=f) GY (d:=E) (i:=k) (by omega) Z Z Z)) ?_;refine zg ?_;refine za ((k-1:Nat):Int) ?_;refine zo ((zY (k-1) Z Z Z Z (by omega))) ?_;refine zo ((yA 0 (f:=f) GY (d:=E) (i:=k-1) (by omega) Z Z Z)) ?_;refine zo ((yY Z Z Z t)) ?_;refine zg ?_;refine xK ?_ ?_<;>intro N
        .exact zK ⟨E,I,h,by rw [MX (by omega)];exact (Num.sd_stop (.inr (by rw [<-m];simpa using N))).symm.trans q,MM⟩
        .refine zB<|vA 18 [15,17] _ V (.cons _ .slnil) ?_;(iterate 2 refine ab.one (zC Z Z) Z Z Z V ?_);(iterate 2 refine ag (zC Z Z) Z Z Z ?_);refine ag (yK (z:=((k-1:Nat):Int)) Z Z Z (MW some (by omega)) (wrap_i64 (by omega) (by omega))) Z Z Z ?_;(iterate 2 refine ab.one (zC Z Z) Z Z Z V ?_);refine ab.one (yK (z:=((k-1:Nat):Int)) Z Z Z (MW some (by omega)) (wrap_i64 (by omega) (by omega))) Z Z Z V<|ab.one ((zY (k-1) Z Z Z Z (by omega))) Z Z Z V<|ab.one ((yA 0 (f:=f) GY (d:=E) (i:=k-1) (by omega) Z Z Z)) Z Z Z V ?_;(iterate 2 refine ab.one (zC Z Z) Z Z Z V ?_);refine ab.one ((zY k Z Z Z Z (by omega))) Z Z Z V<|ab.one ((yA 0 (f:=f) GY (d:=E) (i:=k) (by omega) Z Z Z)) Z Z Z V<|ab.one ((zY k Z Z Z Z (by omega))) Z Z Z V ?_
         refine ab.nil ⟨_,Z,?_⟩;refine .loc1n 0 (xk (f:=f) GY (d:=E) (i:=k) (by omega) E[k-1]! Z Z Z) Z Z Z ?_;rintro s1 H1 ⟨rfl,rfl⟩;refine⟨(.cons _ .slnil),?_⟩;refine ab.one ((zY (k-1) Z Z Z Z (by omega))) Z Z Z V ?_;refine ab.nil ⟨_,Z,?_⟩;refine .loc1n 0 (xk (f:=f) GY (d:=E.setIfInBounds k E[k-1]!) (i:=k-1) Gm E[k]! Z Z Z) Z Z Z ?_;rintro s2 H2 ⟨rfl,rfl⟩;refine⟨(.cons _ .slnil),?_⟩;refine ab.nil<|zg ?_;refine za ((k-1:Nat):Int) ?_;refine zg ?_;exact⟨k-1,Sort.swp E k (k-1),⟨by omega,by rw [Sort.swp_size];exact I,Zk h (by omega) (by omega),(Num.sd_go (by omega) (by rw [<-m];simpa using N)).symm.trans q⟩,by omega,MM⟩
       .exact zK ⟨E,I,h,by rw [MX (by omega)];exact (Num.sd_stop (.inl (by omega))).symm.trans q,MM⟩
      .exact zB ⟨D1,Q,Y,by rw [MY (by omega)],MM⟩
     .rintro S1 ⟨D2,P,X,M,G⟩;refine xq G<|zg ?_;refine za ((b-c:Nat):Int) ?_;refine zg ?_;refine zd ?_ ?_<;>intro _ W
      .refine zg ?_;refine za ((c+1:Nat):Int) ?_;refine zg ?_;refine xz (fun (j:Nat) (E:Array _)=>⟨_,[(12,ML j),(9,ML c),(10,ML g),(0,eqS (rowV (some (bb,cc)) n)),(1,ML a),(2,ML b),(3,wD fl caps)],[rowE (some (bb,cc)) T st n (vr f E)],[],(0,false)⟩) (fun j E=>1<=j/\j<=b/\E.size=n/\(∀x∈E.toList,p x)/\Sort.shiftUp lt b j E=Sort.shiftUp lt b (c+1) D2) (fun j _=>b-j) (c+1) D2 ⟨by omega,by omega,P,X,Z⟩ MM ?_;rintro j E ⟨b2,b1,I,h,q⟩;refine zi<|zg ?_;refine zd ?_ ?_<;>intro _ U
       .obtain⟨z,t,m⟩:=A _ _ (xI h (i:=j) (by omega)) (xI h (i:=j-1) (by omega));refine zB<|zi<|zN<|zi<|zU 13 V<|zg ?_;refine zo ((zY j Z Z Z Z (by omega))) ?_;refine zo ((yA 0 (f:=f) GY (d:=E) (i:=j) (by omega) Z Z Z)) ?_;refine zg ?_;refine za ((j-1:Nat):Int) ?_;refine zo ((zY (j-1) Z Z Z Z (by omega))) ?_;refine zo ((yA 0 (f:=f) GY (d:=E) (i:=j-1) (by omega) Z Z Z)) ?_;refine zo ((yY Z Z Z t)) ?_;refine zg ?_;refine xK ?_ ?_<;>intro y
        .refine zK<|zg ?_;refine za ((g+1:Nat):Int) ?_;refine zg ?_;exact⟨g+1,c,E,⟨by omega,by omega,by omega,I,h,by rw [(C:5-(g+1)=s),<-Num.pi_go u (by omega) (by omega) r M (D3:=E) (by rw [MX (by omega)];exact (Num.su_stop (.inr (by rw [<-m];simpa using y))).symm.trans q)];exact e⟩,by omega,MM⟩
        .refine zB<|vA 18 [15,17] _ V (.cons _ .slnil) ?_;(iterate 2 refine ab.one (zC Z Z) Z Z Z V ?_);(iterate 2 refine ag (zC Z Z) Z Z Z ?_);refine ag (yK (z:=((j-1:Nat):Int)) Z Z Z (MW some (by omega)) (wrap_i64 (by omega) (by omega))) Z Z Z ?_;(iterate 2 refine ab.one (zC Z Z) Z Z Z V ?_);refine ab.one (yK (z:=((j-1:Nat):Int)) Z Z Z (MW some (by omega)) (wrap_i64 (by omega) (by omega))) Z Z Z V<|ab.one ((zY (j-1) Z Z Z Z (by omega))) Z Z Z V<|ab.one ((yA 0 (f:=f) GY (d:=E) (i:=j-1) (by omega) Z Z Z)) Z Z Z V ?_;(iterate 2 refine ab.one (zC Z Z) Z Z Z V ?_);refine ab.one ((zY j Z Z Z Z (by omega))) Z Z Z V<|ab.one ((yA 0 (f:=f) GY (d:=E) (i:=j) (by omega) Z Z Z)) Z Z Z V<|ab.one ((zY j Z Z Z Z (by omega))) Z Z Z V ?_
         refine ab.nil ⟨_,Z,?_⟩;refine .loc1n 0 (xk (f:=f) GY (d:=E) (i:=j) (by omega) E[j-1]! Z Z Z) Z Z Z ?_;rintro s1 H1 ⟨rfl,rfl⟩;refine⟨(.cons _ .slnil),?_⟩;refine ab.one ((zY (j-1) Z Z Z Z (by omega))) Z Z Z V ?_;refine ab.nil ⟨_,Z,?_⟩;refine .loc1n 0 (xk (f:=f) GY (d:=E.setIfInBounds j E[j-1]!) (i:=j-1) Gm E[j]! Z Z Z) Z Z Z ?_;rintro s2 H2 ⟨rfl,rfl⟩;refine⟨(.cons _ .slnil),?_⟩;refine ab.nil<|zg ?_;refine za ((j+1:Nat):Int) ?_;refine zg ?_;exact⟨j+1,Sort.swp E j (j-1),⟨by omega,by omega,by rw [Sort.swp_size];exact I,Zk h (by omega) (by omega),(Num.su_go (by omega) (by rw [<-m];simpa using y)).symm.trans q⟩,by omega,MM⟩
       .refine zK<|zg ?_;refine za ((g+1:Nat):Int) ?_;refine zg ?_;exact⟨g+1,c,E,⟨by omega,by omega,by omega,I,h,by rw [(C:5-(g+1)=s),<-Num.pi_go u (by omega) (by omega) r M (D3:=E) (by rw [MX (by omega)];exact (Num.su_stop (.inl (by omega))).symm.trans q)];exact e⟩,by omega,MM⟩
      .refine zg ?_;refine za ((g+1:Nat):Int) ?_;refine zg ?_;exact⟨g+1,c,D2,⟨by omega,by omega,by omega,P,X,by rw [(C:5-(g+1)=s),<-Num.pi_go u (by omega) (by omega) r M (D3:=D2) (by rw [MY (by omega)])];exact e⟩,by omega,MM⟩
 .rw [(C:5-g=0)] at e
  refine zK<|zg ?_;refine zj ?_
  exact⟨_,[_],.one (.tmp Z),Dd _,by rw [<-e];rfl,by rw [<-e];rfl⟩):S:=w ⟨a7⟩
def zAU:di prog G (zP) 46 3 394:=jZ func394
def zAV:di prog G (zL) 48 6 462:=jZ func462
def zAW:di prog G (Vc) 282 6 475:=jZ func475
def zAX:di prog G (Uh) 200 2 321:=jZ func321
end Go.Proofs
namespace Num
open Go Go.Sort
section
variable {α:Type} [Inhabited α] {lt:α->α->Bool} {d:Array α} {a b c i j s n:Nat}
def rev_go (h:i<j):reverseLoop i j d=reverseLoop (i+1) (j-1) (swp d i j):=by rw [reverseLoop,MX h]
def rev_stop (h:¬ i<j):reverseLoop i j d=d:=by rw [reverseLoop,MY h]
def mC {x y:Nat} (e:x<=a/\a<y) (c:x<=b/\b<y):(x<=(order2 lt d a b s).1/\(order2 lt d a b s).1<y)/\(x<=(order2 lt d a b s).2.1/\(order2 lt d a b s).2.1<y)/\(order2 lt d a b s).2.2<=s+1:=by
 unfold order2;grind
def med_in {x y:Nat} (h:x<=a/\a<y) (g:x<=b/\b<y) (f:x<=c/\c<y):(x<=(median lt d a b c s).1/\(median lt d a b c s).1<y)/\(median lt d a b c s).2<=s+3:=by
 have l1:=mC (lt:=lt) (d:=d) (s:=s) h g;have l2:=mC (lt:=lt) (d:=d) (s:=(order2 lt d a b s).2.2) l1.2.1 f;have e:=mC (lt:=lt) (d:=d) (s:=(order2 lt d (order2 lt d a b s).2.1 c (order2 lt d a b s).2.2).2.2) l1.1 l2.1;exact⟨e.2.1,(C:(order2 lt d (order2 lt d a b s).1 (order2 lt d (order2 lt d a b s).2.1 c (order2 lt d a b s).2.2).1 (order2 lt d (order2 lt d a b s).2.1 c (order2 lt d a b s).2.2).2.2).2.2<=s+3)⟩
end
end Num
namespace Go.Proofs
open Go Go.Sv Num Tryz
variable {op:BinOp} {x y:Int}
def zsJ:0<=qG op .u64 x y/\qG op .u64 x y<18446744073709551616:=by
 unfold qG;rw [wP];omega
abbrev gL (bs:Nat) (s:Nat):HE:=⟨some bs,3,[ze .i64 (s:Nat)],0⟩
abbrev gi (br:Nat) (z:Int):HE:=⟨some br,459,[ze .u64 z],0⟩
def zvV {a:Nat}:∃ r:Nat,r<18446744073709551616/\ze .u64 (qG op .u64 x y)=ze .u64 (r:Nat)/\[gi a (qG op .u64 x y)]=[gi a (r:Nat)]:=by
 have h:=zsJ (op:=op) (x:=x) (y:=y);refine⟨(qG op .u64 x y).toNat,C,?_,?_⟩ <;> rw [DV h.1]
section
variable (P:Program) (G:Imm) {α:Type} [Inhabited α] (f0:α->List SV) (T0:TypeId) (s0:Nat)
structure dj (fid:FuncId):Prop where
 o:let f:=f0;let T:=T0;let st:=s0;∀{d:Array α} {bb cc n:Nat} {fl:FuncId} {caps:List SV} {lt:α->α->Bool} {p:α->Prop} (_:SoOk P G f p lt fl caps d n) {bs a b s:Nat} (_:a<n) (_:b<n) (_:s<=1000),CallSpec P G fid [eqS (rowV (some (bb,cc)) n),ze .i64 (a:Nat),ze .i64 (b:Nat),G9 bs,wD fl caps] [gL bs (s),rowE (some (bb,cc)) T st n (vr f d)] (fun v H'=>v=yR [ze .i64 ((Sort.order2 lt d a b s).1:Nat),ze .i64 ((Sort.order2 lt d a b s).2.1:Nat)]/\H'=[gL bs ((Sort.order2 lt d a b s).2.2),rowE (some (bb,cc)) T st n (vr f d)])
structure ew (fid:FuncId):Prop where
 o:let f:=f0;let T:=T0;let st:=s0;∀{d:Array α} {bb cc n:Nat} {fl:FuncId} {caps:List SV} {lt:α->α->Bool} {p:α->Prop} (_:SoOk P G f p lt fl caps d n) {bs a b c s:Nat} (_:a<n) (_:b<n) (_:c<n) (_:s<=900),CallSpec P G fid [eqS (rowV (some (bb,cc)) n),ze .i64 (a:Nat),ze .i64 (b:Nat),ze .i64 (c:Nat),G9 bs,wD fl caps] [gL bs (s),rowE (some (bb,cc)) T st n (vr f d)] (fun v H'=>v=ze .i64 ((Sort.median lt d a b c s).1:Nat)/\H'=[gL bs ((Sort.median lt d a b c s).2),rowE (some (bb,cc)) T st n (vr f d)])
structure cy (fid:FuncId):Prop where
 o:let f:=f0;let T:=T0;let st:=s0;∀{d:Array α} {bb cc n:Nat} {fl:FuncId} {caps:List SV} {lt:α->α->Bool} {p:α->Prop} (_:SoOk P G f p lt fl caps d n) {bs a s:Nat} (_:1<=a) (_:a+1<n) (_:s<=900),CallSpec P G fid [eqS (rowV (some (bb,cc)) n),ze .i64 (a:Nat),G9 bs,wD fl caps] [gL bs (s),rowE (some (bb,cc)) T st n (vr f d)] (fun v H'=>v=ze .i64 ((Sort.medianAdjacent lt d a s).1:Nat)/\H'=[gL bs ((Sort.medianAdjacent lt d a s).2),rowE (some (bb,cc)) T st n (vr f d)])
structure er (fid:FuncId):Prop where
 o:let f:=f0;let T:=T0;let st:=s0;∀{d:Array α} {bb cc n:Nat} {fl:FuncId} {caps:List SV} {lt:α->α->Bool} {p:α->Prop} (_:SoOk P G f p lt fl caps d n) {a b:Nat} (_:a+12<b) (_:b<=n),CallSpec P G fid [eqS (rowV (some (bb,cc)) n),ze .i64 (a:Nat),ze .i64 (b:Nat),wD fl caps] [rowE (some (bb,cc)) T st n (vr f d)] (fun v H'=>∃ (pv:Nat) (k:Int),a<=pv/\pv<b/\0<=k/\k<=2/\v=yR [ze .i64 (pv:Nat),ze .i64 k]/\H'=[rowE (some (bb,cc)) T st n (vr f d)])
structure eo (fid:FuncId):Prop where
 o:let f:=f0;let T:=T0;let st:=s0;∀{d:Array α} {bb cc n:Nat} {fl:FuncId} {caps:List SV} {lt:α->α->Bool} {p:α->Prop} (_:SoOk P G f p lt fl caps d n) {a b:Nat} (_:a<b) (_:b<=n),CallSpec P G fid [eqS (rowV (some (bb,cc)) n),ze .i64 (a:Nat),ze .i64 (b:Nat),wD fl caps] [rowE (some (bb,cc)) T st n (vr f d)] (fun v H'=>v=yR []/\H'=[rowE (some (bb,cc)) T st n (vr f (Sort.reverseRange d a b))])
end
variable {G:Imm}
variable {S A0 A1:Prop} {x:Nat}
def zlJ (hx:x<4294967296):G0 G 253 [ze .u64 x] (MK (Lib.bitLen x:Nat)):=by
 refine Fq func253 ?_;refine Fo (fun d c=>?_) fun _ c=>?_
 .exact M1 (MO d) C
 .refine Fo ?_ ?_<;>intro _ b
  .refine Fi ((wH Z Z Z C GG).sub (zI (zwY _))) ?_;refine zA ?_;refine Fh ?_;refine Fo ?_ ?_<;>intro _ a
   .exact Ll
   .exact Lq
  .refine Fo ?_ ?_<;>intro _ a
   .exact Lm
   .exact Lx
def ziU (hx:x<4294967296):G0 G 213 [ze .u64 x] (MK (Lib.bitLen x:Nat)):=by
 refine Fq func213 ?_;refine zvL (fun a=>?_) (fun a=>?_)
 .cases a
 .refine zg ?_;refine Fk (zlJ hx) ?_;exact Hj
def zpV (hx:x<4294967296):G0 G 414 [MK x] (ze .u64 ((2^Lib.bitLen x:Nat):Int)):=by
 have b:=(bitLen_spec 32 x C C).2.2;have hp:2^Lib.bitLen x<=2^32:=Cm C b;obtain⟨w,a⟩:∃ w:Nat,w=2^Lib.bitLen x:=⟨_,Z⟩;have hq:(2:Int)^Lib.bitLen x=(w:Int):=by rw [a];simp
 rw [<-a] at hp ⊢
 refine Fq func414 ?_;refine zA ?_;refine Fk (ziU hx) ?_;refine Fi ((ZC Z Z Z C GA).sub (zI (by rw [BQ,Int.one_mul,hq,xA C C]))) ?_;exact Hj
def zlK {a:Nat} {z:Int}:CallSpec prog G 415 [G9 a] [gi a z] (fun v H1=>∃ r:Nat,r<18446744073709551616/\v=ze .u64 (r:Nat)/\H1=[gi a (r:Nat)]):=by
 refine Fq func415 ?_;refine Fw 9 ?_;refine Fi ((ZC Z Z Z C GG)) ?_;refine Fi ((vg Z B Z Z)) ?_;refine Fw 9 ?_;refine Fi ((wH Z Z Z C GG)) ?_;refine Fi ((vg Z B Z Z)) ?_;refine Fw 9 ?_;refine Fi ((ZC Z Z Z C GG)) ?_;refine Fi ((vg Z B Z Z)) ?_;exact zj ⟨_,[_],.one (.tmp Z),Dd _,zvV⟩
def jY (m:A0) (w:By A0->S:=by
 intro q;refine⟨?_⟩;intro f T st d bb cc n fl caps lt p j bs a b s x v r;obtain⟨u,t,hp,l⟩:=j;refine wR q.o Z Z Z<|zr ?_;(iterate 2 refine zz ?_);refine zM<|zi ?_;obtain⟨z,h,e⟩:=l _ _ (xI hp (i:=b) (by omega)) (xI hp (i:=a) (by omega))
 refine zU 11 (by kernel_rfl)<|zg ?_;refine zo ((zY b Z Z Z Z (by omega))) ?_;refine zo ((yA 1 (f:=f) (fun _=>rfl) (d:=d) (i:=b) (by omega) Z Z Z)) ?_;refine zg ?_;refine zo ((zY a Z Z Z Z (by omega))) ?_;refine zo ((yA 1 (f:=f) (fun _=>rfl) (d:=d) (i:=a) (by omega) Z Z Z)) ?_;refine zo ((yY Z Z Z h)) ?_;refine zg ?_;refine zd ?_ ?_<;>intro c g
 .have k:Sort.order2 lt d a b s=(b,a,s+1):=MX (e▸c);rw [k];refine zg ?_;refine za ((s+1:Nat):Int) ?_;refine zg ?_;exact zj ⟨_,[_,_],.many (.cons (.tmp Z) (.cons (.tmp Z) .nil)),Dd _,Z,Z⟩
 .have k:Sort.order2 lt d a b s=(a,b,s):=MY (by rw [<-e,c];exact Ec);rw [k];refine zg ?_;refine zj ?_
  exact⟨_,[_,_],.many (.cons (.tmp Z) (.cons (.tmp Z) .nil)),Dd _,Z,Z⟩):S:=w ⟨m⟩
def zAY:dj prog G (zP) 46 3 508:=jY func508
def zAZ:dj prog G (zL) 48 6 526:=jY func526
def zA0:dj prog G (Vc) 282 6 527:=jY func527
def zA1:dj prog G (Uh) 200 2 481:=jY func481
def jJ (v:A0) (u:A1) (w:By A0->By A1->S:=by
 intro H m;refine⟨?_⟩;intro f T st d bb cc n fl caps lt p l bs a b c s G F E I;obtain⟨t,q,hp,i⟩:=l;obtain⟨e,h⟩:∃ r,r=(Sort.order2 lt d a b s):=⟨_,Z⟩;have l1:=zsI (lt:=lt) (d:=d) (s:=s) G F;rw [<-h] at l1;obtain⟨k,g⟩:∃ r,r=Sort.order2 lt d e.2.1 c e.2.2:=⟨_,Z⟩;have l2:=zsI (lt:=lt) (d:=d) (s:=e.2.2) l1.2.1 E;rw [<-g] at l2;obtain⟨x,j⟩:∃ r,r=Sort.order2 lt d e.1 k.1 k.2.2:=⟨_,Z⟩;have D:Sort.median lt d a b c s=(x.2.1,x.2.2):=by rw [j,g,h];rfl
 rw [D];refine wR H.o Z Z Z<|zg ?_;refine ah [] [_,_] [] Z Z Z Z (m.o.o ⟨t,q,hp,i⟩ (bs:=bs) (a:=a) (b:=b) (s:=s) (by omega) (by omega) (by omega)) Z Z Z ?_
 rintro A H19 ⟨rfl,rfl⟩;rw [<-h];refine zg ?_;refine ah [] [_,_] [] Z Z Z Z (m.o.o ⟨t,q,hp,i⟩ (bs:=bs) (a:=e.2.1) (b:=c) (s:=e.2.2) (by omega) (by omega) (by omega)) Z Z Z ?_;rintro z H28 ⟨rfl,rfl⟩;rw [<-g];refine zg ?_;refine ah [] [_,_] [] Z Z Z Z (m.o.o ⟨t,q,hp,i⟩ (bs:=bs) (a:=e.1) (b:=k.1) (s:=k.2.2) (by omega) (by omega) (by omega)) Z Z Z ?_;rintro y H37 ⟨rfl,rfl⟩;rw [<-j];refine zg ?_;refine zj ?_
 exact⟨_,[_,_],.one (.tmp Z),Dd _,Z,Z⟩):S:=w ⟨v⟩ ⟨u⟩
def zA2:ew prog G (zP) 46 3 467:=jJ func467 (zAY (G:=G))
def zA3:ew prog G (zL) 48 6 507:=jJ func507 (zAZ (G:=G))
def zA4:ew prog G (Vc) 282 6 511:=jJ func511 (zA0 (G:=G))
def zA5:ew prog G (Uh) 200 2 417:=jJ func417 (zA1 (G:=G))
def kr (i:A0) (h:A1) (w:By A0->By A1->S:=by
 intro r m;refine⟨?_⟩;intro f T st d bb cc n fl caps lt p e bs a s h1 t k;obtain⟨q,l,hp,g⟩:=e;refine wR r.o Z Z Z<|zg ?_;refine za ((a-1:Nat):Int) ?_;refine zg ?_;refine za ((a+1:Nat):Int) ?_;refine zg ?_;refine ah [] [_,_] [] Z Z Z Z (m.o.o ⟨q,l,hp,g⟩ (bs:=bs) (a:=a-1) (b:=a) (c:=a+1) (s:=s) (by omega) (by omega) (by omega) k) Z Z Z ?_
 rintro j H17 ⟨rfl,rfl⟩;refine zg ?_;refine zj ?_
 exact⟨_,[_,_],.one (.tmp Z),Dd _,Z,Z⟩):S:=w ⟨i⟩ ⟨h⟩
def zyF:cy prog G (zP) 46 3 466:=kr func466 (zA2 (G:=G))
def zyG:cy prog G (zL) 48 6 506:=kr func506 (zA3 (G:=G))
def zyH:cy prog G (Vc) 282 6 510:=kr func510 (zA4 (G:=G))
def zyI:cy prog G (Uh) 200 2 416:=kr func416 (zA5 (G:=G))
def jI {A2:Prop} (U:A0) (R:A1) (Q:A2) (w:By A0->By A1->By A2->S:=by
 intro hF O hm;refine⟨?_⟩;intro f T st d bb cc n fl caps lt p N a b a2 hb;obtain⟨F,E,hp,g⟩:=N;obtain⟨m,a1⟩:∃ m,m=(b-a)/4:=⟨_,Z⟩;refine wR hF.o Z Z Z<|zg ?_;refine Do (b-a) ?_;refine Fm fun e=>?_;refine Fi ((vl Z Z Z C C (wrap_i64 C C)).sub (zI (n:=((m:Nat):Int)) C)) ?_;refine Do (m*1) ?_;refine Do (a+m*1) ?_;refine Fi ((vl Z Z Z C C (wrap_i64 C C)).sub (zI (n:=((m:Nat):Int)) C)) ?_;refine Do (m*2) ?_;refine Do (a+m*2) ?_;refine Fi ((vl Z Z Z C C (wrap_i64 C C)).sub (zI (n:=((m:Nat):Int)) C)) ?_;refine Do (m*3) ?_;refine Do (a+m*3) ?_;refine zd (fun _ M=>?_) fun h34 M=>?_
 .refine yL (K:=fun S1=>∃ i j k s:Nat,(a<=i/\i<b)/\(a<=j/\j<b)/\(a<=k/\k<b)/\s<=9/\aC S1 ⟨63,[(12,ML i),(13,ML j),(14,ML k),(11,G9 e),(0,eqS (rowV (some (bb,cc)) n)),(3,wD fl caps)],[gL e s,rowE (some (bb,cc)) T st n (vr f d)],[],(0,false)⟩) ?_ ?_
  .refine zg ?_;refine Fo ?_ ?_<;>intro _ L
   .obtain⟨t,q⟩:∃ z,z=Sort.medianAdjacent lt d (a+m*1) 0:=⟨_,Z⟩;have D:=Num.med_in (lt:=lt) (d:=d) (a:=a+m*1-1) (b:=a+m*1) (c:=a+m*1+1) (s:=0) (x:=a) (y:=b) C C C;rw [show Sort.median lt d (a+m*1-1) (a+m*1) (a+m*1+1) 0=t from q.symm] at D;refine ah [] [_,_] [] Z Z Z Z (O.o.o ⟨F,E,hp,g⟩ (bs:=e) (a:=a+m*1) (s:=0) C C C) Z Z Z ?_;rintro a0 H40 ⟨rfl,rfl⟩;rw [<-q];refine Fh ?_;obtain⟨r,l⟩:∃ z,z=Sort.medianAdjacent lt d (a+m*2) t.2:=⟨_,Z⟩;have A:=Num.med_in (lt:=lt) (d:=d) (a:=a+m*2-1) (b:=a+m*2) (c:=a+m*2+1) (s:=t.2) (x:=a) (y:=b) C C C;rw [show Sort.median lt d (a+m*2-1) (a+m*2) (a+m*2+1) t.2=r from l.symm] at A;refine ah [] [_,_] [] Z Z Z Z (O.o.o ⟨F,E,hp,g⟩ (bs:=e) (a:=a+m*2) (s:=t.2) C C C) Z Z Z ?_;rintro Y H44 ⟨rfl,rfl⟩;rw [<-l];refine Fh ?_;obtain⟨G,h⟩:∃ z,z=Sort.medianAdjacent lt d (a+m*3) r.2:=⟨_,Z⟩;have v:=Num.med_in (lt:=lt) (d:=d) (a:=a+m*3-1) (b:=a+m*3) (c:=a+m*3+1) (s:=r.2) (x:=a) (y:=b) C C C;rw [show Sort.median lt d (a+m*3-1) (a+m*3) (a+m*3+1) r.2=G from h.symm] at v;refine ah [] [_,_] [] Z Z Z Z (O.o.o ⟨F,E,hp,g⟩ (bs:=e) (a:=a+m*3) (s:=r.2) C C C) Z Z Z ?_;rintro X H48 ⟨rfl,rfl⟩;rw [<-h];refine zg ?_;exact⟨t.1,r.1,G.1,G.2,D.1,A.1,v.1,C,MM⟩
   .exact⟨a+m*1,a+m*2,a+m*3,0,C,C,C,C,MM⟩
  .rintro S1 ⟨i,j,k,s,hi,hj,hk,hs,P⟩;refine xq P ?_;have u:=Num.med_in (lt:=lt) (d:=d) (s:=s) hi hj hk;refine zg ?_;refine ah [] [_,_] [] Z Z Z Z (hm.o.o ⟨F,E,hp,g⟩ (bs:=e) (a:=i) (b:=j) (c:=k) (s:=s) C C C C) Z Z Z ?_;rintro W H54 ⟨rfl,rfl⟩;refine zg ?_;refine Fo ?_ ?_<;>intro _ I
   .exact zj ⟨_,[_],.many (.cons (.tmp Z) (.cons (.tmp Z) .nil)),B5 _ _,⟨_,1,u.1.1,u.1.2,J,J,Z,Z⟩⟩
   .refine Fo ?_ ?_<;>intro _ H
    .exact zj ⟨_,[_],.many (.cons (.tmp Z) (.cons (.tmp Z) .nil)),B5 _ _,⟨_,2,u.1.1,u.1.2,J,J,Z,Z⟩⟩
    .exact zj ⟨_,[_],.many (.cons (.tmp Z) (.cons (.tmp Z) .nil)),B5 _ _,⟨_,0,u.1.1,u.1.2,J,J,Z,Z⟩⟩
 .exact M1 (MP h34) C):S:=w ⟨U⟩ ⟨R⟩ ⟨Q⟩
def zCK:er prog G (zP) 46 3 392:=jI func392 (zyF (G:=G)) (zA2 (G:=G))
def zCL:er prog G (zL) 48 6 460:=jI func460 (zyG (G:=G)) (zA3 (G:=G))
def zCM:er prog G (Vc) 282 6 473:=jI func473 (zyH (G:=G)) (zA4 (G:=G))
def zCN:er prog G (Uh) 200 2 319:=jI func319 (zyI (G:=G)) (zA5 (G:=G))
def jH (k:A0) (w:By A0->S:=by
 intro s;refine⟨?_⟩;intro f T st d bb cc n fl caps lt p g a b r v;obtain⟨q,t,hp,l⟩:=g;refine wR s.o Z Z Z<|zg ?_;refine Do (b-1) ?_;refine Ju [0] (fun (i j:Nat) (D:Array _) z=>(8,ML i)::(9,ML j)::z) (fun i j D=>[rowE (some (bb,cc)) T st n (vr f D)]) (fun i j D=>i<=j+1/\j<n/\D.size=n/\Sort.reverseLoop i j D=Sort.reverseRange d a b) (fun i j _=>j+1-i) a (b-1) d ⟨C,C,q,Z⟩ ?_;rintro i j D ⟨m,u,h,c⟩;refine Fh ?_;refine Fo ?_ ?_<;>intro _ e
 .rw [Num.rev_go C] at c
  refine xv 16 [13,15] _ V (.cons _ .slnil)<|FB ?_;refine FC ((zY j Z Z Z Z C)) ?_;refine FC ((yA 0 (f:=f) GY (d:=D) (i:=j) C Z Z Z)) ?_;refine FC ((zY i Z Z Z Z C)) ?_;refine FC ((yA 0 (f:=f) GY (d:=D) (i:=i) C Z Z Z)) ?_;refine FC ((zY i Z Z Z Z C)) ?_;refine .loc1n 0 (xk (f:=f) GY (d:=D) (i:=i) C D[j]! Z Z Z) Z Z Z ?_;rintro s1 H1 ⟨rfl,rfl⟩;refine⟨(.cons _ .slnil),?_⟩;refine FC ((zY j Z Z Z Z C)) ?_;refine .loc1n 0 (xk (f:=f) GY (d:=D.setIfInBounds i D[j]!) (i:=j) Gm D[i]! Z Z Z) Z Z Z ?_;rintro s2 H2 ⟨rfl,rfl⟩;refine⟨(.cons _ .slnil),?_⟩;refine ab.nil<|zg ?_;refine Do (i+1) ?_;refine Do (j-1) ?_;exact⟨i+1,j-1,Sort.swp D i j,⟨C,C,by rw [Sort.swp_size];exact h,c⟩,C,MM⟩
 .rw [Num.rev_stop C] at c
  exact⟨_,[_],.none,Dd _,Z,by rw [<-c]⟩):S:=w ⟨k⟩
def zCO:eo prog G (zP) 46 3 393:=jH func393
def zCP:eo prog G (zL) 48 6 461:=jH func461
def zCQ:eo prog G (Vc) 282 6 474:=jH func474
def zCR:eo prog G (Uh) 200 2 320:=jH func320
end Go.Proofs
