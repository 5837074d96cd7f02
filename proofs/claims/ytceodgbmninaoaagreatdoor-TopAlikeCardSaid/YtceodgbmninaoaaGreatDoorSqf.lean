/- The sort of Go's library: patterns broken, the whole of it. -/
import Derived.Test.YtceodgbmninaoaaGreatDoorSqb
import Derived.Test.YtceodgbmninaoaaGreatDoorScn
import Derived.Test.YtceodgbmninaoaaGreatDoorSgf
import Derived.Test.YtceodgbmninaoaaGreatDoorSgj
import Derived.Test.YtceodgbmninaoaaGreatDoorSsd
import Derived.Test.YtceodgbmninaoaaGreatDoorSvi
set_option linter.all false
namespace Num
open Go Go.Sort
section
variable {α:Type} [Inhabited α] {lt:α->α->Bool} {d d':Array α} {a b n:Nat}
def permIn_whole {p:α->Prop} (e:b<=d.size) (h:PermIn a b d d') (hp:∀ x∈d.toList,p x):∀ x∈d'.toList,p x:=by
 have c:=permIn_mono d d' a b 0 d.size (BL _) e (Af _) h;have h1:=c.2.2;rw [Array.extract_size] at h1
 rw [show d'.extract 0 d.size=d' by rw [<-c.1,Array.extract_size]] at h1
 grind
def le_pow_len {x:Nat} (h:x<4294967296) (a:0<x):2^Lib.bitLen x<=2*x/\0<2^Lib.bitLen x:=by
 have h1:=(Go.Proofs.bitLen_spec 32 x (by omega) (by omega)).2.1 (by omega);refine⟨?_,CS C⟩;rw [(C:Lib.bitLen x=(Lib.bitLen x-1)+1),Ch];omega
def below_perm (c:b<=d.size) (e:Below lt a b d) (h:PermIn a b d d'):Below lt a b d':=e.perm c h
end
end Num
namespace Go.Proofs
open Go Go.Sv Num Tryz
structure PdS where
 k:Int
 wb:Bool
 wp:Bool
structure PdI {α:Type} [Inhabited α] (lt:α->α->Bool) (p:α->Prop) (d:Array α) (n a b:Nat) (x y:Nat) (D:Array α) (s:PdS):Prop where
 ax:a<=x
 xy:x<=y
 yb:y<=b
 sz:D.size=n
 all:∀ x∈D.toList,p x
 k0:0<=s.k
 k1:s.k<=1000
 bel:Sort.Below lt x y D
 fin:∀ R,Sort.PermIn x y D R->Sort.SortedIn lt x y R->Sort.PermIn a b d R/\Sort.SortedIn lt a b R
section
variable (P:Program) (G:Imm) {α:Type} [Inhabited α] (f0:α->List SV) (T0:TypeId) (s0:Nat)
structure eD (fid:FuncId):Prop where
 o:let f:=f0;let T:=T0;let st:=s0;∀{d:Array α} {bb cc n:Nat} {fl:FuncId} {caps:List SV} {lt:α->α->Bool} {p:α->Prop} (_:SoOk P G f p lt fl caps d n) {a b:Nat} (_:a+12<b) (_:b<=n),CallSpec P G fid [eqS (rowV (some (bb,cc)) n),ze .i64 (a:Nat),ze .i64 (b:Nat),wD fl caps] [rowE (some (bb,cc)) T st n (vr f d)] (fun v H'=>v=yR []/\∃ d',Sort.PermIn a b d d'/\H'=[rowE (some (bb,cc)) T st n (vr f d')])
structure eu (fid:FuncId):Prop where
 o:let f:=f0;let T:=T0;let st:=s0;∀{d:Array α} {bb cc n:Nat} {fl:FuncId} {caps:List SV} {lt:α->α->Bool} {p:α->Prop} (_:SoOk P G f p lt fl caps d n) {a b:Nat} {k:Int} (_:Sort.SWO lt) (_:a<=b) (_:b<=n) (_:0<=k) (_:k<=1000) (_:Sort.Below lt a b d),CallSpec P G fid [eqS (rowV (some (bb,cc)) n),ze .i64 (a:Nat),ze .i64 (b:Nat),ze .i64 k,wD fl caps] [rowE (some (bb,cc)) T st n (vr f d)] (fun v H'=>v=yR []/\∃ d',Sort.PermIn a b d d'/\Sort.SortedIn lt a b d'/\H'=[rowE (some (bb,cc)) T st n (vr f d')])
structure bB (fid:FuncId):Prop where
 o:let f:=f0;let T:=T0;let st:=s0;∀{d:Array α} {bb cc n:Nat} {fl:FuncId} {caps:List SV} {lt:α->α->Bool} {p:α->Prop} (_:SoOk P G f p lt fl caps d n) (_:Sort.SWO lt) (_:zX (some (bb,cc)) n),CallSpec P G fid [eqS (rowV (some (bb,cc)) n),wD fl caps] [rowE (some (bb,cc)) T st n (vr f d)] (fun v H'=>v=yR []/\∃ d',Sort.PermIn 0 n d d'/\Sort.SortedIn lt 0 n d'/\H'=[rowE (some (bb,cc)) T st n (vr f d')])
end
variable {G:Imm}
variable {S A0 A1 A2:Prop}
def gX:∀ x:Nat,x<4294967296->G0 G 213 [ze .u64 x] (MK (Lib.bitLen x:Nat)):=fun _ h=>ziU h
def kp:∀ (a:Nat) (z:Int),CallSpec prog G 415 [G9 a] [gi a z] (fun v H1=>∃ r:Nat,r<18446744073709551616/\v=ze .u64 (r:Nat)/\H1=[gi a (r:Nat)]):=fun _ _=>zlK
def jX:∀ x:Nat,x<4294967296->G0 G 414 [MK x] (ze .u64 ((2^Lib.bitLen x:Nat):Int)):=fun _ h=>zpV h
def jG (y:A0) (u:A1) (t:A2) (w:By A0->By A1->By A2->S:=by
 intro P hx G;refine⟨?_⟩;intro f T st d bb cc n fl caps lt p l a b O W;obtain⟨N,U,hp,H⟩:=l;obtain⟨M,A⟩:∃ M,M=2^Lib.bitLen (b-a):=⟨_,Z⟩;have q:=Num.le_pow_len (x:=b-a) C C;rw [<-A] at q
 refine wR P.o Z Z Z<|zg ?_;refine Do (b-a) ?_;refine Fo (fun _ k=>?_) fun h17 k=>?_
 .refine zA ?_;refine Fm fun g=>?_;refine Fi ((AX (ze .u64 ((M:Nat):Int))<|A▸zb Z Z (G.o (b-a) C))) ?_;refine Fi ((vl Z Z Z C C (wrap_i64 C C)).sub (zI (n:=(((b-a)/4:Nat):Int)) C)) ?_;refine Do ((b-a)/4*2) ?_;refine Do (a+(b-a)/4*2) ?_;refine Do (a+(b-a)/4*2-1) ?_;refine Ju [0,1,8,9,10] (fun (i:Nat) (z:Int) (D:Array _) zz1=>(11,ML i)::zz1) (fun i z D=>[gi g (z),rowE (some (bb,cc)) T st n (vr f D)]) (fun i z D=>a<=i/\i<=a+(b-a)/4*2+2/\D.size=n/\Sort.PermIn a b d D) (fun i _ _=>a+(b-a)/4*2+2-i) (a+(b-a)/4*2-1) _ d ⟨C,C,N,Sort.permIn_refl _ _ _⟩ ?_;rintro i z D ⟨L,I,s,e⟩;refine Fh ?_;refine Fi ((vl Z Z Z C C (wrap_i64 C C)).sub (zI (n:=(((b-a)/4:Nat):Int)) C)) ?_;refine Do ((b-a)/4*2) ?_;refine Do (a+(b-a)/4*2) ?_;refine Do (a+(b-a)/4*2+1) ?_;refine Fo ?_ ?_<;>intro _ j
  .refine ah [] [_] [_] Z Z Z Z (hx.o g z) Z Z Z ?_;rintro E H38 ⟨r,R,rfl,rfl⟩;obtain⟨w,c⟩:∃ w,w=r &&& (M-1):=⟨_,Z⟩;have F:w<=M-1:=c▸Nat.and_le_right;refine zz ?_;refine Do (M-1) ?_;refine Fi ((vg Z B Z Z).sub (zI (n:=(w:Int)) ((Vg C C).trans (by rw [c])))) ?_;refine zo (yO Z Z (wrap_i64 C C)) ?_;refine zz ?_;refine zM<|yL (K:=fun S1=>∃ v:Nat,a+v<b/\aC S1 ⟨67,[(12,ML v),(11,ML i),(0,eqS (rowV (some (bb,cc)) n)),(1,ML a),(8,ML (b-a)),(9,G9 g),(10,ze .u64 ((M:Nat):Int))],[gi g ((r:Nat)),rowE (some (bb,cc)) T st n (vr f D)],[],(0,false)⟩) ?_ ?_
   .refine zg ?_;refine Fo ?_ ?_<;>intro _ h
    .refine Do (w-(b-a)) ?_;exact⟨w-(b-a),C,MM⟩
    .exact⟨w,C,MM⟩
   .rintro S1 ⟨v,Q,m⟩;refine xq m<|vA 20 [17,19] _ V (.cons_cons _ (.cons _ .slnil))<|FB ?_;refine FD (yK (z:=((a+v:Nat):Int)) Z Z Z (MW some C) (wrap_i64 C C)) ?_;refine FC (yK (z:=((a+v:Nat):Int)) Z Z Z (MW some C) (wrap_i64 C C)) ?_;refine FC ((zY (a+v) Z Z Z Z C)) ?_;refine FC ((yA 1 (f:=f) GY (d:=D) (i:=a+v) C Z Z Z)) ?_;refine FC ((zY i Z Z Z Z C)) ?_;refine FC ((yA 1 (f:=f) GY (d:=D) (i:=i) C Z Z Z)) ?_;refine FC ((zY i Z Z Z Z C)) ?_;refine .loc1n 1 (xk (f:=f) GY (d:=D) (i:=i) C D[a+v]! Z Z Z) Z Z Z ?_;rintro s1 H1 ⟨rfl,rfl⟩;refine⟨(.cons_cons _ (.cons _ .slnil)),?_⟩;refine FC ((zY (a+v) Z Z Z Z C)) ?_;refine .loc1n 1 (xk (f:=f) GY (d:=D.setIfInBounds i D[a+v]!) (i:=a+v) Gm D[i]! Z Z Z) Z Z Z ?_;rintro s2 H2 ⟨rfl,rfl⟩;refine⟨(.cons_cons _ (.cons _ .slnil)),?_⟩;refine ab.nil<|zg ?_;refine Do (i+1) ?_;exact⟨i+1,r,Sort.swp D i (a+v),⟨C,C,by rw [Sort.swp_size];exact s,Sort.permIn_trans _ _ _ _ _ e (Sort.swp_permIn _ _ _ _ _ C C C C C)⟩,C,MM⟩
  .exact⟨_,[_],.none,B5 _ _,Z,⟨_,e,Z⟩⟩
 .exact M1 (MP h17) C):S:=w ⟨y⟩ ⟨u⟩ ⟨t⟩
def zCS:eD prog G (zP) 46 3 391:=jG func391 (kp (G:=G)) (jX (G:=G))
def zCT:eD prog G (zL) 48 6 459:=jG func459 (kp (G:=G)) (jX (G:=G))
def zCU:eD prog G (Vc) 282 6 472:=jG func472 (kp (G:=G)) (jX (G:=G))
def zCV:eD prog G (Uh) 200 2 318:=jG func318 (kp (G:=G)) (jX (G:=G))
def jN {A3 A4 A5 A6 A7 A8:Prop} (e5:A0) (e4:A1) (e3:A2) (e2:A3) (e1:A4) (e0:A5) (d9:A6) (d8:A7) (d7:A8) (w:By A0->By A1->By A2->By A3->By A4->By A5->By A6->By A7->By A8->S:=by
 intro hF b2 W b3 a6 a5 a7 a8 a9;refine⟨?_⟩;intro f T st d bb cc n fl caps lt p c1 a b k m d2 hb c6 c5 hB;obtain⟨N,hN⟩:∃ N,b-a<N:=⟨_,Nat.lt_succ_self _⟩
 induction N generalizing d a b k with
 | zero=>exact M1 hN (Nat.not_lt_zero _)
 | succ N ih=>?_
 obtain⟨hd,M,hp,j⟩:=c1;refine wR hF.o Z Z Z<|zg ?_;refine jm [0,4] (fun (x y:Nat) (D:Array _) (s:PdS) z=>(10,zp s.wb)::(11,zp s.wp)::(1,ML x)::(2,ML y)::(3,MK s.k)::z) (fun x y D s=>[rowE (some (bb,cc)) T st n (vr f D)]) (fun x y D s=>PdI lt p d n a b x y D s) (fun x y _ _=>y-x) a b d ⟨k,true,true⟩ ⟨Af _,d2,Af _,hd,hp,c6,c5,hB,fun _ h1 H=>⟨h1,H⟩⟩ ?_;intro x y D s hI;have d1:=hI.ax;have Q:=hI.xy;have a4:=hI.yb;have c4:=hI.k0;have c3:=hI.k1;have g1:=hI.sz;refine zg ?_;refine Do (y-x) ?_;refine Fo ?_ ?_<;>intro _ b7
 .have hR:=Sort.insertionSort_holds m D x y Q C;refine ah [] [_] [] Z Z Z Z (b2.o.o ⟨hI.sz,M,hI.all,j⟩ (a:=x) (b:=y) Q C) Z Z Z ?_;rintro f7 H30 ⟨rfl,rfl⟩;exact II
 .refine FP ?_ ?_<;>intro _ b6
  .have hR:=Sort.heapSort_holds m D x y Q C;refine ah [] [_] [] Z Z Z Z (W.o.o ⟨hI.sz,M,hI.all,j⟩ (a:=x) (b:=y) C C) Z Z Z ?_;rintro f6 H37 ⟨rfl,rfl⟩;exact II
  .refine zB<|yL (K:=fun S1=>∃ (k1:Int) (D1:Array _),0<=k1/\k1<=1000/\Sort.PermIn x y D D1/\aC S1 ⟨148,[(10,zp s.wb),(11,zp s.wp),(0,eqS (rowV (some (bb,cc)) n)),(1,ML x),(2,ML y),(3,MK k1),(4,wD fl caps),(12,ML (y-x))],[rowE (some (bb,cc)) T st n (vr f D1)],[],(0,false)⟩) ?_ ?_
   .refine zg ?_;refine Fp ?_ ?_<;>intro e7
    .refine ah [] [_] [] Z Z Z Z (b3.o.o ⟨hI.sz,M,hI.all,j⟩ (a:=x) (b:=y) C C) Z Z Z ?_;rintro f5 H44 ⟨rfl,Db,d0,rfl⟩;refine zg ?_;refine Fj (s.k-1) ?_;exact⟨s.k-1,_,C,C,d0,MM⟩
    .exact⟨s.k,D,c4,c3,Sort.permIn_refl _ _ _,MM⟩
   .rintro S1 ⟨k1,D1,t,r,E,l⟩;refine xq l<|zg ?_;refine ah [] [_] [] Z Z Z Z (a6.o.o ⟨by rw [E.1];exact hI.sz,M,Num.permIn_whole GI E hI.all,j⟩ (a:=x) (b:=y) C C) Z Z Z ?_
    rintro f4 H52 ⟨pv,hq,e,c,g0,f9,rfl,rfl⟩;(iterate 5 refine zz ?_);refine zM<|yL (K:=fun S1=>∃ (pv:Nat) (hq:Int) (D2:Array _),x<=pv/\pv<y/\Sort.PermIn x y D D2/\aC S1 ⟨148,[(13,ML pv),(14,MK hq),(10,zp s.wb),(11,zp s.wp),(0,eqS (rowV (some (bb,cc)) n)),(1,ML x),(2,ML y),(3,MK k1),(4,wD fl caps),(12,ML (y-x))],[rowE (some (bb,cc)) T st n (vr f D2)],[],(0,false)⟩) ?_ ?_
    .refine zg ?_;refine Fo ?_ ?_<;>intro _ b5
     .refine ah [] [_] [] Z Z Z Z (a5.o.o ⟨by rw [E.1];exact hI.sz,M,Num.permIn_whole GI E hI.all,j⟩ (a:=x) (b:=y) C C) Z Z Z ?_;rintro f3 H61 ⟨rfl,rfl⟩;refine zg ?_;refine Do (y-1) ?_;refine Do (pv-x) ?_;refine Do (y-1-(pv-x)) ?_;exact⟨y-1-(pv-x),1,_,C,C,Sort.permIn_trans _ _ _ _ _ E (Sort.reverseRange_holds _ _ _ C (by rw [E.1];omega)),an (aa Z (aa Z (aa Z (aa Z (aa Z (aa Z (aa Z (aa Z (aa Z (aa Z (trivial))))))))))) Z⟩
     .exact⟨pv,hq,D1,e,c,E,MM⟩
    .rintro S1 ⟨pv,hq,D2,e,c,v,l⟩;refine xq l<|yL (K:=fun S1=>∃ D3:Array _,Sort.PermIn x y D D3/\aC S1 ⟨148,[(13,ML pv),(10,zp s.wb),(11,zp s.wp),(0,eqS (rowV (some (bb,cc)) n)),(1,ML x),(2,ML y),(3,MK k1),(4,wD fl caps),(12,ML (y-x))],[rowE (some (bb,cc)) T st n (vr f D3)],[],(0,false)⟩) ?_ ?_
     .refine yL (K:=fun S1=>∃ q:Bool,aC S1 ⟨148,[(75,zp q),(13,ML pv),(10,zp s.wb),(11,zp s.wp),(0,eqS (rowV (some (bb,cc)) n)),(1,ML x),(2,ML y),(3,MK k1),(4,wD fl caps),(12,ML (y-x))],[rowE (some (bb,cc)) T st n (vr f D2)],[],(0,false)⟩) ?_ ?_
      .refine zJ<|FJ ?_ ?_<;>intro a2
       .refine zz ?_;refine zz ?_;refine FF ?_ ?_<;>intro a1
        .exact⟨_,MM⟩
        .exact⟨_,MM⟩
       .refine zg ?_;exact⟨_,MM⟩
      .rintro S1 ⟨q,l⟩;refine xq l<|Fp ?_ ?_<;>intro e6
       .have hR:=Sort.partialInsertionSort_holds m D2 x y C (by rw [v.1];omega) (Num.below_perm GI hI.bel v);refine ah [] [_] [] Z Z Z Z (a7.o.o ⟨by rw [v.1];exact hI.sz,M,Num.permIn_whole GI v hI.all,j⟩ (a:=x) (b:=y) C C) Z Z Z ?_;rintro f2 H80 ⟨rfl,rfl⟩;refine zM<|Fp ?_ ?_<;>intro a0
        .exact zj ⟨_,[_],.none,Dd _,Z,⟨_,(hI.fin _ (Sort.permIn_trans _ _ _ _ _ v hR.1) (hR.2 a0)).1,(hI.fin _ (Sort.permIn_trans _ _ _ _ _ v hR.1) (hR.2 a0)).2,Z⟩⟩
        .exact⟨_,Sort.permIn_trans _ _ _ _ _ v hR.1,MM⟩
       .exact⟨D2,v,MM⟩
     .rintro S1 ⟨D3,u,l⟩;refine xq l ?_;have F:SoOk _ _ f p lt fl caps D3 n:=⟨by rw [u.1];exact hI.sz,M,Num.permIn_whole GI u hI.all,j⟩
      have f8:=F.size;have I:=F.all;refine zi<|yL (K:=fun S1=>∃ q:Bool,(q=true->0<x/\lt D3[x-1]! D3[pv]! =false)/\aC S1 ⟨148,[(97,zp q),(13,ML pv),(10,zp s.wb),(11,zp s.wp),(0,eqS (rowV (some (bb,cc)) n)),(1,ML x),(2,ML y),(3,MK k1),(4,wD fl caps),(12,ML (y-x))],[rowE (some (bb,cc)) T st n (vr f D3)],[],(0,false)⟩) ?_ ?_
      .refine wW 17 V<|zz ?_;refine FE ?_ ?_<;>intro _ P
       .obtain⟨z,b9,b8⟩:=j _ _ (xI I (i:=x-1) C) (xI I (i:=pv) C);refine Do (x-1) ?_;refine Fi ((zY (x-1) Z Z Z Z C)) ?_;refine Fi ((yA 0 (f:=f) GY (d:=D3) (i:=x-1) C Z Z Z)) ?_;refine Fi ((zY pv Z Z Z Z C)) ?_;refine Fi ((yA 0 (f:=f) GY (d:=D3) (i:=pv) C Z Z Z)) ?_;refine Fi ((yY Z Z Z b9)) ?_;exact⟨_,fun h=>⟨C,by rw [<-b8];simpa using h⟩,an (aa Z (aa Z (aa Z (aa Z (aa Z (aa Z (aa Z (aa Z (aa Z (aa Z (trivial))))))))))) Z⟩
       .exact⟨_,fun h=>by simp at h,an (aa Z (aa Z (aa Z (aa Z (aa Z (aa Z (aa Z (aa Z (aa Z (aa Z (trivial))))))))))) Z⟩
      .rintro S1 ⟨q,hq,l⟩;refine xq l<|Fp ?_ ?_<;>intro b4
       .obtain⟨c0,b0⟩:=hq b4;obtain⟨U,b1,c2,d6,O⟩:=Sort.round_eq m (Sort.partitionEqual_holds lt) (mid:=(Sort.partitionEqual lt D3 x y pv).1) (d4:=(Sort.partitionEqual lt D3 x y pv).2) c0 e c C (Num.below_perm GI hI.bel u) b0 Z;refine ah [] [_] [] Z Z Z Z (a8.o.o F (a:=x) (b:=y) (pv:=pv) C C e c) Z Z Z ?_;rintro f1 H103 ⟨rfl,rfl⟩;refine Fh ?_;exact⟨_,y,_,⟨k1,s.wb,s.wp⟩,⟨C,b1,a4,C,Num.permIn_whole C (Sort.partitionEqual_holds lt m D3 x y pv e c C (fun i hi c7=>(Num.below_perm GI hI.bel u).elim (fun h0=>M1 h0 C) fun hB=>m.ntrans _ _ _ (hB i hi c7) b0)).2.2.1 I,t,r,d6,fun R h1 H=>hI.fin R (Sort.permIn_trans _ _ _ _ _ u (O R h1 H).1) (O R h1 H).2⟩,C,an (aa Z (aa Z (aa Z (aa Z (aa Z (aa Z (aa Z (trivial)))))))) Z⟩
       .obtain⟨U,b1,c2,d5,d3,c9,c8⟩:=Sort.round_part m (Sort.partition_holds lt) (mid:=(Sort.partition lt D3 x y pv).1) (ap:=(Sort.partition lt D3 x y pv).2.1) (d4:=(Sort.partition lt D3 x y pv).2.2) e c C (Num.below_perm GI hI.bel u) Z;have g:SoOk _ _ f p lt fl caps (Sort.partition lt D3 x y pv).2.2 n:=⟨C,M,Num.permIn_whole C (Sort.partition_holds lt m D3 x y pv e c C).2.2.1 I,j⟩;refine ah [] [_] [] Z Z Z Z (a9.o.o F (a:=x) (b:=y) (pv:=pv) C C e c) Z Z Z ?_;rintro f0 H111 ⟨rfl,rfl⟩;generalize (Sort.partition lt D3 x y pv).1=mid,(Sort.partition lt D3 x y pv).2.1=ap,(Sort.partition lt D3 x y pv).2.2=D4 at *
        refine zg ?_;refine Do (mid-x) ?_;refine Do (y-mid) ?_;refine Fi ((vl Z Z Z C C (wrap_i64 C C)).sub (zI (n:=(((y-x)/8:Nat):Int)) C)) ?_;refine Fo ?_ ?_<;>intro _ a3
        .refine ah [] [_] [] Z Z Z Z (ih (d:=D4) (a:=x) (b:=mid) (k:=k1) g U C t r d5 C) Z Z Z ?_;rintro e9 H134 ⟨rfl,L,A,Y,rfl⟩;obtain⟨X,G⟩:=c9 L A Y;refine zg ?_;refine Do (mid+1) ?_;exact⟨mid+1,y,L,⟨k1,_,_⟩,⟨C,C,a4,by rw [A.1];exact g.size,Num.permIn_whole (by rw [g.size];omega) A g.all,t,r,X,fun R h1 H=>hI.fin R (Sort.permIn_trans _ _ _ _ _ u (G R h1 H).1) (G R h1 H).2⟩,C,an (aa Z (aa Z (aa Z (aa Z (aa Z (aa Z (aa Z (trivial)))))))) Z⟩
        .refine Do (mid+1) ?_;refine ah [] [_] [] Z Z Z Z (ih (d:=D4) (a:=mid+1) (b:=y) (k:=k1) g C C t r d3 C) Z Z Z ?_;rintro e8 H146 ⟨rfl,L,A,Y,rfl⟩;obtain⟨X,G⟩:=c8 L A Y;refine zg ?_
         exact⟨x,mid,L,⟨k1,_,_⟩,⟨d1,U,C,by rw [A.1];exact g.size,Num.permIn_whole (by rw [g.size];omega) A g.all,t,r,X,fun R h1 H=>hI.fin R (Sort.permIn_trans _ _ _ _ _ u (G R h1 H).1) (G R h1 H).2⟩,C,an (aa Z (aa Z (aa Z (aa Z (aa Z (aa Z (aa Z (trivial)))))))) Z⟩):S:=w ⟨e5⟩ ⟨e4⟩ ⟨e3⟩ ⟨e2⟩ ⟨e1⟩ ⟨e0⟩ ⟨d9⟩ ⟨d8⟩ ⟨d7⟩
def zCW:eu prog G (zP) 46 3 295:=jN func295 (zCG (G:=G)) (zAQ (G:=G)) (zCS (G:=G)) (zCK (G:=G)) (zCO (G:=G)) (zAU (G:=G)) (zvR (G:=G)) (zyA (G:=G))
def zCX:eu prog G (zL) 48 6 388:=jN func388 (zCH (G:=G)) (zAR (G:=G)) (zCT (G:=G)) (zCL (G:=G)) (zCP (G:=G)) (zAV (G:=G)) (zvS (G:=G)) (zyB (G:=G))
def zCY:eu prog G (Vc) 282 6 406:=jN func406 (zCI (G:=G)) (zAS (G:=G)) (zCU (G:=G)) (zCM (G:=G)) (zCQ (G:=G)) (zAW (G:=G)) (zvT (G:=G)) (zyC (G:=G))
def zCZ:eu prog G (Uh) 200 2 212:=jN func212 (zCJ (G:=G)) (zAT (G:=G)) (zCV (G:=G)) (zCN (G:=G)) (zCR (G:=G)) (zAX (G:=G)) (zvU (G:=G)) (zyD (G:=G))
def jW (q:A0) (m:A1) (l:A2) (w:By A0->By A1->By A2->S:=by
 intro v t hq;refine⟨?_⟩;intro f T st d bb cc n fl caps lt p e c g;obtain⟨u,s,hp,h⟩:=e;have x:=(bitLen_spec 32 n (by omega) (by omega)).2.2;refine wR v.o Z Z Z<|zg ?_;refine zo (xd Z Z g) ?_;refine zg ?_;refine zo ((yO (z:=((n:Nat):Int)) Z Z (xA (by omega) (by omega)))) ?_;refine zo (zb Z Z (t.o n (by omega))) ?_;refine zz ?_;refine ah [] [_] [] Z Z Z Z (hq.o.o ⟨u,s,hp,h⟩ (a:=0) (b:=n) (k:=(Lib.bitLen n:Nat)) c (BL _) (Af _) (by omega) (by omega) (.inl Z)) Z Z Z ?_
 rintro r H13 ⟨rfl,D,j,i,rfl⟩;apply zM
 exact⟨_,[_],.none,Dd _,Z,⟨_,j,i,Z⟩⟩):S:=w ⟨q⟩ ⟨m⟩ ⟨l⟩
def zxd:bB prog G (zP) 46 3 194:=jW func194 (gX (G:=G)) (zCW (G:=G))
def zxe:bB prog G (zL) 48 6 293:=jW func293 (gX (G:=G)) (zCX (G:=G))
def sortL:bB prog G (Vc) 282 6 304:=jW func304 (gX (G:=G)) (zCY (G:=G))
def zA6:bB prog G (Uh) 200 2 126:=jW func126 (gX (G:=G)) (zCZ (G:=G))
structure pp (P:Program) (G:Imm) {α:Type} [DecidableEq α] [Inhabited α] (f:α->List SV) (p:α->Prop) (fl:FuncId) (caps:List SV) (d:Array α) (n bb cc:Nat):Prop where
 size:d.size=n
 le:n<=200000000
 all:∀ x∈d.toList,p x
 eq:gA P G f p fl caps
 row:zX (some (bb,cc)) n
section
variable (P:Program) (G:Imm) {α:Type} [Inhabited α] [DecidableEq α] (f0:α->List SV) (T0:TypeId) (s0:Nat)
structure bM (fid:FuncId):Prop where
 o:let f:=f0;let T:=T0;let st:=s0;∀{d:Array α} {bb cc n:Nat} {fl:FuncId} {caps:List SV} {p:α->Prop} (_:pp P G f p fl caps d n bb cc),CallSpec P G fid [eqS (rowV (some (bb,cc)) n),wD fl caps] [rowE (some (bb,cc)) T st n (vr f d)] (fun v H'=>v=eqS (rowV (some (bb,cc)) (dd d.toList).length)/\H'=[rowE (some (bb,cc)) T st (dd d.toList).length ((dd d.toList).flatMap f)])
end
variable {G:Imm}
def lZ {S A0:Prop} (F:A0) (w:By A0->S:=by
 intro N;refine⟨?_⟩;intro f T st d bb cc n fl caps p A;obtain⟨G,O,hp,l,hq⟩:=A;have hll:d.toList.length=n:=by rw [BH];exact G
 refine wR N.o Z Z Z<|zr<|zz ?_;refine zM<|zi<|zg ?_;refine Fi (xd Z Z hq) ?_;refine Fo ?_ ?_<;>intro _ s
 .have hdl:dd d.toList=d.toList:=zsD (by omega);exact I9
 .refine xi (γ:=Nat) (fun k=>⟨_,[(5,ML k),(0,eqS (rowV (some (bb,cc)) n)),(1,wD fl caps)],[rowE (some (bb,cc)) T st n (vr f d)],[],(0,false)⟩) (fun k=>1<=k/\k<=n/\dd (d.toList.take k)=d.toList.take k) (fun k=>n-k) 1 ⟨Af _,by omega,zsD Gz⟩ (an (aa Z (aa Z (aa Z trivial))) Z) ?_;rintro k ⟨K,H,e⟩;refine zi<|zg ?_;refine Fi (xd Z Z hq) ?_;refine Fo ?_ ?_<;>intro _ r
  .have a:=nk (d:=d) (i:=k) (by omega) (by omega);have t:d.toList.take (k+1)=d.toList.take k++[d[k]!]:=by rw [Cz,qd (by omega)];rfl
   refine Fw 11 ?_;refine Fi ((zY k Z Z Z Z (by omega))) ?_;refine Fi ((yA 0 (f:=f) GY (d:=d) (i:=k) (by omega) Z Z Z)) ?_;refine Do (k-1) ?_;refine Fi ((zY (k-1) Z Z Z Z (by omega))) ?_;refine Fi ((yA 0 (f:=f) GY (d:=d) (i:=k-1) (by omega) Z Z Z)) ?_;refine Fi ((yY Z Z Z (l _ _ (xI hp (i:=k) (by omega)) (xI hp (i:=k-1) (by omega))))) ?_;refine Fo ?_ ?_<;>intro _ z
   .rw [MX z.symm,e] at a
    refine Fi ((zdv Z Z hq Z Z (by omega))) ?_;refine uu (fun (j k2:Nat) (E:Array _)=>⟨_,[(7,ML j),(6,eqS (.slice (some ⟨bb,k*st,none⟩) (n-k) (cc-k))),(5,ML k2),(0,eqS (rowV (some (bb,cc)) n)),(1,wD fl caps)],[rowE (some (bb,cc)) T st n (vr f E)],[],(0,false)⟩) (fun j k2 E=>1<=j/\j<=n-k/\(∀x∈E.toList,p x)/\gP d E (k+j) k2) (fun j _ _=>n-j) 1 k d ⟨Af _,by omega,hp,Z,by rw [a,BG];omega,by omega,a.symm,fun _ _ _=>rfl⟩ (an (aa Z (aa Z (aa Z (aa Z (aa Z (trivial)))))) Z) ?_;rintro j k2 E ⟨M,L,b,hI⟩;have D:=hI.sz;have I:=hI.lt;refine Fh ?_;refine Fi ((QR Z Z)) ?_;refine Fo ?_ ?_<;>intro _ q
    .refine Fw 12 ?_;refine Fi ((mD k j Z Z Z Z (by omega))) ?_;refine Fi ((yA 0 (f:=f) GY (d:=E) (i:=k+j) (by omega) Z Z Z)) ?_;refine Do (j-1) ?_;refine Fi ((mD k (j-1) Z Z Z Z (by omega))) ?_;refine Fi ((yA 0 (f:=f) GY (d:=E) (i:=k+(j-1)) (by omega) Z Z Z)) ?_;refine Fi ((yY Z Z Z (l _ _ (xI b (i:=k+j) (by omega)) (xI b (i:=k+(j-1)) (by omega))))) ?_;refine Fp ?_ ?_<;>intro c
     .have u:E[k+j]! ≠E[k+j-1]! :=by rw [DA] at c;rw [(C:k+j-1=k+(j-1))];exact MP c
      refine Fi ((mD k j Z Z Z Z (by omega))) ?_;refine Fi ((yA 0 (f:=f) GY (d:=E) (i:=k+j) (by omega) Z Z Z)) ?_;refine zo ((zY k2 Z Z Z Z (by omega))) ?_;refine eg 0 GY (d:=E) (f:=f) (i:=k2) (by omega) E[k+j]! Z Z Z Z Z Z Z<|zg ?_;refine Do (k2+1) ?_;refine Do (j+1) ?_
      exact⟨j+1,k2+1,E.setIfInBounds k2 E[k+j]!,⟨by omega,by omega,zvN b (xI b (by omega)),hI.put (by omega) u⟩,by omega,MM⟩
     .have y:E[k+j]! =E[k+j-1]! :=by rw [DS] at c;rw [(C:k+j-1=k+(j-1))];exact MO c
      refine Do (j+1) ?_;exact⟨j+1,k2,E,⟨by omega,by omega,b,hI.skip (by omega) y⟩,by omega,MM⟩
    .have v:k+j=n:=by omega
     have g:=hI.kk;have h:=hI.pre;rw [v,<-hll,B3] at g h
     have m:(vr f E).length=n*st:=by rw [qa (f:=f) (st:=st) GY,D,G]
     refine Fi ((zdv Z Z hq Z Z (by omega))) ?_;refine ae.clear 0 Z Z Z (by omega) (by rw [m,<-Bs];exact BK _ (by omega)) Z Z Z<|zM<|Fs (QT [] [] (m':=k2) (cs':=(dd d.toList).flatMap f) (by rw [xJ];exact m) (by rw [Qd];show _=(E.toList.flatMap f).take (k2*st);rw [oD (f:=f) (st:=st) GY,h]) (by omega) hq) ?_;refine Fi ((Wk Z Z hq Z Z (by omega) (by omega))) ?_;refine zj ?_
     exact⟨_,[_],.one (.tmp Z),Dd _,by rw [g],by rw [g]⟩
   .rw [MY (fun x=>z x.symm),e,<-t] at a
    refine Do (k+1) ?_;exact⟨k+1,⟨by omega,by omega,a⟩,by omega,MM⟩
  .have hdl:dd d.toList=d.toList:=by
    rw [(C:k=n),<-hll,B3] at e;exact e
   refine Fh ?_
   exact I9):S:=w ⟨F⟩
def zxf:bM prog G (zP) 46 3 196:=lZ func196
def zxg:bM prog G (zL) 48 6 294:=lZ func294
def zA7:bM prog G (Vc) 282 6 306:=lZ func306
end Go.Proofs
namespace Num.Pl
open Go Go.Proofs
abbrev ZS {α:Type} [DecidableEq α] (l:List α):List α:=dd l
def ltR (x y:Rat):Bool:=decide (x<y)
def Jr (p q:V2):Bool:=decide (vN p q<0)
abbrev Lv:=Rat×Rat
def fx (a b:Lv):Bool:=decide (a.1+a.2<b.1+b.2\/(a.1+a.2=b.1+b.2/\a.1<b.1))
abbrev Jn:=Int×Int
def Zc (l:List V2):Nat->Int
 | 0=> -1
 | g+1=>if Zc l g<0\/vN (l.getD g (0,0)) (l.getD (Zc l g).toNat (0,0))<0 then (g:Int) else Zc l g
def ko (l:List V2):Int:=Zc l l.length
def uh (l:List V2):List V2:=
 let m:=if vK (gK l) 0<0 then eF l else l
 Wj m (ko m) false
abbrev T3:=V2×V2×V2
def Uo (a b p:V2):Int:=vK (cr a b p) 0
def iX (t:T3) (p:V2):Int:=min (Uo t.2.2 t.1 p) (min (Uo t.2.1 t.2.2 p) (min (Uo t.1 t.2.1 p) 1))
def XJ (l:List V2) (i:Nat):T3:=(vc l (i+l.length-1),vc l i,vc l (i+1))
def Qe (t:T3):Int:=Uo t.1 t.2.1 t.2.2
def fk (l:List V2) (i:Nat):Bool:=
 decide (3<=l.length)&&decide (i<l.length)&&decide (Qe (XJ l i)=1) &&
  (List.range l.length).all fun k=>decide (k=i)||decide (k=(i+l.length-1)%l.length)||decide (k=(i+1)%l.length)||decide (iX (XJ l i) (vc l k)<0)
def Ym {α:Type} (l:List α) (i:Nat):List α:=l.take i++l.drop (i+1)
def Yn:Nat->List V2->List T3->List T3
  | 0,_,_=>[]
  | n+1,row,out=>
    if row.length<=3 then (if row.length=3/\Qe (row.getD 0 (0,0),row.getD 1 (0,0),row.getD 2 (0,0))=1 then out++[(row.getD 0 (0,0),row.getD 1 (0,0),row.getD 2 (0,0))] else out)
    else match (List.range row.length).find? fun i=>decide (Qe (XJ row i)=0) with
      | some i=>Yn n (Ym row i) out
      | none=>match (List.range row.length).find? fun i=>fk row i with
        | some i=>Yn n (Ym row i) (out++[XJ row i])
        | none=>[]
def Zu (t:T3):List V2:=[t.1,t.2.1,t.2.2]
def Qf (a b:V2) (l:List V2):Bool:=l.all fun p=>decide (vK (cr a b p) 0<=0)
def uc (l:List V2):List (V2×V2):=(List.range l.length).map fun i=>(vc l i,vc l (i+1))
def ia (a b:List V2):Bool:=((uc a).any fun e=>Qf e.1 e.2 b)||((uc b).any fun e=>Qf e.1 e.2 a)
def Js (rob:List V2) (ts:List T3) (p:V2):Bool:=ts.all fun t=>ia (rob.map fun a=>add2 a p) (Zu t)
def x3 (a b:V2):Int:=vK (x2 a b) 0
def Zv (p:V2):List V2->List V2
 | []=>[]
 | [x]=>[x]
 | y::x::r=>if x3 (Yw y x) (Yw p y)<=0 then Zv p (x::r) else y::x::r
def ud (l:List V2):List V2:=(l.foldl (fun o p=>p::Zv p o) []).reverse
def wM (l:List V2):List V2:=
 let all:=ZS (sortL Jr l)
 if all.length<3 then all else (ud all).dropLast++(ud all.reverse).dropLast
def Yo (d:V2):Int:=if 0<d.1 then 0 else if d.1=0/\0<d.2 then 1 else if d.1<0 then 2 else 3
def JV (a b:V2):Bool:=if Yo a≠Yo b then decide (Yo a<Yo b) else decide (0<x3 a b)
def wv (h:List V2):List V2:=if h.length<=1 then [] else (List.range h.length).map fun i=>Yw (vc h (i+1)) (vc h i)
def vy:List V2->List V2->List V2
 | [],q=>q
 | p,[]=>p
 | a::p,b::q=>if JV a b then a::vy p (b::q) else b::vy (a::p) q
 termination_by p q=>p.length+q.length
def iF (a b:List V2):List V2:=
  match wM a,wM b with
  | [],_=>[]
  | _,[]=>[]
  | x::a',y::b'=>
    let ds:=vy (wv (x::a')) (wv (y::b'))
    wM ((ds.dropLast.foldl (fun (o:List V2) d=>add2 (o.headD (0,0)) d::o) [add2 x y]).reverse)
def JW (p:V2):V2:=(-p.1,-p.2)
def xh (rob:List V2) (t:T3):List V2:=iF (Zu t) (rob.map JW)
abbrev Ed:=V2×V2
def wg (ps:List (List V2)):List Ed:=ps.flatMap fun l=>(uc l).map fun e=>if 0<vN e.1 e.2 then (e.2,e.1) else e
def fL (l:List V2) (p:V2):Bool:=decide (3<=l.length)&&(uc l).all fun e=>decide (Uo e.1 e.2 p=1)
abbrev Bx:=V2×V2
def Qg (b:Bx) (p:V2):Bx:=((if p.1<b.1.1 then p.1 else b.1.1,if p.2<b.1.2 then p.2 else b.1.2),(if b.2.1<p.1 then p.1 else b.2.1,if b.2.2<p.2 then p.2 else b.2.2))
def gz:List V2->Bx
 | []=>((0,0),(0,0))
 | x::l=>(x::l).foldl Qg (x,x)
def yP (ps:List (List V2)):Bx:=let b:=gz ps.flatten;(Yw b.1 (1,1),add2 b.2 (1,1))
def Yp (p q:List V2):List V2:=ZS (sortL Jr ((uc p).flatMap fun s=>(uc q).flatMap fun t=>
 let m:=qB (wk s.1 s.2) (wk t.1 t.2)
 if m.1=0 then [] else [m.2.1,m.2.2]))
def lF {α:Type}:List α->List (α×α)
  | l=>(List.range l.length).flatMap fun i=>(l.take i).flatMap fun p=>match l[i]? with
    | some q=>[(p,q)]
    | none=>[]
def vo (ps:List (List V2)) (b:Bx):List Rat:=
 ZS (sortL ltR ([b.1.1,b.2.1]++ps.flatMap (fun l=>l.map (·.1))++(lF ps).flatMap fun (p,q)=>(Yp p q).map (·.1)))
def XK (e:Ed) (x:Rat):Rat:=e.1.2+(e.2.2-e.1.2)*((x-e.1.1)/(e.2.1-e.1.1))
def WJ (lo hi:Rat) (b:Bx) (es:List Ed):List Lv:=
 if hi<=lo then [] else ZS (sortL fx (((es.filter fun e=> !(decide (lo<e.1.1)||decide (e.2.1<hi)||decide (e.2.1<=e.1.1))).map fun e=>(XK e lo,XK e hi))++[(b.1.2,b.1.2),(b.2.2,b.2.2)]))
def jb (xs:List Rat):G2:=xs.zip xs.tail
def ZT (ps:List (List V2)) (b:Bx) (xs:List Rat):List (List Lv):=(jb xs).map fun (lo,hi)=>WJ lo hi b (wg ps)
def hgt (lo hi x:Rat) (l:Lv):Rat:=l.1+(x-lo)/(hi-lo)*(l.2-l.1)
def fC:Nat->Nat->Rat->Rat->Rat
  | 0,_,_,_=>0
  | n+1,s,lo,hi=>
    let k:=(lo*2^s).floor+1
    if (k:Rat)<hi*2^s then (k:Rat)/2^s else fC n (s+1) lo hi
def Vv (lo hi:Rat):Rat:=
 if hi<=lo then 0 else if hi<=0 then -(fC ((hi-lo).den+2) 0 (-hi) (-lo)) else if lo<0 then 0 else fC ((hi-lo).den+2) 0 lo hi
def vP (ps:List (List V2)) (b:Bx) (xs:List Rat) (ls:List (List Lv)):List (List Rat):=(List.range xs.length).map fun i=>
 ZS (sortL ltR ([b.1.2,b.2.2]++(if 0<i then (ls.getD (i-1) []).map (·.2) else [])++(ls.getD i []).map (·.1)++(ps.flatten.filter fun p=>decide (p.1=xs.getD i 0)).map (·.2)))
abbrev Ce:=Int×Nat×Nat×V2
def uP (one two:Int) (at':Nat) (x:Rat) (y:List Rat):List Ce:=(List.range y.length).flatMap fun i=>
 (one,at',i,(x,y.getD i 0))::(if i+1<y.length then [(two,at',i,(x,Vv (y.getD i 0) (y.getD (i+1) 0)))] else [])
structure Md where
 box:Bx
 xs:List Rat
 levels:List (List Lv)
 walls:List (List Rat)
def zV (m:Md):List Ce:=(List.range m.xs.length).flatMap fun i=>
 let x:=m.xs.getD i 0
 uP 0 1 i x (m.walls.getD i [])++(if i+1<m.xs.length then
  let z:=m.xs.getD (i+1) 0
  let mid:=Vv x z
  uP 2 3 i mid ((m.levels.getD i []).map (hgt x z mid)) else [])
def wX (ps:List (List V2)):Md:=
 let b:=yP ps
 let xs:=vo ps b
 let ls:=ZT ps b xs
 ⟨b,xs,ls,vP ps b xs ls⟩
def Jt (ps:List (List V2)) (c:Ce):Bool:= !(ps.any fun l=>fL l c.2.2.2)
def YM (from' many:Nat):List (Nat×Nat):=(List.range (2*many-2)).map fun i=>(from'+i,from'+i+1)
def YU (w s:Nat) (y ends:List Rat):List (Nat×Nat):=(List.range y.length).flatMap fun k=>(List.range ends.length).flatMap fun r=>
 let h:=y.getD k 0
 let e:=ends.getD r 0
 (if e=h then [(w+2*k,s+2*r)] else [])++(if r+1<ends.length then
  let u:=ends.getD (r+1) 0
  (if e<=h/\h<=u then [(w+2*k,s+2*r+1)] else [])++(if e<=h/\h<u/\k+1<y.length then [(w+2*k+1,s+2*r+1)] else []) else [])
end Num.Pl
namespace Go.Sv
open Go Go.RowKit Go.Proofs
def ziV {α:Type} {f:α->List SV} {st:Nat}:∀ {l:List α},(∀x∈l,(f x).length=st)->∀ {i:Nat} {x:α},l[i]? =some x->((l.flatMap f).drop (i*st)).take st=f x
 | y::l,hf,0,x,h=>by
  grind
 | y::l,hf,i+1,x,h=>by
  rw [BM,Bs,CH,Ao,<-CV,<-hf y (Dv ..),List.drop_left,hf y (Dv ..)];exact ziV (fun z a=>hf z (Bi _ a)) h
section
variable {P:Program} {G:Imm} {o:Oper} {H:HL} {g:Ha}
def Qh {t n e st i:Nat} {x b:Operand} {k:IntKind} {cs ds:List SV} [az P e st] (s:P.underlying t=some (.array n e)) (hop:o.op= .index t x b) (hx:yW g x=some (zl cs)) (hi:yW g b=some (ze k i)) (h1:i<n) (v:(cs.drop (i*st)).take st=ds):OpOK P G H o g (zl ds):=
 yy GW fun I W a _ _ q=>by
  obtain⟨xs,r,c,p⟩:=q.get GB hx;have f:a.eval b= .int k i:=q.get GB hi;obtain⟨d,m,D⟩:=az.h (P:=P) (t:=e);obtain⟨j,u,l⟩:=az.i (P:=P) (t:=e);have A:(isAgg e).run P W= .ok true W:=by
   unfold isAgg;simp only [Sem.run_bind,run_underlying m,Result.andThen_ok];cases d <;> simp_all
  have z:(sizeOf e).run P W= .ok st W:=by simp [sizeOf,typeInfo,u,l]
  refine⟨.agg ((xs.drop (i*st)).take st).toArray,?_,_,Z,by rw [<-v];exact (c.drop _).take _,fun y hy=>p y (BU (BT hy))⟩;have w:xs.toArray.extract (i*st) (i*st+st)=((xs.drop (i*st)).take st).toArray:=by simp [List.take_drop]
  have hin:0<=(i:Int)/\(i:Int)<n:=C;have:(Instr.index t (.agg xs.toArray) (.int k i)).run P W= .ok (.agg ((xs.drop (i*st)).take st).toArray) W:=by
   simp only [Instr.index,Sem.run_bind,run_underlying s,asIntOf,Sem.run_pure,Result.andThen_ok,hin,and_self,if_true,z,BQ,part,A,w]
  simp [execOp,hop,r,f,this]
def zba {t n st:Nat} [L:bI P t n st] {x:Operand} {cs:List SV} {α:Type} {f:α->List SV} {l:List α} (hop:o.op= .slice t x none none none) (hx:yW g x=some (yo cs)) (k:l.length=n) (K:n<=yE) (F:l.flatMap f=cs) (hf:∀ x∈l,(f x).length=st):OpOK P G H o g (zR st f l):=
 yy GW fun I W a _ _ A=>by
  obtain⟨b,off,v,p⟩:=A.get GB hx;obtain⟨e,w,z⟩:=L.h;obtain⟨j,E,m⟩:=DB.1 z;have M:(sizeOf e).run P W= .ok st W:=by simp [sizeOf,typeInfo,E,m]
  refine⟨.slice (some ⟨b,off,none⟩) n n,?_,some ⟨b,off,none⟩,n,by rw [k],by omega,by omega,.inr ⟨b,off,Z,fun i x hx=>?_⟩⟩
  .by_cases O:n=0 <;> simp [execOp,hop,v,Instr.sliceAt,run_underlying w,Instr.sureAddr,Instr.sliceBounds,M,Addr.add]
  .obtain⟨c,u,r⟩:=p;refine⟨c,u,fun q s hq=>?_⟩;have d:=AE hx;have:=r (i*st+q) s (by
    rw [<-F];have N:=ziV hf hx;grind)
   grind
end
end Go.Sv
namespace Go.Proofs
open Go Go.Sv Num Num.Pl Tryz
variable {G:Imm}
def Qi {α:Type} (f:α->List SV) (l:List α):List (List SV):=l.map f
section
variable {α:Type} {f:α->List SV} {l:List α}
variable {a:List SV} {i:Nat}
def wn:(Qi f l).length=l.length:=BR _
def vk {x:α} (h:l[i]? =some x):(Qi f l)[i]? =some (f x):=by unfold Qi;grind
def uQ (h:(Qi f l)[i]? =some a):∃ x,l[i]? =some x/\a=f x:=by
 unfold Qi at h;grind
def Yq {m:Nat} (b:∀ x,(f x).length=m) (h:a∈Qi f l):a.length=m:=by
 obtain⟨x,_,rfl⟩:=Bc.1 h;grind
end
variable {l:List V2} {i k:Nat} {p q:V2}
def gW [ao G] {j:Nat} (hp:Bp p k) (hq:Bp q j) (a:200*(k+j)+21000<=cap):G0 G 189 [zl (zL p),zl (zL q)] (zl (zL (Yw p q))):=by
 have:=hp.x;have:=hp.y;have:=hq.x;have:=hq.y;exact XQ C
def jM [ao G] {j:Nat} (hp:Bp p k) (hq:Bp q j) (a:200*(k+j)+21000<=cap):G0 G 190 [zl (zL p),zl (zL q)] (zl (zL (add2 p q))):=by
 have:=hp.x;have:=hp.y;have:=hq.x;have:=hq.y;exact zeK C
def qe [ao G] {q:Rat} (h:Bq q k) (a:2*k+11000<=cap):G0 G 370 [zl (zP q)] (MK (vK q 0)):=VY a
abbrev vR (t:T3):List SV:=zL t.1++(zL t.2.1++zL t.2.2)
abbrev vE (k:Nat) (l:List V2):Prop:=∀ p∈l,Bp p k
def WW (h:i<l.length):l[i%l.length]? =some (vc l i):=by
 unfold vc;rw [CZ h,Ay,AL h];rfl
def YV (h:0<l.length):l[i%l.length]? =some (vc l i):=by
 unfold vc;rw [Ay,AL (Be _ h)];rfl
def vS (h:0<l.length):vc l i∈l:=AE (YV (i:=i) h)
def oC (h:i<l.length):(uc l)[i]? =some (vc l i,vc l (i+1)):=by
 unfold uc;exact K5
def Vw (l:List V2):(uc l).length=l.length:=by unfold uc;simp
abbrev e2C (e:V2×V2):List SV:=[zl (zL e.1),zl (zL e.2)]
section
variable (P:Program) (G:Imm) {α:Type} (f0:α->List SV) (s0:Nat)
structure gt (fid:FuncId):Prop where
 o:let f:=f0;let st:=s0;∀{ns:List α} {fl:FuncId} {caps:List SV} {p:α->Bool} (_:ns.length<=2000000000) (_:∀ n∈ns,zm P G fl ([zl (f n)]++caps) (zp (p n))),zm P G fid [zR st f ns,wD fl caps] (ze .i64 (fK p ns))
structure gv (fid:FuncId):Prop where
 o:let f:=f0;let st:=s0;∀{ns:List α} {fl:FuncId} {caps:List SV} {p:α->Bool} (_:ns.length<=2000000000) (_:∀ n∈ns,zm P G fl ([zl (f n)]++caps) (zp (p n))),zm P G fid [zR st f ns,wD fl caps] (zp (ns.any p))
end
variable {xs:List V2} {k j:Nat} {p a:V2} {S A0:Prop}
def zA8 (d:A0) (w:By A0->S:=by
 intro j;refine⟨?_⟩;intro f st a fl caps p m h;refine wR j.o Z Z Z<|zr<|zz ?_;refine zM<|zi<|zg ?_;refine Qj [7,1,0] (fun (g:Nat) z=>(8,ML g)::z) (fun g=>[]) (fun g=>g<=a.length/\(a.take g).any p=false) (fun g=>a.length-g) 0 ⟨BL _,Z⟩ ?_;rintro g ⟨k,c⟩;refine zr<|zz ?_;refine zM<|zi<|zd ?_ ?_<;>intro _ i
 .obtain⟨x,hx⟩:=FU a g;refine zB<|zi<|zg ?_;refine zo (zh Z Z Z (by omega) (y:=x) hx) ?_;refine zz ?_;refine zo ((yY Z Z Z (h x (AE hx)))) ?_;refine zM<|xK ?_ ?_<;>intro b
  .refine zg ?_;exact zj (zu (e:=by rw [nI hx b c]))
  .refine zg ?_;refine za ((g+1:Nat):Int) ?_;refine zg ?_;exact⟨g+1,⟨by omega,KN hx b c⟩,by omega,MM⟩
 .refine zK<|zg ?_;refine zj ?_
  exact⟨_,[],.one (.tmp Z),BZ _,by rw [bm (l:=a) (by rw [<-show a.take g=a by rw [show g=a.length by omega,B3]];exact c)],Z⟩):S:=w ⟨d⟩
def zC0:gt prog G zL 6 517:=zA8 func517
def zC1:gt prog G vR 18 442:=zA8 func442
def zA9 {A1:Prop} (b:A0) (a:A1) (w:By A0->By A1->S:=by
 intro e hi;refine⟨?_⟩;intro f st c fl caps p d h;refine wR e.o Z Z Z<|zg ?_;refine zf (hi.o.o d h) ?_;refine zg ?_;refine zj ?_
 exact⟨_,[],.one (.tmp Z),BZ _,MW zp (mN p c),Z⟩):S:=w ⟨b⟩ ⟨a⟩
def zC2:gv prog G zL 6 495:=zA9 func495 (zC0 (G:=G))
def zC3:gv prog G vR 18 362:=zA9 func362 (zC1 (G:=G))
def zv3:xc prog G 494 [yo [zR 6 zL xs]] (Qi e2C (uc xs)):=by
 refine xM func494 Z Z Z Z fun l E hy=>zg ?_;refine uM 5 Z fun b=>?_;unfold yE at b;refine xi (fun g=>⟨_,[(7,ML g),(6,MK xs.length),(5,zR 6 zL xs),(0,yieldS l),(1,yo [zR 6 zL xs])],[],[],(g,false)⟩) (fun g=>g<=xs.length) (fun g=>xs.length-g) 0 (BL _) MM ?_;intro g d;refine Fh ?_;refine Fo ?_ ?_<;>intro _ c
 .have hg1:g<xs.length:=by omega
  refine Fi (zh Z Z Z (by omega) Gd) ?_;refine Fm fun e=>?_;refine Fw 10 ?_;refine zA ?_;refine zg ?_;refine Fi ((wt Z Z Z (by omega) (by omega)).sub (zI (n:=(((g+1)%xs.length:Nat):Int)) B)) ?_;refine Fi (zh Z Z Z (by omega) (YV (by omega))) ?_;refine ae.yield Z hy Z Z Z (vk (oC hg1)) (yU _) Z Z Z fun y=>zg ?_;refine xK ?_ ?_<;>intro a
  .exact zj ⟨.inl Z,.inr a⟩
  .obtain rfl:y=true:=by grind
   refine zB<|Fv ?_;refine Do (g+1) ?_;exact⟨g+1,(by omega:g+1<=xs.length),by omega,MM⟩
 .exact⟨.inr Z,.inl (by rw [wn,Vw,(C:g=xs.length)])⟩
def zyK:G0 G 443 [zR 6 zL xs] (wD 494 [yo [zR 6 zL xs]]):=by
 refine Fq func443 ?_;exact Hj
def zv4 [ao G] {d:V2} (hp:Bp p k) (c:Bp d j) (b:Bp a k) (e:1000*(k+j)+50000<=cap):G0 G 496 [zl (zL p),yo (zL d),yo (zL a)] (zp (decide (0<vK (d.1*(p.2-a.2)-d.2*(p.1-a.1)) 0))):=by
 refine Fq func496 ?_;refine Fw 8 ?_;refine Fk (gW hp b C) ?_;refine Fk (jf c (Xp hp b) C) ?_;refine Fk (qe (Wg c (Xp hp b)) C) ?_;exact Hj
def zyL [ao G] {b:V2} {l:List V2} (c:Bp a k) (d:Bp b k) (g:vE k l) (i:3000*k+52000<=cap) (f:l.length<=2000000000):G0 G 444 [zl (zL a),zl (zL b),zR 6 zL l] (zp (Qf a b l)):=by
 refine Fq func444 ?_;refine Fk (gW d c C) ?_;refine yT fun j=>?_;refine zw ?_;refine ae.ghost _ Z (ZK 0 7 Z Z)<|zg ?_;refine Fl Z Z (zC2.o f fun p hp=>zv4 (g p hp) (Xp d c) c C) ?_;exact zj (zu (e:=MW zp (by unfold Qf;rw [List.not_any_eq_all_not];congr 1;funext p;show (!decide (0<vK (cr a b p) 0))=_;grind)))
def zyM [ao G] (n:vE k xs) (hp:Bp p j) (o:200*(k+j)+21000<=cap) (r:xs.length<=1000000):G0 G 361 [zR 6 zL xs,zl (zL p)] (zR 6 zL (xs.map fun a=>add2 a p)):=by
 refine zs func361 ?_;refine zg ?_;refine zi<|Fs (yI 48 6) ?_;have b:(xs.map (fun a=>add2 a p)).length=xs.length:=BR _;refine xz (fun (m:Nat) (q:G3)=>⟨_,[(9,ML m),(8,MK xs.length),(7,zR 6 zL xs),(4,eqS (rowV q m)),(3,yo (zL p))],[rowE q 48 6 m (((xs.map (fun a=>add2 a p)).take m).flatMap zL)],[],(0,false)⟩) (fun m q=>m<=xs.length/\zX q m) (fun m _=>xs.length-m) 0 none ⟨BL _,Z⟩ MM ?_;rintro m q ⟨s,hq⟩;refine Fh ?_;refine FP ?_ ?_<;>intro _ e
 .obtain⟨x,hx⟩:=FU xs m;have h:=AE hx;have hms:=yp (l:=xs.map (fun a=>add2 a p)) (by rw [Ba,hx];rfl);have i:((xs.map (fun a=>add2 a p)).take m).length=m:=by rw [BG,b];omega
  refine Fh ?_;refine Fm fun t=>?_;refine Fk (jM (n x h) hp C) ?_;refine FL 1 Z Z Z Z hq (by rw [yG (st:=6) GY,i]) fun d c=>?_;refine zz ?_;refine zM<|Fv ?_;refine Do (m+1) ?_
  exact⟨m+1,d,⟨C,c⟩,C,an zk Gp⟩
 .obtain rfl:m=xs.length:=C;refine zK<|Fs (yF 0 4 Z Z hq (l:=xs.map (fun a=>add2 a p)) (f:=zL) b Gi GX GK) ?_;exact zj zt
def n6 {l:List V2} {e:V2×V2} (h:e∈uc l):e.1∈l/\e.2∈l:=by
 obtain⟨i,hi,rfl⟩:=Bc.1 h;rw [AI] at hi
 exact⟨vS C,vS C⟩
theorem zyN [ao G] {a b:List V2} (E:vE k a) (A:vE k b) (P:3000*k+52000<=cap) (q:a.length<=1000000) (p:b.length<=1000000):G0 G 364 [zR 6 zL a,zR 6 zL b] (zp (ia a b)):=by
 refine Fq func364 ?_;refine yT fun o=>?_;refine zM<|wO<|zg ?_;refine yT fun W=>?_;refine zg ?_;refine zi<|wN<|yL (K:=fun S1=>∃ (D:G7) (w:Bool),w=ia a b/\aC S1 ⟨34,[(4,G9 o)],[⟨some o,4,[zp w],0⟩],D,(0,false)⟩) ?_ ?_
 .refine zg ?_;refine zH (zF (B5 _ _))<|xz (fun (g:Nat) (D:G7)=>⟨_,[(18,ML g),(17,zl [zR 6 zL a,zR 6 zL b,zR 6 zL b,zR 6 zL a]),(4,G9 o)],[⟨some o,4,[zp false],0⟩],D,(0,false)⟩) (fun g D=>g<=2/\(0<g->((uc a).any fun e=>Qf e.1 e.2 b)=false)/\(1<g->((uc b).any fun e=>Qf e.1 e.2 a)=false)) (fun g _=>2-g) 0 [] ⟨by omega,fun h=>M1 h C,fun h=>M1 h C⟩ MM ?_
  rintro g D ⟨Q,r,x⟩;refine Fh ?_;refine Fo ?_ ?_<;>intro _ t
  .obtain⟨u,v,j,z,H,L,I⟩:∃ u v,((g=0/\u=a/\v=b)\/(g=1/\u=b/\v=a))/\vE k u/\vE k v/\u.length<=1000000/\v.length<=1000000:=by
    grind
   refine Fh ?_;refine Fi ((Qh (ds:=[zR 6 zL u,zR 6 zL v]) Tryz.underlying489 Z Z Z (by omega) (by rcases j with ⟨rfl,rfl,rfl⟩ | ⟨rfl,rfl,rfl⟩ <;> rfl))) ?_;refine Fm fun N=>?_;refine Fi ((Xa (i:=0) Z Z Z J Z)) ?_;refine Fk zyK ?_
   refine uN Z Z zv3 (fun F h=>Yq GY h) J Z
    (fun k h i=>i=(0,false)/\h=[⟨some N,488,[zR 6 zL u,zR 6 zL v],0⟩,⟨some o,4,[zp false],0⟩]/\(((uc u).take k).any fun e=>Qf e.1 e.2 v)=false)
    (fun e h i=>e= .exit 0/\i=(0,false)/\h=[⟨some o,4,[zp true],0⟩]/\((uc u).any fun e=>Qf e.1 e.2 v)=true) ⟨Z,Z,Z⟩ ?_ ?_ ?_
   .rintro l O F h i M ⟨rfl,rfl,d⟩;obtain⟨e,y,rfl⟩:=uQ M;have s:=n6 (AE y);refine zr<|Fm fun U=>?_;refine Fm fun S=>?_;refine⟨Z,?_⟩;refine zg ?_;refine Fi ((Xa (i:=1) Z Z Z J Z)) ?_;refine Fk (zyL (z _ s.1) (z _ s.2) H (by omega) (by omega)) ?_;refine Fi (zQ 3 Z Z Z Z) ?_;refine xK ?_ ?_<;>intro f
    .refine Fs (zF (((B5 _ _).trans (B5 _ _)).trans (B5 _ _))) ?_;exact⟨Z,Z,by rw [f];rfl,EE.2 ⟨e,AE y,f⟩⟩
    .refine Fs (zF ((B5 _ _).trans (B5 _ _))) ?_;exact⟨Z,by rw [f];rfl,KN y f d⟩
   .rintro h i D2 ⟨rfl,rfl,d⟩;rw [wn,B3] at d
    refine Fv ?_;refine Do (g+1) ?_;exact⟨g+1,_,⟨by omega,fun _=>by grind,fun h=>by grind⟩,by omega,an (aa Z (aa Z (aa Z (trivial)))) Z⟩
   .rintro h i D2 e c R ⟨rfl,rfl,rfl,d⟩;exact⟨_,true,by unfold ia;grind,an (aa Z (trivial)) Z⟩
  .exact⟨D,false,by unfold ia;grind,MM⟩
 .rintro S1 ⟨D,w,hw,hS1⟩;exact I7
theorem zyO [ao G] {t:T3} {l:List V2} (ht:vE k (Zu t)) (c:vE k l) (a:3000*k+52000<=cap) (b:l.length<=1000000):G0 G 363 [zl (vR t),yo [zR 6 zL l]] (zp (!ia l (Zu t))):=by
 refine Fq func363 ?_;refine Fw 5 ?_;refine Fi ((zba (l:=Zu t) (f:=zL) Z Z Z (by show 3<=yE;decide) Z GX)) ?_;refine Fk (zyN c ht a b (by show 3<=1000000;omega)) ?_;exact Hj
theorem zxh [ao G] {b:List T3} (d:vE k xs) (ht:∀ t∈b,vE (k+j+1) (Zu t)) (hp:Bp p j) (g:4000*(k+j)+60000<=cap) (c:xs.length<=1000000) (f:b.length<=2000000000):G0 G 269 [zR 6 zL xs,zR 18 vR b,zl (zL p)] (zp (Js xs b p)):=by
 refine Fq func269 ?_;refine Fk (zyM d hp C c) ?_;refine yT fun h=>?_;refine zw ?_;refine ae.ghost _ Z (ZK 0 7 Z Z)<|zg ?_;refine Fl Z Z (zC3.o f fun t htm=>zyO (ht t htm) (fun q hq=>by obtain⟨a,ha,rfl⟩:=Bc.1 hq;exact iZ (d a ha) hp) C (by rw [BR];exact c)) ?_
 exact zj (zu (e:=MW zp (by unfold Js;grind)))
variable {k g:Nat} {l:List V2} {p:V2} {q:QS} {t:G6}
def jn (p:V2) (g:Nat):Nat:=(([p.1,p.2]:List Rat).take g).foldl (fun n q=>max n (nD q)) 0
def wdF (p:V2):Nat:=max (nD p.1) (nD p.2)
theorem zBc {q:Rat} (h:([p.1,p.2]:List Rat)[g]? =some q):jn p (g+1)=max (jn p g) (nD q):=by unfold jn;grind
def zv5 (p:V2):jn p 2=wdF p:=by rfl
def jV {xs:List RawP} (h:∀ p∈xs,wL k p) (a:k<=10):Rw xs:=zsm fun p hp=>by
 have:=h p hp;refine⟨⟨⟨this.1.1,this.1.2.1⟩,this.2.1,this.2.2.1⟩,?_⟩;unfold Ua;omega
theorem nz (h:(textF t).2=0):(yS t).2=0/\(textF t).1=(yS t).1:=by
 unfold textF at h ⊢
 grind
def nj (n:Nat) (p:V2):max (max n (nD p.1)) (nD p.2)=max n (wdF p):=by unfold wdF;omega
def zBd {m i:Nat} (h:l[i]? =some p):dgF m (l.take (i+1))=max (dgF m (l.take i)) (wdF p):=by
 unfold dgF;rw [yp h,Dt,<-nj];rfl
def iz (q:QS) (g:Nat):Nat:=((q.1::q.2.1).take g).foldl dgF 0
def zBe (h:(q.1::q.2.1)[g]? =some l):iz q (g+1)=dgF (iz q g) l:=by unfold iz;rw [yp h,Dt];rfl
def dgQ (q:QS):Nat:=dgF (iz q (q.1::q.2.1).length) (q.2.2.flatMap fun x=>[x.1,x.2])
def zBf {m j:Nat} {l:List (V2×V2)} {x:V2×V2} (h:l[j]? =some x):dgF m ((l.take (j+1)).flatMap fun x=>[x.1,x.2])=max (max (dgF m ((l.take j).flatMap fun x=>[x.1,x.2])) (wdF x.1)) (wdF x.2):=by
 rw [yp h,CB];unfold dgF;rw [Dt,<-nj,<-nj];rfl
def Qk (t:G6):Bool:=decide (t.length<=600)&&(decide ((textF t).2≠0)||(decide (tris (Uf (textF t).1)<=2)&&decide ((textF t).1.1.length<=4)&&decide ((textF t).1.2.2.length<=3)&&decide (dgQ (textF t).1<=3)))
theorem lY (hb:Bp p k) (h0:0<k) (hk:64*k+20000<=65536):zm prog G 40 [zl (zL p)] (MK (wdF p:Nat)):=by
 refine zs func40 ?_;refine zg ?_;refine zi<|zg ?_;refine zo (zy Z Z J Z B Z Z) ?_;refine Fi ((wI rfl rfl).sub (zI (n:=((2:Nat):Int)) rfl)) ?_;refine Xt [2,12,13,38] (fun (g:Nat) (m:Nat) z=>(14,ML g)::(3,ML m)::z) (fun (g:Nat) (m:Nat)=>[]) (fun (g:Nat) (m:Nat)=>g<=2/\m=jn p g) (fun (g:Nat) (m:Nat)=>2-g) 0 0 ⟨Nat.zero_le _,Z⟩ ?_
 rintro g m ⟨hg,hm⟩;refine Fh ?_;refine zd ?_ ?_<;>intro _ k15
 .obtain⟨q,hq⟩:∃ q,([p.1,p.2]:List Rat)[g]? =some q:=⟨_,List.getElem?_eq_getElem (show g<2 by omega)⟩
  have hqb:Bq q k:=by have:=List.mem_of_getElem? hq;simp only [List.mem_cons,List.not_mem_nil,or_false] at this;rcases this with rfl | rfl;exact hb.x;exact hb.y
  have hms:=zBc hq;haveI i1:=zdr hqb.num h0;haveI i2:=zdr hqb.den h0;haveI j1:=(inferInstance:IsQ false (dig q.num.natAbs) [1] ((q.num.natAbs:Int):Rat) k).bq;haveI j2:=(inferInstance:IsQ false (dig q.den) [1] ((q.den:Int):Rat) k).bq;refine zB<|zi<|zg ?_;refine zo ((zh rfl rfl rfl (by omega) (show ([zP p.1,zP p.2]:List (List SV))[g]? =some (zP q) by have:=MW (Option.map zP) hq;rw [<-List.getElem?_map] at this;exact this))) ?_;refine zz ?_;refine yT fun b5=>?_;refine zg ?_;refine zo ((xj [1] Z Z J Z B Z Z Z)) ?_;refine zz ?_;refine zf (UZ hk) ?_;refine zg ?_;refine zo ((xj [1] Z Z J Z B Z Z Z)) ?_;refine zz ?_;refine zf (UZ hk) ?_;refine zg ?_;refine Fi (wS rfl rfl) ?_;refine zo (wS Z Z) ?_;refine zo ((zm2 rfl rfl rfl rfl).sub (zI (n:=((max m (nD q):Nat):Int)) (by rw [zda,zda,Lib.decDigits_length,Lib.decDigits_length];unfold nD;omega))) ?_;refine zz ?_;refine zM<|zH (zF (List.sublist_cons_self _ _))<|zJ<|Do (g+1) ?_
  exact⟨g+1,max m (nD q),⟨by omega,by omega⟩,by omega,MM⟩
 .obtain rfl:g=2:=by omega
  refine Fh ?_;exact zj (zu (e:=by rw [hm,zv5]))
theorem zBg (H:vE k q.1) (K:∀ l∈q.2.1,vE k l) (hq:∀ x∈q.2.2,Bp x.1 k/\Bp x.2 k) (A:0<k) (y:64*k+20000<=65536) (O:q.2.1.length<=1000000) (t:q.1.length<=1000000) (v:∀ l∈q.2.1,l.length<=1000000) (I:q.2.2.length<=1000000):G0 G 23 [zl (qsC q)] (MK (dgQ q:Nat)):=by
 have M:(q.1::q.2.1).length=q.2.1.length+1:=Ap;have u:∀ l∈(q.1::q.2.1),vE k l/\l.length<=1000000:=fun l h=>by grind
 refine zs func23 ?_;refine zg ?_;refine zi<|zg ?_;refine ae.buildRow Z Z Z Z Z Z J Z (.inr B) Z V fun N d=>zg ?_;refine FL 0 Z Z Z Z d Z fun F c=>?_;refine ae.ghost _ Z (yF 0 13 Z Z c (l:=(q.1::q.2.1)) (f:=Zm) (Ao _ _) Z GX GK)<|Fh ?_;refine Xt [1,2,7,13,14,33,34,35,36,37,38,39,40,41,42,43,44,45,46,47,48,49,50,51,52,53,54,55,56] (fun (g:Nat) (m:Nat) z=>(15,ML g)::(3,ML m)::z) (fun g m=>[]) (fun g m=>g<=(q.1::q.2.1).length/\m=iz q g) (fun g m=>(q.1::q.2.1).length-g) 0 0 ⟨BL _,Z⟩ ?_;rintro g m ⟨Q,D⟩;refine Fh ?_;refine Fo ?_ ?_<;>intro _ s
 .obtain⟨l,E⟩:=FU (q.1::q.2.1) g;obtain⟨w,L⟩:=u l (AE E);refine Fh ?_;refine Xt [1,2,5,7,13,14,15,16,17,18,32,33,34,35,36,37,38,39,40,41,42,43,44,45,46,47,48,49,50,51,52,53,54,55,56] (fun (i:Nat) (n:Nat) z=>(6,ML i)::(3,ML n)::z) (fun i n=>[]) (fun i n=>i<=l.length/\n=dgF m (l.take i)) (fun i n=>l.length-i) 0 m ⟨BL _,Z⟩ ?_;rintro i n ⟨hi,a⟩;refine Fh ?_;refine Fo ?_ ?_<;>intro _ r
  .obtain⟨p,hp⟩:=FU l i;refine Fh ?_;refine zf (lY (w p (AE hp)) A y) ?_;refine Fi ((Yb Z Z Z).sub (zI (n:=((max n (wdF p):Nat):Int)) C)) ?_;refine Do (i+1) ?_;exact⟨i+1,max n (wdF p),⟨C,by rw [zBd hp,<-a]⟩,C,MM⟩
  .obtain rfl:i=l.length:=C;rw [B3] at a
   refine Do (g+1) ?_;exact⟨g+1,n,⟨C,by rw [zBe E,<-D];exact a⟩,C,MM⟩
 .obtain rfl:g=(q.1::q.2.1).length:=C;refine Xt [1,2,56] (fun (j:Nat) (n:Nat) z=>(7,ML j)::(3,ML n)::z) (fun j n=>[]) (fun j n=>j<=q.2.2.length/\n=dgF m ((q.2.2.take j).flatMap fun x=>[x.1,x.2])) (fun j n=>q.2.2.length-j) 0 m ⟨BL _,Z⟩ ?_;rintro j n ⟨P,a⟩;refine Fh ?_;refine Fo ?_ ?_<;>intro _ o
  .obtain⟨x,hx⟩:=FU q.2.2 j;have b:=hq x (AE hx);refine wW 17 V<|Fh ?_;refine Fk (lY b.1 A y) ?_;refine Fk (lY b.2 A y) ?_;refine Fi ((zm2 Z Z Z Z).sub (zI (n:=((max (max n (wdF x.1)) (wdF x.2):Nat):Int)) C)) ?_;refine Do (j+1) ?_;exact⟨j+1,_,⟨C,by rw [zBf hx,<-a]⟩,C,MM⟩
  .obtain rfl:j=q.2.2.length:=C;rw [B3] at a
   exact zj (zu (e:=by rw [a,D];rfl))
theorem zpY (hb:∀ p∈vC q,Bp p 1) (a:(vC q).length+q.2.1.length+q.2.2.length<=k) (b:k<=1000000):G0 G 23 [zl (qsC q)] (MK (dgQ q:Nat)):=by
 have h1:(vC q).length=q.1.length+(q.2.1.flatten.length+(q.2.2.flatMap fun q=>[q.1,q.2]).length):=by unfold vC;rw [Aw,Aw]
 refine zBg (fun p hp=>hb p (Ei _ hp)) (fun l hl p hp=>hb p (Ej _ (Ei _ (EH.2 ⟨l,hl,hp⟩)))) (fun x hx=>?_) J J C C (fun l hl=>?_) C
 .exact Ii
 .have:=(List.sublist_flatten_of_mem hl).length_le;omega
theorem zyS:G0 G 6 [strS t] (zp (Qk t)):=by
 refine zs func6 ?_;refine Fh ?_;refine Fi (wS rfl rfl) ?_;refine xK ?_ ?_<;>intro h7
 .have k7:=MO h7;refine zr<|zg ?_;exact zj ⟨_,[],.one (.tmp rfl),BZ _,by unfold Qk;grind,rfl⟩
 .have k7:=MP h7;have hl:t.length<=600:=by omega
  have pok:=oE (t:=t) (by omega);have hvt:=fun h=>mn (pok h).1 (by decide)
  have hrx:=zdo (G:=G) (by omega) fun h=>⟨hvt h,jV (hvt h).rob (by decide),fun r hr=>jV ((hvt h).obs r hr) (by decide)⟩
  have hfe:Qk t=(decide ((textF t).2≠0)||(decide (tris (Uf (textF t).1)<=2)&&decide ((textF t).1.1.length<=4)&&decide ((textF t).1.2.2.length<=3)&&decide (dgQ (textF t).1<=3))):=by unfold Qk;rw [MR hl,C5]
  have hz:=nz (t:=t);obtain⟨⟨a,c⟩,hac⟩:∃ x,textF t=x:=⟨_,rfl⟩;rw [hac] at hrx hfe hz
  refine zB<|zr<|zz ?_;refine Fk hrx ?_;refine yT fun b3=>?_;refine Fh ?_;refine xK ?_ ?_<;>intro h14
  .have k14:=MV.1 h14;refine zr<|Fh ?_;exact zj ⟨_,[],.one (.tmp rfl),BZ _,by grind,rfl⟩
  .have k14:=bne_eq_false_iff_eq.1 h14;obtain rfl:c=0:=by omega
   obtain⟨hp0,ha⟩:=hz rfl;have ha:a=(yS t).1:=ha;have hv:=hvt hp0;rw [<-ha] at hv
   obtain⟨f1,f2,f3,f4,_⟩:=(WH t).1 hp0;rw [<-ha] at f1 f2 f3 f4;have hb:∀ p∈vC a,Bp p 1:=fun p hp=>⟨fH (f3 p hp).1,fH (f3 p hp).2⟩;have htr:G0 G 22 [zl (qsC a)] (MK (tris (Uf a):Nat)):=(zdn hv).args ⟨fun I v hv=>jS I v hv,trivial⟩;rw [show decide ((0:Int)≠0)=false from rfl,AF] at hfe
   dsimp only at hfe
   refine zB<|zr<|zo ((AX (zl (qsC a))<|zE 0 Z Z Z V Z)) ?_;refine zf htr ?_
   refine ae.oneB (zZ Z Z Z Z) Z Z Z (fun h6x2=>?_) (fun h6x2=>?_)
   .have k6x2:=MO h6x2;(iterate 2 refine zz ?_);refine zo ((AX (zR 6 zL a.1)<|zQ 0 Z Z Z Z)) ?_;(iterate 2 refine zz ?_);refine ae.oneB (xl Z Z Z) Z Z Z (fun h6x8=>?_) (fun h6x8=>?_)
    .have k6x8:=MO h6x8;(iterate 2 refine zz ?_);refine zo ((AX (zR 12 ZP a.2.2)<|zQ 0 Z Z Z Z)) ?_;(iterate 2 refine zz ?_);refine ae.oneB (xl Z Z Z) Z Z Z (fun h6x14=>?_) (fun h6x14=>?_)
     .have k6x14:=MO h6x14;refine zz ?_;refine zo ((AX (zl (qsC a))<|zE 0 Z Z Z V Z)) ?_;refine Fi (zb rfl rfl (zpY (k:=1000) hb (by omega) (by decide))) ?_;refine zj ?_;exact⟨_,[],.one (.tmp rfl),BZ _,MW zp (by grind),rfl⟩
     .have k6x14:=MP h6x14;refine zz ?_;refine zg ?_;exact zj ⟨_,[],.one (.tmp rfl),BZ _,by grind,rfl⟩
    .have k6x8:=MP h6x8;refine zz ?_;refine zg ?_;exact zj ⟨_,[],.one (.tmp rfl),BZ _,by grind,rfl⟩
   .have k6x2:=MP h6x2;refine zz ?_;refine zg ?_;exact zj ⟨_,[],.one (.tmp rfl),BZ _,by grind,rfl⟩
variable {xs:List V2} {k j:Nat} {a b:V2}
theorem zyT {u:V2} (h:Bp u k):Bp (JW u) k:=by
 have:=h.x;have:=h.y;exact⟨(bq_neg:Bq (-u.1) _),(bq_neg:Bq (-u.2) _)⟩
def zC4 [ao G] {p:V2} (hp:Bp p k) (a:400*k+21500<=cap):G0 G 286 [zl (zL p)] (zl (zL (JW p))):=by
 have:=hp.x;have:=hp.y;exact zoX C
abbrev o8 (p:V2):List SV:=[zl (zL p)]
def zfg {l:List V2} {i:Nat} (h:i<l.length) (h1:1<l.length):(wv l)[i]? =some (Yw (vc l (i+1)) (vc l i)):=by
 unfold wv;grind
theorem aO {l:List V2}:(wv l).length=if l.length<=1 then 0 else l.length:=by
 unfold wv;grind
def zxi [ao G] (d:Bp a k) (c:Bp b j) (e:1000*(k+j)+50000<=cap):G0 G 380 [zl (zL a),zl (zL b)] (MK (x3 a b)):=by
 refine Fq func380 ?_;refine Fk (jf d c C) ?_;refine Fk (qe (Wg d c) C) ?_;exact Hj
def ziX [ao G] {d:V2} (l:Bp d k) (o:1000*k+50000<=cap):G0 G 379 [zl (zL d)] (MK (Yo d)):=by
 have i:0<vK d.1 0↔0<d.1:=vQ;have e2:vK d.1 0=0↔d.1=0:=uw;have n:0<vK d.2 0↔0<d.2:=vQ;have m:vK d.1 0<0↔d.1<0:=vG;refine Fq func379 ?_;refine Fw 8 ?_;refine Fk (qe l.x C) ?_;refine Fk (qe l.y C) ?_;refine FP ?_ ?_<;>intro _ a
 .exact zj (zu (e:=MW (ze .i64) (by unfold Yo;grind)))
 .refine yL (K:=fun S1=>aC S1 ⟨24,[(14,zp (decide (d.1=0/\0<d.2))),(3,MK (vK d.1 0)),(4,MK (vK d.2 0))],[],[],(0,false)⟩) ?_ ?_
  .refine zJ<|zz ?_;refine FE ?_ ?_<;>intro b g
   .exact aA (xm Z (MW zp (by grind)) zk)
   .exact aA (xm Z (MW zp (MS (fun h=>MT.1 b (e2.2 h.1))).symm) zk)
  .intro S1 j;refine xq j<|Fp ?_ ?_<;>intro c
   .exact zj (zu (e:=MW (ze .i64) (by unfold Yo;grind)))
   .refine Fo ?_ ?_<;>intro _ f
    .exact zj (zu (e:=MW (ze .i64) (by unfold Yo;grind)))
    .exact zj (zu (e:=MW (ze .i64) (by unfold Yo;grind)))
theorem zyU [ao G] (f:Bp a k) (d:Bp b j) (g:1000*(k+j)+50000<=cap):G0 G 285 [zl (zL a),zl (zL b)] (zp (JV a b)):=by
 refine Fq func285 ?_;refine Fw 6 ?_;refine Fk (ziX f C) ?_;refine Fk (ziX d C) ?_;refine Fo ?_ ?_<;>intro _ c
 .exact zj (zu (e:=MW zp (by unfold JV;grind)))
 .refine Fk (zxi f d g) ?_;exact zj (zu (e:=MW zp (by unfold JV;grind)))
theorem znq [ao G] (f:vE k xs) (m:1000*k+50000<=cap):xc prog G 378 [yo [zR 6 zL xs]] (Qi o8 (wv xs)):=by
 refine xM func378 Z Z Z Z fun l E hy=>Fh ?_;refine uM 5 Z fun h=>?_;unfold yE at h;refine xi (fun g=>⟨_,[(7,ML g),(6,MK xs.length),(5,zR 6 zL xs),(0,yieldS l),(1,yo [zR 6 zL xs])],[],[],((if xs.length<=1 then 0 else g),false)⟩) (fun g=>g<=xs.length) (fun g=>xs.length-g) 0 (BL _) (by rw [show (if xs.length<=1 then 0 else 0)=0 by split <;> rfl];exact aA (aa Z (aa Z (aa Z (aa Z (aa Z trivial)))))) ?_
 intro g o;refine Fh ?_;refine Fo ?_ ?_<;>intro _ j
 .have hg1:g<xs.length:=by omega
  have e:=vS (i:=g) (C:0<xs.length);have d:=vS (i:=g+1) (C:0<xs.length);refine Fi (zh Z Z Z (by omega) Gd) ?_;refine Fm fun p=>?_;refine zU 15 V ?_;(iterate 2 refine zz ?_)
  refine FI ?_ ?_<;>intro _ c
  .have a:¬ xs.length<=1:=by omega
   rw [MY a];refine zg ?_;refine zA ?_;refine zg ?_;refine Fi ((wt Z Z Z (by omega) (by omega)).sub (zI (n:=(((g+1)%xs.length:Nat):Int)) B)) ?_;refine Fi (zh Z Z Z (by omega) (YV (by omega))) ?_;refine Fl Z Z (gW (f _ d) (f _ e) C) ?_;refine ae.yield Z hy Z Z Z (vk (zfg hg1 C)) (yU _) (gB Z Z Z Z) Z Z fun y=>zg ?_;refine xK ?_ ?_<;>intro b
   .exact zj ⟨.inl Z,.inr b⟩
   .obtain rfl:y=true:=by grind
    refine zB<|Fv ?_;refine Do (g+1) ?_;exact⟨g+1,(by omega:g+1<=xs.length),by omega,by rw [MY a];exact MM⟩
  .have a:xs.length<=1:=by omega
   rw [MX a];refine zg ?_;refine yM Z Z<|zB<|Fv ?_;refine Do (g+1) ?_;exact⟨g+1,(by omega:g+1<=xs.length),by omega,by rw [MX a];exact MM⟩
 .exact⟨.inr Z,.inl (by rw [wn,aO,(C:g=xs.length)])⟩
def zsO:G0 G 284 [zR 6 zL xs] (wD 378 [yo [zR 6 zL xs]]):=by
 refine Fq func284 ?_;exact Hj
def zBh [ao G] (i:vE k xs) (j:400*k+21500<=cap) (n:xs.length<=1000000):G0 G 185 [zR 6 zL xs] (zR 6 zL (xs.map JW)):=by
 refine zs func185 ?_;refine zg ?_;refine zi<|Fs (yI 48 6) ?_;have a:(xs.map JW).length=xs.length:=BR _;refine xz (fun (m:Nat) (q:G3)=>⟨_,[(7,ML m),(6,MK xs.length),(5,zR 6 zL xs),(2,eqS (rowV q m))],[rowE q 48 6 m (((xs.map JW).take m).flatMap zL)],[],(0,false)⟩) (fun m q=>m<=xs.length/\zX q m) (fun m _=>xs.length-m) 0 none ⟨BL _,Z⟩ MM ?_;rintro m q ⟨o,hq⟩;refine Fh ?_;refine FP ?_ ?_<;>intro _ h
 .obtain⟨x,hx⟩:=FU xs m;have d:=AE hx;have hms:=yp (l:=xs.map JW) (by rw [Ba,hx];rfl);have e:((xs.map JW).take m).length=m:=by rw [BG,a];omega
  refine Fh ?_;refine Fm fun p=>?_;refine Fk (zC4 (i x d) C) ?_;refine FL 1 Z Z Z Z hq (by rw [yG (st:=6) GY,e]) fun c b=>?_;refine zz ?_;refine zM<|Fv ?_;refine Do (m+1) ?_
  exact⟨m+1,c,⟨C,b⟩,C,an zk Gp⟩
 .obtain rfl:m=xs.length:=C;refine zK<|Fs (yF 0 2 Z Z hq (l:=xs.map JW) (f:=zL) a Gi GX GK) ?_;exact zj zt
end Go.Proofs
