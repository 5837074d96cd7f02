/- Contracts of the products by limbs: straitref02. -/
import Derived.Test.YtceodgbmninaoaaGreatDoorSna
import Derived.Lib.BitFns
import Derived.Lib.Tables
import Derived.Lib.TrailingZeros
import Derived.Test.YtceodgbmninaoaaGreatDoorSma
set_option linter.all false
namespace Go.Proofs
open Go Go.Sv Num Tryz
variable {G:Imm}
variable {a b:G7} {p n:Nat} {e:List SV} {k m:Int}
def nzl (a:G7) (p:Nat):G7:=(List.range p).filter fun i=>decide (limb a i≠0)
def Qy (h:limb a p≠0):nzl a (p+1)=nzl a p++[p]:=by simp [nzl,Co,h]
def mU (h:limb a p=0):nzl a (p+1)=nzl a p:=by simp [nzl,Co,h]
theorem oa {a:G7} {p:Nat}:∀ d,(nzl a p).length<=(nzl a (p+d)).length/\((nzl a p).length=(nzl a (p+d)).length->low a p=low a (p+d))
  | 0=>⟨Af _,fun _=>rfl⟩
  | d+1=>by
    have b:=oa (a:=a) (p:=p) d
    by_cases h:limb a (p+d)=0
    . rw [<-An,mU h,xO,h,CM,At];exact b
    . rw [<-An,Qy h,Aw,Ap,Ax]
      exact⟨C,fun e=>by omega⟩
def zhy {q:Nat} (hq:limb a q≠0\/p<=q) (h:(nzl a p).length=(nzl a q).length):p<=q/\low a p=low a q:=by
 have b:p<=q:=by
  rcases hq with hq | hq
  .rcases Ab q p with d | c
   .have h1:=(oa (a:=a) (p:=q+1) (p-(q+1))).1;rw [(C:q+1+(p-(q+1))=p),Qy hq,Aw,Ap,Ax] at h1
    omega
   omega
  .omega
 have h1:=(oa (a:=a) (p:=p) (q-p)).2;grind
def nG (h:limb a p≠0):∀ d,(nzl a (p+1+d))[(nzl a p).length]? =some p
 | 0=>by rw [At,Qy h];simp
 | d+1=>by
  have b:=nG h d;by_cases h1:limb a (p+1+d)=0
  . rw [<-An,mU h1];omega
  . rw [<-An,Qy h1,Ad (yJ b)];omega
def UJ (a:G7):List (List SV):=(nzl a a.length).map fun i=>[ze .i64 (i:Nat),ze .u64 (limb a i:Nat)]
def Jm:(UJ a).length=(nzl a a.length).length:=by simp [UJ]
def zj0 (hp:p<a.length) (h:limb a p≠0):(UJ a)[(nzl a p).length]? =some [ML p,ze .u64 (limb a p:Nat)]:=by
 have:=nG h (a.length-(p+1));rw [(C:p+1+(a.length-(p+1))=a.length)] at this;simp only [UJ,Ba,this,AM]
def zj1 {k:Nat} (h:(UJ a)[k]? =some e):∃ p,p<a.length/\limb a p≠0/\(nzl a p).length=k/\e=[ML p,ze .u64 (limb a p:Nat)]:=by
 simp only [UJ,Ba] at h
 cases hn:(nzl a a.length)[k]? with
 | none=>grind
 | some p=>
  rw [hn] at h;cases h
  have b:=AE hn;simp only [nzl,AG,AI,decide_eq_true_eq] at b
  refine⟨p,b.1,b.2,?_,Z⟩;have d:=nG b.2 (a.length-(p+1));rw [(C:p+1+(a.length-(p+1))=a.length)] at d
  have c:(nzl a a.length).Nodup:=List.nodup_range.sublist List.filter_sublist;exact (List.getElem?_inj (yJ d) c).1 (d.trans hn.symm)
def zon {b:List SV} (h:b∈UJ a):b.length=2:=Iw
theorem zhz {m:Nat} [h:IsNat a m]:IsNat (List.replicate n 0++a) (4294967296^n*m):=
 ⟨JD (ve n) h.lim,by rw [YD,wi,CN,h.val,Br]⟩
def zaU:G0 G 334 [MK k,MK m] (MK (min (max k 0) m)):=by
 refine Fq func334 ?_;exact Hj
def JG:G0 G 340 [MK k,MK m] (MK (max (min k m) 0)):=by
 refine Fq func340 ?_;exact Hj
def Vk {m:Nat} [E:IsNat a m] [D:IsNat b n] (hs:a.length+b.length+2<=cap:=by exact ec (by decide)):G0 G 99 [zD a,zD b] (zD (dig (m*n))):=by
 have L:=hs;unfold cap at hs
 refine Fq func99 ?_;refine zA ?_;refine aG Z Z Z Z Z Z Z (Af _) (by omega) (by omega) fun o t=>Fh ?_
 refine xz (fun i out=>⟨_,[(6,ML i),(5,eqS (rowV (some (o,a.length+b.length)) (a.length+b.length))),(0,zD a),(1,zD b)],[rowE (some (o,a.length+b.length)) 125 1 (a.length+b.length) (out.flatMap wB)],[],(0,false)⟩)
  (fun i out=>i<=a.length/\wZ out/\out.length=a.length+b.length/\val out=low a i*n/\∀ j,i+b.length<=j->limb out j=0) (fun i out=>a.length-i)
  0 (List.replicate (a.length+b.length) 0) ⟨BL _,ve _,CN,by rw [wi,uV,Ca],fun j _=>XZ _ j⟩ MM ?_
 rintro i out ⟨hi,r,s,p,I⟩;refine Fh ?_;refine FP ?_ ?_<;>intro _ v
 .have hx:=yV E.lim i;refine uu (fun k e d=>⟨_,[(8,ML k),(7,ze .u64 (e:Nat)),(6,ML i),(5,eqS (rowV (some (o,a.length+b.length)) (a.length+b.length))),(0,zD a),(1,zD b)],[rowE (some (o,a.length+b.length)) 125 1 (a.length+b.length) (d.flatMap wB)],[],(0,false)⟩)
   (fun k e d=>k<=b.length/\e<4294967296/\wZ d/\d.length=a.length+b.length/\val d+4294967296^(i+k)*e=val out+4294967296^i*(limb a i*low b k)/\∀ j,i+b.length<=j->limb d j=0) (fun k e d=>b.length-k)
   0 0 out ⟨BL _,by simp,r,s,by rfl,I⟩ MM ?_
  rintro k e d ⟨N,H,h,q,g,hz'⟩;refine Fh ?_;refine Fo ?_ ?_<;>intro _ u
  .have hy:=yV D.lim k;have M:=yV h (i+k);have O:=oc hx hy M H;obtain⟨w,K⟩:∃ w,w=limb a i*limb b k+limb d (i+k)+e:=⟨_,Z⟩;refine Fw 22 ?_;refine Fi (zh Z Z Z (by simp) (y:=limb a i) (xN (by omega))) ?_;refine zA ?_;refine zg ?_;refine Fi (zh Z Z Z (by simp) (y:=limb b k) (xN (by omega))) ?_;refine zA ?_;refine Do (limb a i*limb b k) ?_;refine Do (i+k) ?_;refine Fi (xG Z Z Z (by omega)) ?_;refine Fi (ua 0 Z Z Z C) ?_;refine zA ?_;refine Do (limb a i*limb b k+limb d (i+k)) ?_;refine Do w ?_;refine Do (i+k) ?_;refine Fi (yO (z:=((w%4294967296:Nat):Int)) Z Z wh) ?_;refine zo (xG Z Z Z (by omega)) ?_;refine ae.storeRow 0 Z Z Z Z Z C Z Z<|zg ?_;refine Fi ((wH Z Z Z C GG).sub (zI (Wu _))) ?_;refine zA ?_;refine Fh ?_
   refine⟨k+1,w/4294967296,d.set (i+k) (w%4294967296),⟨by omega,by omega,Zy h (by omega),by grind,?_,fun j F=>by rw [vi (by omega)];grind⟩,by omega,MM⟩;have hs:=VP (l:=d) (j:=i+k) (w%4294967296) (by omega);rw [(C:i+(k+1)=i+k+1),xw,xO];subst K;exact zhx (Ct _ _ _) g hs
  .have x:k=b.length:=by omega
   rw [x,vF (Af _),D.val] at g
   refine Do (i+b.length) ?_;refine zA ?_;refine zo (xG Z Z Z (by omega)) ?_;refine ae.storeRow 0 Z Z Z Z Z C Z Z<|zg ?_;refine zA ?_;refine Fh ?_
   refine⟨i+1,d.set (i+b.length) e,⟨by omega,Zy h H,by grind,?_,fun j F=>by rw [vi (by omega)];grind⟩,by omega,MM⟩;have hs:=VP (l:=d) (j:=i+b.length) e (by omega);exact K6
 .have A:i=a.length:=by omega
  rw [A,vF (Af _),E.val] at p
  have:IsNat out (m*n):=⟨r,p⟩;refine zK<|zr<|ae.ghost _ Z (yF 0 5 Z Z t s Z yZ GK)<|zz ?_;refine Fl Z Z (xV GH) ?_;exact Hj
def zhA (h:wZ a):xc prog G 528 [yo [zD a]] (UJ a):=by
 refine xM func528 Z Z Z Z fun l E hy=>Fh ?_;refine uM 5 Z fun e=>?_;unfold yE at e;refine xi (γ:=Nat) (fun g=>⟨_,[(7,MK g),(6,MK a.length),(5,zD a),(0,yieldS l),(1,yo [zD a])],[],[],((nzl a g).length,false)⟩) (fun g=>g<=a.length) (fun g=>a.length-g) 0 (BL _) MM ?_;intro g i;refine Fh ?_;refine Fo ?_ ?_<;>intro _ f
 .have h1:=yV h g;refine zo (zh Z Z Z (by simp) (y:=limb a g) (xN (by omega))) ?_;(iterate 3 refine zz ?_);refine zx<|zz ?_
  refine FE ?_ ?_<;>intro _ d
  .have b:limb a g≠0:=by omega
   refine zA ?_;refine ae.yield Z hy Z Z Z (zj0 C b) (yU _) (gB Z Z Z Z) Z Z fun y=>zg ?_;refine Fp ?_ ?_<;>intro c
   .exact zj ⟨.inl Z,.inr c⟩
   .refine zA ?_;refine zg ?_;exact⟨g+1,(by omega:g+1<=a.length),by omega,Z,zk,wq _,Z,by simp only;rw [Qy b,c];simp⟩
  .have b:limb a g=0:=by omega
   refine Fu ?_;refine zA ?_;refine zg ?_;exact⟨g+1,(by omega:g+1<=a.length),by omega,Z,zk,wq _,Z,by simp only;rw [mU b]⟩
 .exact⟨.inr Z,.inl (by rw [Jm,(C:g=a.length)])⟩
def zj2:G0 G 513 [zD a] (wD 528 [yo [zD a]]):=by
 refine Fq func513 ?_;exact Hj
def zcl {m:Nat} [K:IsNat a m] [O:IsNat b n] (hs:a.length+b.length+2<=cap:=by exact ec (by decide)):G0 G 484 [zD a,zD b] (zD (dig (m*n))):=by
 have U:=hs;unfold cap at hs
 refine Fq func484 ?_;refine zA ?_;refine aG (n:=a.length+b.length) (c:=a.length+b.length) Z Z Z Z Z Z Z (Af _) (by omega) (by omega) fun s F=>Fm fun N=>?_;refine Fk zj2 ?_
 refine uN Z Z (zhA K.lim) (fun Q h=>zon h) J Z
  (fun k h i=>i=(0,false)/\∃ p out,(nzl a p).length=k/\p<=a.length/\wZ out/\out.length=a.length+b.length/\val out=low a p*n/\(∀j,p+b.length<=j->limb out j=0)/\h=[⟨some N,42,[eqS (rowV (some (s,a.length+b.length)) (a.length+b.length))],0⟩,rowE (some (s,a.length+b.length)) 125 1 (a.length+b.length) (out.flatMap wB)])
  (fun _ _ _=>False) ⟨Z,0,List.replicate (a.length+b.length) 0,Z,BL _,ve _,CN,by rw [wi,uV,Ca],fun j _=>XZ _ j,Z⟩ ?_ ?_ ?_
 .rintro l kk Q h i hk ⟨rfl,R,out,r,x,u,v,g,H,rfl⟩;obtain⟨p,X,A,rfl,rfl⟩:=zj1 hk;obtain⟨W,E⟩:=zhy (.inl A) r;rw [E] at g
  replace H:∀ j,p+b.length<=j->limb out j=0:=fun j M=>H j (by omega)
  have hx:=yV K.lim p;refine Fh ?_;refine⟨Z,?_⟩;refine Fh ?_;refine uu (fun k e d=>⟨_,[(23,ML k),(22,MK b.length),(21,zD b),(8,ze .u64 (e:Nat)),(7,ze .u64 (limb a p:Nat)),(6,ML p),(5,G9 N),(3,yo [zD b])],[⟨some N,42,[eqS (rowV (some (s,a.length+b.length)) (a.length+b.length))],0⟩,rowE (some (s,a.length+b.length)) 125 1 (a.length+b.length) (d.flatMap wB)],[],(0,false)⟩)
   (fun k e d=>k<=b.length/\e<4294967296/\wZ d/\d.length=a.length+b.length/\val d+4294967296^(p+k)*e=val out+4294967296^p*(limb a p*low b k)/\∀ j,p+b.length<=j->limb d j=0) (fun k e d=>b.length-k)
   0 0 out ⟨BL _,by omega,u,v,by rw [uV,CM,CM,CM],H⟩ MM ?_
  rintro k e d ⟨a0,P,q,t,o,hz'⟩;refine Fh ?_;refine Fo ?_ ?_<;>intro _ I
  .have hy:=yV O.lim k;have Y:=yV q (p+k);have hb:=oc hx hy Y P;obtain⟨w,S⟩:∃ w,w=limb a p*limb b k+limb d (p+k)+e:=⟨_,Z⟩;refine Fi (zh Z Z Z (by omega) (y:=limb b k) (xN (by omega))) ?_;refine zA ?_;refine Do (limb a p*limb b k) ?_;refine Do (p+k) ?_;refine Fi (xG (i:=p+k) Z Z Z (by omega)) ?_;refine Fi (ua 1 Z Z Z (by omega)) ?_;refine zA ?_;refine Do (limb a p*limb b k+limb d (p+k)) ?_;refine Do w ?_;refine Do (p+k) ?_;refine Fi (yO (z:=((w%4294967296:Nat):Int)) Z Z wh) ?_;refine zo (xG (i:=p+k) Z Z Z (by omega)) ?_;refine ae.storeRow 1 Z Z Z Z Z (by omega) Z Z<|zg ?_;refine Fi ((wH Z Z Z (by omega) GG).sub (zI (Wu _))) ?_;refine zA ?_;refine Fh ?_
   refine⟨k+1,w/4294967296,d.set (p+k) (w%4294967296),⟨by omega,by omega,Zy q (by omega),by rw [Cd];exact t,?_,fun j M=>by rw [vi (by omega)];exact hz' j M⟩,by omega,MM⟩;have hs:=VP (l:=d) (j:=p+k) (w%4294967296) (by omega);rw [(C:p+(k+1)=p+k+1),xw,xO];subst S;exact zhx (Ct _ _ _) o hs
  .have L:k=b.length:=by omega
   rw [L,vF (Af _),O.val] at o
   refine Do (p+b.length) ?_;refine zA ?_;refine zo (xG (i:=p+b.length) Z Z Z (by omega)) ?_;refine ae.storeRow 1 Z Z Z Z Z (by omega) Z Z<|zM ?_
   refine⟨Z,p+1,d.set (p+b.length) e,by rw [Qy A];simp,by omega,Zy q P,by rw [Cd];exact t,?_,fun j M=>by rw [vi (by omega)];exact hz' j (by omega),Z⟩;have hs:=VP (l:=d) (j:=p+b.length) e (by omega);exact K6
 .rintro h i D ⟨rfl,R,out,r,x,u,v,g,H,rfl⟩;rw [Jm] at r
  rw [(zhy (.inr x) r).2,vF (Af _),K.val] at g
  have:IsNat out (m*n):=⟨u,g⟩;apply zr;refine zz ?_;refine ae.ghost _ Z (yF 1 60 Z Z F (l:=out) (f:=wB) v Z yZ GK)<|Fl Z Z (wG GH) ?_;exact Hj
 .exact Ho
def zoo {m:Nat} [e:IsNat a m] [d:IsNat b n] (c:max a.length b.length<=cap:=by exact ef (by decide)):G0 G 485 [zD a,zD b] (zD (dig (m-n))):=by
 refine Fq func485 ?_;refine Fk (od c) ?_;exact Hj
def zcm (e:n+a.length<=cap):G0 G 486 [zD a,MK n] (zD (List.replicate n 0++a)):=by
 unfold cap at e
 refine Fq func486 ?_;refine aG Z Z Z Z Z Z Z (Af _) C GH fun h d=>zz ?_;refine FL 0 Z Z Z Z d (by simp) fun g b=>?_;refine ae.ghost _ Z (yF 0 8 Z Z b (l:=List.replicate n 0++a) B CB.symm yZ GK) ?_
 exact Lk
variable {m n k l:Nat} {a b:G7}
instance isNat_shift {a:G7} {m n:Nat} [h:IsNat a m]:IsNat (List.replicate n 0++a) (4294967296^n*m):=zhz
instance sz_shift {a:G7} {n k:Nat} [h:Sz a k]:Sz (List.replicate n 0++a) (n+k):=⟨by have:=h.h;grind⟩
def zop {c:G7} {o j:Nat} [f:IsNat a m] [e:IsNat b n] [d:IsNat c o] [i:Sz a k] [g:Sz b l] [p:Sz c j] (h:k+l+j+3<=cap):G0 G 436 [zR 1 id [[zD a],[zD b],[zD c]]] (zD (dig (m+n+o))):=by
 have:=zhv (G:=G) (ll:=[a,b,c]) (fun l h=>by simp at h;rcases h with rfl | rfl | rfl;exact f.lim;exact e.lim;exact d.lim) (by have:=i.h;have:=g.h;have:=p.h;grind);simp only [Ar,B2,CC,CF,f.val,e.val,d.val,At,<-An] at this;exact this
def zmo [h:Bd m k] [h':Bd n l]:(dig (m+n)).length<=max k l+1:=zT (by
 have h1:=Wr (l:=max k l) h.h (Af _) C;have a:=Wr (l:=max k l) h'.h (Af _) C
 omega)
def zCs (p c b n0 a:Nat):c*n0+p*((c+b)*(n0+a)-(c*n0+b*a))+p*p*(b*a)=(c+p*b)*(n0+p*a):=by
 have e:(c+b)*(n0+a)-(c*n0+b*a)=c*a+b*n0:=by
  rw [Bs,Ci,Ci];omega
 grind
def zoq (N:Nat):∀ (a b:G7) (m n:Nat),IsNat a m->IsNat b n->a.length+b.length<=N->8*(a.length+b.length)+100<=cap->G0 G 483 [zD a,zD b,jQ 483] (zD (dig (m*n))):=by
 refine Nat.strongRecOn N fun N g=>?_;intro a b m n j i D s;unfold cap at s
 obtain⟨k,A⟩:∃ k,k=max a.length b.length/2:=⟨_,Z⟩;refine Fq func483 ?_;refine Fi ((vl Z Z Z C C (wrap_i64 C C)).sub (zI (n:=((k:Nat):Int)) C)) ?_;refine FP ?_ ?_<;>intro _ f
 .refine Fl Z Z (zcl GH) ?_;exact Hj
 .haveI r:IsNat ((a.take k).drop 0) (val (a.take k)):=uW (oe j.lim k);haveI q:IsNat ((a.take a.length).drop k) (val (a.drop k)):=by rw [B3];exact uW (uC j.lim k)
  haveI p:IsNat ((b.take k).drop 0) (val (b.take k)):=uW (oe i.lim k);haveI o:IsNat ((b.take b.length).drop k) (val (b.drop k)):=by rw [B3];exact uW (uC i.lim k)
  haveI s1:Sz ((a.take k).drop 0) k:=⟨by grind⟩
  haveI s2:Sz ((a.take a.length).drop k) (a.length-k):=⟨B⟩;haveI s3:Sz ((b.take k).drop 0) k:=⟨by grind⟩
  haveI s4:Sz ((b.take b.length).drop k) (b.length-k):=⟨B⟩;haveI H:=aW r s1;haveI b2:=aW q s2;haveI F:=aW p s3;haveI E:=aW o s4;have l1:=s1.h;have l2:=s2.h;have z:=s3.h;have y:=s4.h;have d:=WR a k C;have c:=WR b k C;rw [j.val] at d
  rw [i.val] at c
  generalize val (a.take k)=m0 at *
  generalize val (a.drop k)=m1 at *
  generalize val (b.take k)=n0 at *
  generalize val (b.drop k)=n1 at *
  have x:=zmo (m:=m0) (n:=m1);have w:=zmo (m:=n0) (n:=n1);have v:=Sz.h (l:=dig ((m0+m1)*(n0+n1)-(m0*n0+m1*n1)));have u:=Sz.h (l:=dig (m1*n1));refine zB<|Fw 18 ?_;refine Fi (Xx Z Z) ?_;refine Fi (xU (m:=k) Z Z (.inl ⟨Z,Z⟩) (.inr ⟨_,_,Z,Z⟩) (.inl Z) C C) ?_;refine Fi (xU (m:=k) Z Z (.inl ⟨Z,Z⟩) (.inr ⟨_,_,Z,Z⟩) (.inl Z) C C) ?_;refine Fi (yY Z Z Z (g (k+k) C _ _ _ _ r p C GH)) ?_;refine Fi (Xx Z Z) ?_;refine Fi (xU (m:=0) Z Z (.inr ⟨_,_,Z,Z⟩) (.inl ⟨Z,Z,Z⟩) (.inl Z) C (Af _)) ?_;refine Fi (xU (m:=0) Z Z (.inr ⟨_,_,Z,Z⟩) (.inl ⟨Z,Z,Z⟩) (.inl Z) C (Af _)) ?_;refine Fi (yY Z Z Z (g (a.length-k+(b.length-k)) C _ _ _ _ q o C GH)) ?_;refine Fw 24 ?_;refine Fi (Xx Z Z) ?_;refine Fi (xU (m:=k) Z Z (.inl ⟨Z,Z⟩) (.inr ⟨_,_,Z,Z⟩) (.inl Z) C C) ?_;refine Fi (xU (m:=0) Z Z (.inr ⟨_,_,Z,Z⟩) (.inl ⟨Z,Z,Z⟩) (.inl Z) C (Af _)) ?_;refine Fl Z Z (Vi GH) ?_;refine Fi (xU (m:=k) Z Z (.inl ⟨Z,Z⟩) (.inr ⟨_,_,Z,Z⟩) (.inl Z) C C) ?_;refine Fi (xU (m:=0) Z Z (.inr ⟨_,_,Z,Z⟩) (.inl ⟨Z,Z,Z⟩) (.inl Z) C (Af _)) ?_;refine Fl Z Z (Vi GH) ?_;refine Fi (yY Z Z Z (g ((dig (m0+m1)).length+(dig (n0+n1)).length) C _ _ _ _ isNat_dig isNat_dig (Af _) GH)) ?_;refine Fl Z Z (Vi GH) ?_;refine Fl Z Z (zoo (ef GH)) ?_;refine Fl Z Z (zcm GH) ?_;refine Do (2*k) ?_;refine Fl Z Z (zcm GH) ?_;refine Fl Z Z (zop GH) ?_;exact zj (zu (e:=MW zD (MW dig (by rw [d,c,<-zCs,Nat.two_mul,Ct]))))
def Kn [f:IsNat a m] [e:IsNat b n] [d:Sz a k] [c:Sz b l] (h:8*(k+l)+100<=cap:=by decide):G0 G 421 [zD a,zD b] (zD (dig (m*n))):=by
 have h1:=d.h;have j:=c.h;have i:(dig m).length<=k:=by have:=aW f d;exact zT this.h
 have g:(dig n).length<=l:=by have:=aW e c;exact zT this.h
 refine Fq func421 ?_;refine yT fun o=>?_;refine zx<|zz ?_;refine zw ?_;refine ae.ghost _ Z (zjV 0 5 Z Z)<|zM<|Fw 7 ?_;refine Fi (Xx Z Z) ?_;refine Fl Z Z (wG C) ?_;refine Fl Z Z (wG C) ?_;refine Fi (yY Z Z Z (zoq _ _ _ _ _ isNat_dig isNat_dig (Af _) C)) ?_;exact Hj
variable {x s y:Nat} {a:G7}
def Vl (hx:x<4294967296) (hy:y<4294967296):qG .or .u32 x y=((x ||| y:Nat):Int):=by
 have h:x ||| y<2^32:=Cw (by omega) GN
 have a:(BitVec.ofInt 32 (x:Int)).toNat=x:=by simp;omega
 have e2:(BitVec.ofInt 32 (y:Int)).toNat=y:=by simp;omega
 show IntKind.u32.wrap ((BitVec.ofInt 32 (x:Int) ||| BitVec.ofInt 32 (y:Int)).toNat:Nat)=_;rw [BitVec.toNat_or,a,e2,vt C (by omega)]
def zqR (h:x%2^s=0) (hy:y<2^s):x ||| y=x+y:=by
 have:=Nat.shiftLeft_add_eq_or_of_lt hy (x/2^s);rw [Nat.shiftLeft_eq,Nat.div_mul_cancel (Nat.dvd_of_mod_eq_zero h)] at this;omega
def gZ (x s:Nat):(x:Int)*2^((s:Nat):Int).toNat=((x*2^s:Nat):Int):=by rfl
def gY (x s:Nat):(x:Int)/2^((s:Nat):Int).toNat=((x/2^s:Nat):Int):=by rfl
def iV (a:s<=32):4294967296=2^s*2^(32-s):=by rw [<-Ct,(C:s+(32-s)=32)]
def kJ {c:Nat} (b:s<=32) (i:c<2^s):(x*2^s)%4294967296 ||| c=(x*2^s+c)%4294967296/\(x*2^s)/4294967296=(x*2^s+c)/4294967296:=by
 have h:2^s∣4294967296:=⟨2^(32-s),iV b⟩;have d:(x*2^s)%4294967296%2^s=0:=by rw [Nat.mod_mod_of_dvd _ h,Nat.mul_mod_left]
 have a:=Be (x*2^s) (C:0<4294967296);have g:(x*2^s)%4294967296+2^s<=4294967296:=by
  obtain⟨v,f⟩:=Nat.dvd_of_mod_eq_zero d;rw [f] at a ⊢
  have e:=iV b;generalize 2^(32-s)=y at e
  rw [e] at a ⊢
  have:=Nat.lt_of_mul_lt_mul_left a
  calc 2^s*v+2^s=2^s*(v+1):=by rfl
   _<=2^s*y:=Cq _ this
 rw [zqR d i];omega
def Ko (j:Nat):∀ n:Nat,limb (dig n) j=n/4294967296^j%4294967296:=by
 induction j with
 | zero=>
  intro n;by_cases h:n=0
  . subst h;rw [ay];rfl
  . rw [Xy h,XN,CG,CP]
 | succ j ih=>
  intro n;by_cases h:n=0
  . subst h;rw [ay,uU,Nat.zero_div,Nat.zero_mod]
  . rw [Xy h,XO,ih,CQ,Ck,<-Ch]
def zmp (b:wZ a) (w:Nat):val a/4294967296^w=val (a.drop w):=by
 rw [zer a w,CR _ _ (CS C),CT (qJ b w),Br]
def zcn (c:wZ a) {w j:Nat} (b:s<=32):limb (dig (val (a.drop w)/2^s)) j=(limb a (w+j)+4294967296*limb a (w+j+1))/2^s%4294967296:=by
 rw [Ko,CQ,Ck,<-CQ,zmp (uC c w),CV,Kj,Kj];have e:=iV b;generalize val (List.drop (w+j+1+1) a)=r;generalize limb a (w+j)=x;generalize limb a (w+j+1)=y;have e2:x+4294967296*(y+4294967296*r)=x+4294967296*y+2^s*(2^(32-s)*r*4294967296):=by
  rw [Ci,<-An];congr 1;generalize 2^s=p at *
  generalize 2^(32-s)=q at *
  rw [<-Cj,CW q r,<-Cj,<-Cj,<-e]
 rw [e2,CR _ _ (CS C),Nat.add_mul_mod_self_right]
def ub (k:Nat):2^k=4294967296^(k/32)*2^(k%32):=by
 rw [show (4294967296:Nat)=2^32 by rfl,<-CX,<-Ct,CY]
def zmq (b:wZ a) (k:Nat):val a/2^k=val (a.drop (k/32))/2^(k%32):=by
 rw [ub,<-CQ,zmp b]
def iT (h:s<32):2^s<=2147483648:=Cm (n:=2) (by simp) (C:s<=31)
def l7 {c:Nat} (hx:x<4294967296) (a:s<32) (d:c<2^s):x*2^s<9223372036854775808/\(x*2^s+c)/4294967296<2^s:=by
 have h1:=iT a;have e:=CL (C:x<=4294967295) h1;refine⟨by omega,?_⟩;rw [Cl (by simp)];have b:(x+1)*2^s<=4294967296*2^s:=BK _ (by omega);grind
def mZ {v p c q ps l a:Nat} (hp:p=q*a) (h:v+p*c=q*(ps*l)):v+p*((x*ps+c)%4294967296)+p*4294967296*((x*ps+c)/4294967296)=q*(ps*(l+a*x)):=by
 have e:p*((x*ps+c)%4294967296)+p*4294967296*((x*ps+c)/4294967296)=p*(x*ps)+p*c:=by
  rw [Cj,<-Ci,Cy,Ci]
 grind
def zet {l:G7} {n:Nat} {f:Nat->Nat} (a:l.length=n) (h:∀ t,t<n->limb l t=f t) {t:Nat} (ht:t<n+1) (hx:x=f n:=by rfl):limb (l++[x]) t=f t:=by
 by_cases h1:t<n
 .rw [<-h t h1];simp only [limb,Ay];grind
 .have:t=n:=C;subst this;subst hx;subst a;simp [limb,Ay]
def zco (hx:x<4294967296) (hy:y<4294967296):G0 G 245 [ze .u32 x,ze .u32 y] (yR [ze .u32 (x*y/4294967296:Nat),ze .u32 (x*y%4294967296:Nat)]):=by
 have a:=CL (C:x<=4294967295) (C:y<=4294967295);obtain⟨w,b⟩:∃ w,w=x*y:=⟨_,Z⟩;rw [<-b] at a ⊢
 refine Fq func245 ?_;refine zA ?_;refine zz ?_;refine zA ?_;refine Fi (yK (z:=((w:Nat):Int)) Z Z Z (MW some (by omega)) (xA (by simp) (by omega))) ?_;refine Fi ((wH Z Z Z C GG).sub (zI (Wu _))) ?_;refine zA ?_;refine zz ?_;refine Fi (yO (z:=((w%4294967296:Nat):Int)) Z Z wh) ?_;exact Hj
def zhD {m k:Nat} [w:IsNat a m] (I:k<=65536) (F:a.length+10000<=cap):G0 G 228 [zD a,MK k] (zD (dig (m*2^k))):=by
 unfold cap at F
 have d:k%32<32:=Be _ (by simp);refine Fq func228 ?_;refine Fi ((zb Z Z zaU).sub (zI (n:=((k:Nat):Int)) (by omega))) ?_;refine Fi ((vl Z Z Z (by simp) (by simp) (wrap_i64 (by omega) (by omega))).sub (zI (n:=((k/32:Nat):Int)) (by rfl))) ?_;refine aG Z Z Z Z Z Z Z (Af _) (by omega) GH fun v o=>Fh ?_
 refine uf (fun i q c out=>⟨_,[(7,ML i),(6,ze .u32 (c:Nat)),(5,eqS (rowV q (k/32+i))),(1,ML k),(0,zD a)],[rowE q 125 1 (k/32+i) (out.flatMap wB)],[],(0,false)⟩)
  (fun i q c out=>i<=a.length/\zX q (k/32+i)/\c<2^(k%32)/\wZ out/\out.length=k/32+i/\val out+4294967296^(k/32+i)*c=4294967296^(k/32)*(2^(k%32)*low a i)) (fun i q c out=>a.length-i)
  0 (some (v,k/32)) 0 (List.replicate (k/32) 0) ⟨BL _,o,CS C,ve _,CN,by rw [wi,uV,CM,CM,CM]⟩ MM ?_
 rintro i q c out ⟨hi,hq,A,h,hln,b⟩;have H:=iT d;refine Fh ?_;refine FP ?_ ?_<;>intro _ r
 .have hx:=yV w.lim i;obtain⟨E,u⟩:=l7 hx d A;obtain⟨t,s⟩:=kJ (x:=limb a i) (by omega) A;refine Fi (zh Z Z Z (by simp) (y:=limb a i) (xN (by omega))) ?_;refine zA ?_;refine zz ?_;refine Fi ((wt Z Z Z (by simp) (by simp)).sub (zI (n:=((k%32:Nat):Int)) (by rfl))) ?_;refine zA ?_;refine Fi ((ZC Z Z Z (by omega) GA).sub (zI (n:=((limb a i*2^(k%32):Nat):Int)) (by rw [gZ];exact xA C C))) ?_;refine Fi (yO (z:=((limb a i*2^(k%32)%4294967296:Nat):Int)) Z Z wh) ?_;refine zo ((vg Z B Z Z).sub (zI (by rw [Vl (by omega) (by omega),t]))) ?_;refine Fi (xj [(limb a i*2^(k%32)+c)%4294967296] Z Z J Z B Z Z Z) ?_;refine Fx 0 Z Z Z Z hq GU fun p g=>?_;refine Fi ((wH Z Z Z C GG).sub (zI ((Wu _).trans (by rw [s])))) ?_;refine zA ?_;refine zg ?_;refine zA ?_;refine Fh ?_
  refine⟨i+1,p,(limb a i*2^(k%32)+c)/4294967296,out++[(limb a i*2^(k%32)+c)%4294967296],⟨by omega,g,u,vV h (by omega),by grind,?_⟩,by omega,an zk Gv⟩;rw [uD,hln,xO,(C:k/32+(i+1)=k/32+i+1),xw];exact mZ (Ct _ _ _) b
 .have j:i=a.length:=by omega
  rw [j,vF (Af _),w.val] at b
  refine zK<|zg ?_;refine Fi (xj [c] Z Z J Z B Z Z Z) ?_;refine FL 0 Z Z Z Z hq GU fun D e=>?_;refine ae.ghost _ Z (yF 0 42 Z Z e (l:=out++[c]) (by simp [hln]) CB.symm yZ GF) ?_
  have:IsNat (out++[c]) (m*2^k):=⟨vV h (by omega),by rw [uD,hln,j,b,ub k,Ck m,Cj]⟩
  refine Fl Z Z (xV GD) ?_;exact Hj
def kI {m k:Nat} [hm:IsNat a m] (r:k<=65536) (o:a.length+10000<=cap):G0 G 241 [zD a,MK k] (zD (dig (m*2^k))):=by
 unfold cap at o
 have hsl:k%32<32:=Be _ C;refine Fq func241 ?_;refine Fi ((zb Z Z JG).sub (zI (n:=((k:Nat):Int)) C)) ?_;refine Fi ((vl Z Z Z C C (wrap_i64 C C)).sub (zI (n:=((k/32:Nat):Int)) C)) ?_;refine Fi ((vl Z Z Z C C (wrap_i64 C C)).sub (zI (n:=((k/32:Nat):Int)) C)) ?_;refine zA ?_;refine Do (k/32+a.length+1) ?_;refine aG Z Z Z Z Z Z Z C C GH fun h e=>Fh ?_;refine uf (fun i q c out=>⟨_,[(24,ML i),(23,MK a.length),(22,zD a),(6,ze .u32 (c:Nat)),(5,eqS (rowV q (k/32+i))),(1,ML k)],[rowE q 125 1 (k/32+i) (out.flatMap wB)],[],(0,false)⟩)
  (fun i q c out=>i<=a.length/\zX q (k/32+i)/\c<2^(k%32)/\wZ out/\out.length=k/32+i/\val out+4294967296^(k/32+i)*c=4294967296^(k/32)*(2^(k%32)*low a i)) (fun i q c out=>a.length-i)
  0 (some (h,k/32+a.length+1)) 0 (List.replicate (k/32) 0) ⟨BL _,e,CS C,ve _,CN,by rw [wi,uV,CM,CM,CM]⟩ MM ?_
 rintro i q c out ⟨hi,hq,hc,hlo,hln,hval⟩;have p:=iT hsl;refine Fh ?_;refine FP ?_ ?_<;>intro _ g
 .exact He
 .have d:i=a.length:=C;rw [d,vF (Af _),hm.val] at hval
  refine zK<|zg ?_;refine Fi (xj [c] Z Z J Z B Z Z Z) ?_;refine FL 0 Z Z Z Z hq GU fun j b=>?_;refine ae.ghost _ Z (yF 0 47 Z Z b (l:=out++[c]) (by simp [hln]) CB.symm yZ GF) ?_
  have:IsNat (out++[c]) (m*2^k):=⟨vV hlo C,by rw [uD,hln,d,hval,ub k,Ck m,Cj]⟩
  refine Fl Z Z (wG GD) ?_;exact Hj
def zcp {m k:Nat} [g:IsNat a m] (F:k<=65536) (D:a.length<=cap):G0 G 232 [zD a,MK k] (zD (dig (m/2^k))):=by
 unfold cap at D
 have A:k%32<32:=Be _ C;have r:=zmq g.lim k;rw [g.val] at r
 refine Fq func232 ?_;refine zo ((zb Z Z zaU).sub (zI (n:=((k:Nat):Int)) C)) ?_;refine zz ?_;refine zx<|ae.ghost _ Z (yI 125 1)<|Fh ?_;refine Fi ((vl Z Z Z C C (wrap_i64 C C)).sub (zI (n:=((k/32+0:Nat):Int)) C)) ?_;refine Ju [1,0] (fun j q out z=>(6,MK (k/32+j:Nat))::(5,eqS (rowV q j))::z) (fun j q out=>[rowE q 125 1 j (out.flatMap wB)]) (fun j q out=>(j=0\/k/32+j<=a.length)/\zX q j/\wZ out/\out.length=j/\∀ t,t<j->limb out t=limb (dig (m/2^k)) t) (fun j q out=>a.length-(k/32+j)) 0 none [] ⟨.inl Z,Z,ug,Z,fun t h=>by omega⟩ ?_
 rintro j q out ⟨H,hq,d,hln,p⟩;refine Fh ?_;refine FP ?_ ?_<;>intro _ o
 .have hx:=yV g.lim (k/32+j);have hy:=yV g.lim (k/32+j+1);obtain⟨v,x⟩:∃ v,v=limb a (k/32+j)+4294967296*limb a (k/32+j+1):=⟨_,Z⟩;have e:=zcn g.lim (w:=k/32) (s:=k%32) (j:=j) C;rw [<-r,<-x] at e
  refine Fi (zh Z Z Z C (y:=limb a (k/32+j)) (xN C)) ?_;refine zA ?_;refine Fh ?_;refine Do (k/32+j+1) ?_;refine FP ?_ ?_<;>intro _ i
  .refine Do (k/32+j+1) ?_;refine Fi (zh Z Z Z C (y:=limb a (k/32+j+1)) (xN C)) ?_;refine zA ?_;refine Fi ((ZC Z Z Z C GG).sub (zI (n:=((4294967296*limb a (k/32+j+1):Nat):Int)) ((xA GV GV).trans GV))) ?_;refine Fi ((vg Z B Z Z).sub (zI (n:=((v:Nat):Int)) (by rw [Ws C C,Nat.or_comm,kK hx];omega))) ?_;refine Fi ((wt Z Z Z C C).sub (zI (n:=((k%32:Nat):Int)) C)) ?_;refine zA ?_;refine Fi ((wH Z Z Z C GA).sub (zI (gY v (k%32)))) ?_;refine zo (yO (z:=((limb (dig (m/2^k)) j:Nat):Int)) Z Z (wh.trans (by omega))) ?_;refine Fi (xj [limb (dig (m/2^k)) j] Z Z J Z B Z Z Z) ?_;refine Fx 0 Z Z Z Z hq GU fun c b=>?_;refine Do (k/32+(j+1)) ?_
   exact⟨j+1,c,out++[limb (dig (m/2^k)) j],⟨C,b,vV d (yV (xe _) _),by simp [hln],fun t ht=>zet hln p ht⟩,C,an zk Gv⟩
  .have u:limb a (k/32+j+1)=0:=wJ C;refine zB<|zJ<|zz ?_;refine Fi ((zC Z Z).sub (zI (n:=((v:Nat):Int)) C)) ?_;refine Fi ((wt Z Z Z C C).sub (zI (n:=((k%32:Nat):Int)) C)) ?_;refine zA ?_;refine Fi ((wH Z Z Z C GA).sub (zI (gY v (k%32)))) ?_;refine zo (yO (z:=((limb (dig (m/2^k)) j:Nat):Int)) Z Z (wh.trans (by omega))) ?_;refine Fi (xj [limb (dig (m/2^k)) j] Z Z J Z B Z Z Z) ?_;refine Fx 0 Z Z Z Z hq GU fun c b=>?_;refine Do (k/32+(j+1)) ?_
   exact⟨j+1,c,out++[limb (dig (m/2^k)) j],⟨C,b,vV d (yV (xe _) _),by simp [hln],fun t ht=>zet hln p ht⟩,C,an zk Gv⟩
 .refine zK<|zr ?_
  have E:(dig (m/2^k)).length<=a.length-k/32:=zT (by
   rw [r];refine Wr (wz (uC g.lim (k/32))) (Cu _ _) ?_
   simp)
  have:IsNat out (m/2^k):=⟨d,by rw [Qw C C p,xu]⟩
  refine ae.ghost _ Z (yF 0 5 Z Z hq hln Z yZ GK)<|zz ?_;refine Fl Z Z (xV GH) ?_;exact zj zt
def zeu (a:G7) (w i:Nat):limb (a.drop w) i=limb a (w+i):=by simp [limb,Ay]
def zot {x y s:Nat} (a:s<=32):(x+4294967296*y)/2^s=y*2^(32-s)+x/2^s:=by
 have e:=iV a;have e2:x+4294967296*y=x+2^s*(y*2^(32-s)):=by
  rw [Ck y,<-Cj,<-e]
 rw [e2,CR _ _ (CS C),Ao]
def n9 {out:G7} {i z:Nat} {f d:Nat->Nat} (hi:i<out.length) (h1:∀ t,t<i->limb out t=f t) (b:∀ t,i<=t->limb out t=d t) (a:z=f i):
 (∀t,t<i+1->limb (out.set i z) t=f t)/\∀ t,i+1<=t->limb (out.set i z) t=d t:=by
 refine⟨fun t ht=>?_,fun t ht=>by rw [vi C];grind⟩;by_cases h:t=i
 .subst h;rw [Xb hi,a]
 .rw [vi C];grind
def Kp (x:Nat):x &&& 4294967295=x%4294967296:=Nat.and_two_pow_sub_one_eq_mod x 32
def zhE (x y:Nat):x*y=x%4294967296*(y%4294967296)+4294967296*(x/4294967296*(y%4294967296)+x%4294967296*(y/4294967296))+18446744073709551616*(x/4294967296*(y/4294967296)):=by
 have hx:=Cy x 4294967296;have hy:=Cy y 4294967296;grind
def zqT {i:Nat} (h:i<256):∃ hk:i<Lib.len8tab.size,(Lib.len8tab[i]'hk).toNat=Lib.bitLen i:=by
 have h':i<Lib.len8tab.size:=by rw [Lib.len8tab_size];exact h
 refine⟨h',?_⟩;have:=Lib.len8_eq ⟨i,h⟩;simp only [Lib.len8,BQ,ByteArray.getElem?_lt' _ _ h',AA] at this;omega
def vW {x:Nat} (h:x<256):Lib.bitLen x<=8:=Lib.bitLen_le8 ⟨x,h⟩
def jO:Array Value:=(Lib.deBruijn64tab.map fun n=>Value.int .u8 (n:Nat)).toArray
class ao (G:Imm):Prop where
 h:G 5=some jO
def zuA {x s:Nat} (hx:x<4294967296) (a:s<32):x/2^s<2^(32-s):=by
 rw [Cl (CS C),Ck,<-iV C];omega
def qK {l:G7} (e:l.length<=cap) (hne:l≠[]):CallSpec prog G 236 [zD l] [] (fun s H'=>∃ b c,zX (some (b,c)) l.length/\s=eqS (rowV (some (b,c)) l.length)/\H'=[rowE (some (b,c)) 125 1 l.length (l.flatMap wB)]):=by
 unfold cap at e
 refine Fq func236 ?_;refine Fi (WQ Z Z Z) ?_;refine qH Z Z (fun f=>?_) ?_
 .exact M1 f hne
 .refine zg ?_;refine ae.buildRow Z Z Z Z Z Z J Z (.inl Z) Z Z fun g a=>zz ?_;refine Fx 0 Z Z Z Z a Z fun d hq7=>?_;obtain _ | ⟨b,c⟩:=d
  .exact K8
  exact IC
def zou {a:G7} {m k:Nat} [F:IsNat a m] (S:k<=65536) (P:a.length<=cap):G0 G 243 [zD a,MK k] (zD (dig (m/2^k))):=by
 unfold cap at P
 have M:k%32<32:=Be _ (by simp);have A:=zmq F.lim k;rw [F.val] at A
 obtain⟨d,e⟩:∃ d,d=a.drop (k/32):=⟨_,Z⟩;rw [<-e] at A
 have y:d.length=a.length-k/32:=by rw [e];simp
 have r:=e▸uC F.lim _;refine zs func243 ?_;refine Fh ?_;refine wO<|zg ?_;refine Fi ((zb Z Z JG).sub (zI (n:=((k:Nat):Int)) (by omega))) ?_;refine Fi ((vl Z Z Z (by simp) (by simp) (wrap_i64 (by omega) (by omega))).sub (zI (n:=((k/32:Nat):Int)) (by rfl))) ?_;refine FQ ?_ ?_<;>intro _ L
 .refine zr<|Fi ((yt Z Z).sub (vz (l:=dig (m/2^k)) (uv.2 (by rw [A,Aa (l:=d) (by omega)];simp [val])))) ?_
  exact zj zt
 .refine Fi ((vl Z Z Z (by simp) (by simp) (wrap_i64 (by omega) (by omega))).sub (zI (n:=((k/32:Nat):Int)) (by rfl))) ?_;refine Fi ((xU (m:=0) Z Z (.inr ⟨_,_,Z,Z⟩) (.inl ⟨Z,Z,Z⟩) (.inl Z) (by omega) (Af _)).sub (show ∀I v,_->(zD d).den I v from fun I v h=>by rw [B3,<-e] at h;exact h)) ?_;refine aH Z Z Z (qK GH (fun h=>by grind)) Z Z Z ?_;rintro s H1 ⟨b,c,O,rfl,rfl⟩;refine Fh ?_;refine zi<|wN<|zi<|zg ?_;refine Fi (xd Z Z O) ?_;refine Xt [20,5,1] (fun i out z=>(21,ML i)::z) (fun i out=>[rowE (some (b,c)) 125 1 d.length (out.flatMap wB)]) (fun i out=>i<=d.length/\wZ out/\out.length=d.length/\(∀t,t<i->limb out t=limb (dig (m/2^k)) t)/\∀ t,i<=t->limb out t=limb d t) (fun i out=>d.length-i) 0 d ⟨BL _,r,Z,fun t h=>by omega,fun t h=>rfl⟩ ?_
  rintro i out ⟨hi,p,q,o,g⟩;have hx:=yV r i;have u:=zcn F.lim (w:=k/32) (s:=k%32) (j:=i) (by omega);rw [<-e,<-A,An,<-zeu,<-zeu,<-e] at u
  have hx2:limb d i/2^(k%32)<=limb d i:=Cu _ _;refine Fh ?_;refine FP ?_ ?_<;>intro _ K
  .refine Fi (xG Z Z Z (by omega)) ?_;refine Fi (ua 0 Z Z Z C) ?_;refine Fi ((wt Z Z Z (by simp) (by simp)).sub (zI (n:=((k%32:Nat):Int)) (by rfl))) ?_;refine Fi ((wH Z Z Z (by omega) GA).sub (zI ((gY _ _).trans (by rw [g i (Af _)])))) ?_;refine zo (xG Z Z Z (by omega)) ?_;refine ae.storeRow 0 Z Z Z Z Z C Z Z<|Fh ?_;refine Do (i+1) ?_;refine zo (xd Z Z O) ?_
   refine FE ?_ ?_<;>intro _ x
   .refine Ft ?_;refine zA ?_;refine Fh ?_;obtain⟨E,D⟩:=n9 (z:=limb d i/2^(k%32)) (by omega) o g (by rw [u,wJ (l:=d) (i:=i+1) (by omega),CM,At];exact (CZ (by omega)).symm);exact⟨i+1,_,⟨by omega,Zy p (by omega),by grind,E,D⟩,by omega,an (aa Z (aa Z (aa Z (aa Z trivial)))) Z⟩
   .refine Fi ((wt Z Z Z (by simp) (by simp)).sub (zI (n:=((k%32:Nat):Int)) (by rfl))) ?_;refine Fo ?_ ?_<;>intro _ H
    .refine zA ?_;refine Fh ?_;obtain⟨E,D⟩:=n9 (z:=limb d i/2^(k%32)) (by omega) o g (by rw [u,(C:k%32=0),CG,CP,CP];omega);exact⟨i+1,_,⟨by omega,Zy p (by omega),by grind,E,D⟩,by omega,an (aa Z (aa Z (aa Z (aa Z trivial)))) Z⟩
    .refine wW 15 V<|zg ?_;refine Fi (xG Z Z Z (by omega)) ?_;refine Fi (ua 0 Z Z Z (by grind)) ?_;refine Do (i+1) ?_;refine Fi (xG Z Z Z (by omega)) ?_;refine Fi (ua 0 Z Z Z (by grind)) ?_;refine Fi ((wt Z Z Z (by simp) (by simp)).sub (zI (n:=((k%32:Nat):Int)) (by rfl))) ?_;refine Do (32-k%32) ?_;refine Fi ((ZC Z Z Z (by simp) GA).sub (zI (n:=((limb d (i+1)*2^(32-k%32)%4294967296:Nat):Int)) (by rw [gZ,vi (by simp),g _ (by simp)];rfl))) ?_
     refine Fi ((vg Z B Z Z).sub (zI (n:=((limb (dig (m/2^k)) i:Nat):Int)) (by rw [Xb (by omega),Vl (by omega) (by omega),Nat.or_comm,(kJ (by simp) (zuA hx M)).1,u,zot (by omega)]))) ?_;refine Fi (xG (i:=i) Z Z Z (by omega)) ?_;refine ae.storeRow 0 Z Z Z Z Z (by grind) Z Z<|zg ?_;refine zA ?_;refine Fh ?_
     obtain⟨E,D⟩:=n9 (by omega) o g Z;have N:=Zy (i:=i) p (yV (xe (m/2^k)) i);exact⟨i+1,(out.set i (limb d i/2^(k%32))).set i (limb (dig (m/2^k)) i),⟨by omega,by simp_all,by grind,by simp_all,by simp_all⟩,by omega,MM⟩
  .refine zK<|zr ?_;have R:(dig (m/2^k)).length<=d.length:=zT (by rw [A];exact Wr (wz r) (Cu _ _) (Af _))
   have:IsNat out (m/2^k):=⟨p,by rw [Qw (n:=d.length) (by omega) (by omega) (fun t ht=>o t (by omega)),xu]⟩
   refine ae.ghost _ Z (yF 0 5 Z Z O q Z yZ GK)<|zz ?_;refine Fl Z Z (wG GH) ?_;exact zj zt
def zj4 {x y:Nat} (hx:x<18446744073709551616) (hy:y<18446744073709551616):G0 G 246 [ze .u64 x,ze .u64 y] (yR [ze .u64 (x*y/18446744073709551616:Nat),ze .u64 (x*y%18446744073709551616:Nat)]):=by
 have e:=zhE x y;obtain⟨p,hp⟩:∃ p,p=x%4294967296*(y%4294967296):=⟨_,Z⟩;obtain⟨q,hq⟩:∃ p,p=x/4294967296*(y%4294967296):=⟨_,Z⟩;obtain⟨r,d⟩:∃ p,p=x%4294967296*(y/4294967296):=⟨_,Z⟩;obtain⟨s,b⟩:∃ p,p=x/4294967296*(y/4294967296):=⟨_,Z⟩;rw [<-hp,<-hq,<-d,<-b] at e;have g:=CL (C:x%4294967296<=4294967295) (C:y%4294967296<=4294967295);have f:=CL (C:x/4294967296<=4294967295) (C:y%4294967296<=4294967295);have c:=CL (C:x%4294967296<=4294967295) (C:y/4294967296<=4294967295);have a:=CL (C:x/4294967296<=4294967295) (C:y/4294967296<=4294967295);rw [<-hp] at g
 rw [<-hq] at f
 rw [<-d] at c
 rw [<-b] at a
 refine Fq func246 ?_;refine Fi ((vg Z B Z Z).sub (zI ((Vg (y:=4294967295) (by omega) (by omega)).trans (by rw [Kp])))) ?_;refine Fi ((wH Z Z Z C GG).sub (zI (Wu _))) ?_;refine Fi ((vg Z B Z Z).sub (zI ((Vg (y:=4294967295) (by omega) (by omega)).trans (by rw [Kp])))) ?_;refine Fi ((wH Z Z Z C GG).sub (zI (Wu _))) ?_;refine Fi (yK (z:=((p:Nat):Int)) Z Z Z (MW some (by omega)) (xA (by simp) (by omega))) ?_;refine Fi (yK (z:=((q:Nat):Int)) Z Z Z (MW some (by omega)) (xA (by simp) (by omega))) ?_;refine Fi ((wH Z Z Z C GG).sub (zI (Wu _))) ?_;refine Do (q+p/4294967296) ?_;refine Fi ((vg Z B Z Z).sub (zI ((Vg (y:=4294967295) (by omega) (by omega)).trans (by rw [Kp])))) ?_;refine Fi ((wH Z Z Z C GG).sub (zI (Wu _))) ?_;refine Fi (yK (z:=((r:Nat):Int)) Z Z Z (MW some (by omega)) (xA (by simp) (by omega))) ?_;refine Do ((q+p/4294967296)%4294967296+r) ?_;refine Fi (yK (z:=((s:Nat):Int)) Z Z Z (MW some (by omega)) (xA (by simp) (by omega))) ?_;refine Do (s+(q+p/4294967296)/4294967296) ?_;refine Fi ((wH Z Z Z C GG).sub (zI (Wu _))) ?_;refine Do (x*y/18446744073709551616) ?_;refine Fi ((ur Z Z Z Z).sub (zI (n:=((x*y%18446744073709551616:Nat):Int)) (by rfl))) ?_;exact Hj
def zwY (m:Nat):(m:Int)/2^(16:Int).toNat=((m/65536:Nat):Int):=B
def zuB (m:Nat):(m:Int)/2^(8:Int).toNat=((m/256:Nat):Int):=B
def zAn (m:Nat):(m:Int)/2^(58:Int).toNat=((m/288230376151711744:Nat):Int):=B
def Ww {P:Program} {H:HL} {o:Oper} {g:Ha} {t:TypeId} [aV P t] {x b:Operand} {k:IntKind} {i:Nat} (a:o.op= .index t x b) (hx:yW g x=some (eqS (.string Lib.len8tab))) (hi:yW g b=some (ze k i)) (h:i<256):OpOK P G H o g (ze .u8 (Lib.bitLen i:Nat)):=by
 obtain⟨h1,c⟩:=zqT h;rw [<-c];exact zhk a hx hi h1
theorem bitLen_spec:∀ (f x:Nat),x<2^f->f<=64->x<2^Lib.bitLen x/\(x≠0->0<Lib.bitLen x/\2^(Lib.bitLen x-1)<=x)/\Lib.bitLen x<=f
  | 0,x,h,_=>by
    have:x=0:=by simpa using h
    subst this;exact⟨by decide,fun h=>M1 Z h,by decide⟩
  | f+1,x,h,hf=>by
    by_cases c:x=0
    . subst c;exact⟨by decide,fun h=>M1 Z h,by rw [(J:Lib.bitLen 0=0)];simp⟩
    . have a:=Ah h (Cm (by omega) hf)
      have e:=Lib.bitLen_half x c a;obtain⟨k,d,j⟩:=bitLen_spec f (x/2) (by omega) (by omega)
      rw [e];refine⟨by grind,fun _=>⟨by omega,?_⟩,by omega⟩
      rw [C1]
      by_cases b:x/2=0
      . rw [b,(J:Lib.bitLen 0=0)];omega
      . have:2^Lib.bitLen (x/2)=2^(Lib.bitLen (x/2)-1)*2:=by rw [<-Ch,Nat.succ_eq_add_one,(C:Lib.bitLen (x/2)-1+1=Lib.bitLen (x/2))]
        omega
def zuC {i:Nat} (h:i<64):jO[i]? =some (.int .u8 (Lib.deBruijn64tab.getD i 0:Nat)):=by
 have a:i<Lib.deBruijn64tab.length:=h;simp [jO,Ay,a]
def zj5 {x:Nat} (hx:x<4294967296):G0 G 324 [ze .u32 x] (MK (Lib.bitLen x:Nat)):=by
 refine Fq func324 ?_;refine Fo ?_ ?_<;>intro _ b
 .refine Fi ((wH Z Z Z C GG).sub (zI (zwY _))) ?_;refine Fo ?_ ?_<;>intro _ a
  .exact Ll
  .exact Lq
 .refine Fo ?_ ?_<;>intro _ a
  .exact Lm
  .exact Lx
def zov {x:Nat} (hx:x<4294967296):G0 G 240 [ze .u32 x] (MK (32-Lib.bitLen x:Nat)):=by
 have a:=(bitLen_spec 32 x C C).2.2;refine Fq func240 ?_;refine Fk (zj5 hx) ?_;refine Do (32-Lib.bitLen x) ?_;exact Hj
def qM [ht:ao G] {x:Nat} (hx:x<18446744073709551616):G0 G 348 [ze .u64 x] (MK (Lib.ctz 64 x:Nat)):=by
 refine Fq func348 ?_;refine Fo ?_ ?_<;>intro _ c
 .exact zj (zu (e:=by rw [(C:x=0)];rfl))
 .obtain⟨a,d⟩:=Lib.lowest_bit 64 x (by omega) (by omega);rw [(FV:(2:Nat)^64=18446744073709551616)] at a
  obtain⟨hi,b⟩:=Lib.deBruijn64_at _ d;refine Fi ((mW Z Z).sub (zI (n:=((18446744073709551616-x:Nat):Int)) GQ)) ?_;refine Fi ((vg Z B Z Z).sub (zI (by rw [Vg (by omega) (by omega),a]))) ?_;refine Fi ((ur Z Z Z Z).sub (zI (n:=((2^Lib.ctz 64 x*285870213051353865%18446744073709551616:Nat):Int)) (by rfl))) ?_;refine Fi ((wH Z Z Z C GG).sub (zI (zAn _))) ?_;refine Fi (Xa Z Z Z hi Z) ?_;refine Fi (zfJ Z Z ht.h (by rw [Cr,zuC hi,b])) ?_;refine Fi (yO Z Z (wrap_i64 C C)) ?_;exact Hj
end Go.Proofs
namespace Num
variable {b a D k p d P:Nat} {R out:G7} {n:Bool}
def uo (a:G7) (w i:Nat):limb (a.drop w) i=limb a (w+i):=by simp [limb,Ay,AV]
def Zp (a:G7) (k:Nat):val (a.drop k)=limb a k+4294967296*val (a.drop (k+1)):=by
 rcases Ab k a.length with h | h
 .rw [AO h];simp [val,limb,Ay,h]
 .rw [AN h,AN C,wJ h];rfl
def Wx (a:G7):∀ k,val a=low a k+4294967296^k*val (a.drop k)
 | 0=>by simp [uV]
 | k+1=>by rw [Wx a k,xO,Zp a k,xw,Ci,Cj];omega
def qN {a b:G7} (h:∀ j,j<k->limb a j=limb b j):low a k=low b k:=by
 unfold low;congr 1;simp_all
def qO {a:G7} (b:wZ a) (k:Nat):val a/4294967296^k=val (a.drop k):=by
 have h:=qJ b k;rw [Wx a k,CR _ _ (CS C),CT h,Br]
def VQ {a:G7} (b:wZ a) (j:Nat):limb a j=val a/4294967296^j%4294967296:=by
 have:=yV b j;rw [qO b,Zp];omega
def zcr {a:G7} (c:wZ a) {j:Nat} (h:val a<4294967296^k) (b:k<=j):limb a j=0:=by
 rw [VQ c,CT (Ah h (Cm C b))]
def zhF {a:G7} (h:∀ j,k<=j->limb a j=0):val a=low a k:=by
 have:val (a.drop k)=0:=by
  have:val (a.drop k)=val []:=Zh fun j=>by rw [uo,uU,h _ C]
  exact this
 rw [Wx a k,this];simp
def zqU {b:G7} {at' n:Nat} (i:wZ R) (_:b.length=n+1) (h:limb b n≠0) (e:low (R.drop at') (n+2)<val b*4294967296):
 low (R.drop at') (n+2)/val b<=min ((limb R (at'+(n+1))*4294967296+limb R (at'+n))/limb b n) 4294967295:=by
 obtain⟨P,d⟩:∃ P,P=low (R.drop at') (n+2):=⟨_,Z⟩;rw [<-d] at e ⊢
 have f:limb b n*4294967296^n<=val b:=by
  rw [Wx b n,Zp,Ci,Ck (limb b n)];omega
 have a:0<4294967296^n:=CS C;have c:=Ah (Nat.mul_pos C a) f;refine Nat.le_min.2 ⟨?_,?_⟩
 .have h1:P/val b<=P/(4294967296^n*limb b n):=Nat.div_le_div_left (by grind) (Nat.mul_pos a C);refine Ag h1 ?_;rw [<-CQ];have j:P/4294967296^n=limb R (at'+(n+1))*4294967296+limb R (at'+n):=by
   have g:=qJ (uC i at') n;rw [d,xO,xO,uo,uo,xw,An,Cj,<-Ci,CR _ _ a,CT g];omega
  grind
 .have:P/val b<4294967296:=(Cl c).2 (by omega);omega
def fit {q:Nat} (_hD:0<D) (h:p+q*D=P) (hq:P/D<=q):q=P/D/\p=P%D:=by
 have h1:q<=P/D:=(Nat.le_div_iff_mul_le _hD).2 C;have a:q=P/D:=C;refine⟨a,?_⟩;have:=CY P D;grind
def zqV {q c B:Nat} (a:0<D) (h:p+q*D=P+B) (hp:p<B) (_:c<=1):P/D<q:=(Cl a).2 C
def zj6 {lo:Nat} (_:0<b) (a:lo<b):(lo+b*P)%(D*b)=lo+b*(P%D):=by
 rw [Ck D b];rcases Bm D with h | h
 .grind
 have h1:lo+b*P=lo+b*(P%D)+b*D*(P/D):=by
  have:=Cy P D;rw [Cj,An,<-Ci,this]
 rw [h1,Nat.add_mul_mod_self_left];refine CZ ?_;have d:=Be P h;have c:b*(P%D+1)<=b*D:=Cq _ d;grind
def zj7 {V lo:Nat} (_hD:0<D) (c:0<b) (a:lo<b) (h:V=lo+b*P):V/(D*b)=P/D:=by
 rw [h,Ck D b,<-CQ,CR _ _ c,CT a,Br]
def zqW {X:Nat}:X%(D*(b*4294967296))/(D*b)=X/D/b%4294967296:=by
 rw [<-Cj,C2,CQ]
def zuD {X:Nat}:X%(D*(b*4294967296))%(D*b)=X%(D*b):=Nat.mod_mod_of_dvd _ ⟨4294967296,by rw [Cj]⟩
def zj8 {m n c:Nat} (d:m<4294967296^a) (b:4294967296^c<=n) (f:c<=a):m*2^k<n*2^k*4294967296^(a-c):=by
 have h1:4294967296^a=4294967296^c*4294967296^(a-c):=by rw [<-Ct];congr 1;omega
 have e:=Ah (h1▸d) (BK _ b);have:=C3 e (C4 k);grind
def Wa (k:Nat):Nat:=4294967296^k
theorem zhG {b:G7} {X n:Nat} (c:wZ out) (x:wZ b) (s:b.length=n+1) (r:limb b n≠0) (l:val b=D) (i:val out=X%(D*Wa (p+1))):
    ∃P,P=low (out.drop p) (n+2)/\0<D/\P<Wa (n+2)/\P/D<=min ((limb out (p+(n+1))*4294967296+limb out (p+n))/limb b n) 4294967295/\P/D=X/D/Wa p%4294967296 /\
      ∀a,wZ a->(∀j,j<p\/p+(n+2)<=j->limb a j=limb out j)->low (a.drop p) (n+2)=P%D->val a=X%(D*Wa p):=by
  unfold Wa at i ⊢
  have d:0<4294967296^p:=CS C;have e:0<D:=by
    have y:limb b n*4294967296^n<=val b:=by
      rw [Wx b n,Zp,Ci,Ck (limb b n)];omega
    rw [<-l];exact Ah (Nat.mul_pos C (CS C)) y
  have v:D<4294967296^(n+1):=by have h:=wz x;rw [s,l] at h;exact h
  have q:val out<D*4294967296^(p+1):=by rw [i];exact Be _ (Nat.mul_pos e (CS C))
  have h1:val (out.drop p)<D*4294967296:=by
    rw [<-qO c,Cl d,Cj,Ck 4294967296,<-xw];exact q
  have o:val (out.drop p)<4294967296^(n+2):=by
    have:D*4294967296<=4294967296^(n+1)*4294967296:=BK _ C;rw [xw (n+1)];exact Ah h1 this
  have m:=zhF fun j hj=>zcr (uC c p) o hj;obtain⟨P,k⟩:∃ P,P=low (out.drop p) (n+2):=⟨_,Z⟩;rw [<-k] at m
  have w:val out=low out p+4294967296^p*P:=by rw [Wx out p,m]
  have g:=qJ c p;rw [m] at h1 o
  refine⟨P,k,e,o,?_,?_,fun a t u f=>?_⟩
  . have:=zqU c s r (by rw [<-k,l];exact h1)
    grind
  . rw [<-zj7 e d g w,i,xw,zqW]
  . have z:=qN fun j hj=>u j (.inl hj)
    have e2:val (a.drop p)=low (a.drop p) (n+2):=zhF fun j hj=>by
      rw [uo,u _ (.inr C),<-uo];exact zcr (uC c p) (by omega) hj
    rw [Wx a p,z,e2,f,<-zj6 d g,<-w,i,xw,zuD]
def zow {v w e x t c y f z g:Nat} (h:w+t*g=v+b*(e+a)) (h1:c+4294967296*d=x*t+e) (i:z+c+a=p+4294967296*f) (_:y=y):
 w+b*z+t*(g+b*x)=v+b*p+b*4294967296*(d+f):=by
 grind
def zox {v w x y s:Nat} (h:w+b*a=v+s):w+b*((a+x+y)%4294967296)+b*4294967296*((a+x+y)/4294967296)=v+b*y+(s+b*x):=by
 rw [Cj,An,<-Ci,Cy,Ci,Ci];omega
def Zd (neg:Bool) (a:Nat):Int:=if neg then -(a:Int) else a
def zev (a:Nat):Zd false a=a:=rfl
def uY (b:Bool) (a:Nat):(Zd b a).natAbs=a:=by cases b <;> simp [Zd]
def zmr (b:Bool) (a:Nat):decide (Zd b a<0)=(b&&decide (a≠0)):=by
 cases b
 .rfl
 .by_cases h:a=0
  .simp [Zd,h]
  .simp only [Zd,if_true,C5];grind
def uq (z:Int):Zd (decide (z<0)) z.natAbs=z:=by
 unfold Zd;grind
def zuE (b:Bool) (a:Nat):Zd (!b) a= - Zd b a:=by cases b <;> simp [Zd]
def zms (b c:Bool) (m n:Nat):Zd (b != c) (m*n)=Zd b m*Zd c n:=by
 cases b <;> cases c <;> simp [Zd,BO,Int.neg_mul,Int.mul_neg]
def qP {b:Bool} (c:d≠0):(mkRat (Zd b a) d).den=d/Nat.gcd a d:=by
 rw [Rat.den_mkRat,MY c,uY,C6]
def Qz {b:Bool} (c:d≠0):(mkRat (Zd b a) d).num=Zd b (a/Nat.gcd a d):=by
 rw [Rat.num_mkRat,MY c,uY,C6];cases b
 .rfl
 .simp only [Zd,if_true];rw [CO,Int.neg_ediv_of_dvd (Int.natCast_dvd_natCast.2 (Nat.gcd_dvd_left a d))]
def zew {b:Bool} (c:d≠0):(mkRat (Zd b a) d).num.natAbs=a/Nat.gcd a d:=by rw [Qz c,uY]
def zex {b:Bool} (e:d≠0):decide ((mkRat (Zd b a) d).num<0)=(b&&decide (a≠0)):=by
 rw [Qz e,zmr];have f:=Nat.gcd_pos_of_pos_right a (C7 e);have:a/Nat.gcd a d=0↔a=0:=by
  constructor
  .intro h;rcases Bm a with c | c
   .exact c
   .have:=Nat.div_pos (Nat.le_of_dvd c (Nat.gcd_dvd_left a d)) f;omega
  .simp_all
 grind
def zhH {u:Nat} (h:u%2=1) (j:Nat):Nat.Coprime (2^j) u:=by
 apply Nat.Coprime.pow_left;rw [Nat.coprime_iff_gcd_eq_one,Nat.gcd_rec,h];rfl
def Kq {u:Nat} (h:u%2=1) (j v:Nat):Nat.gcd u (2^j*v)=Nat.gcd u v:=
 Nat.Coprime.gcd_mul_left_cancel_right v (zhH h j)
def zmt {u v:Nat} (b:u%2=1) (a:v%2=1) (i j:Nat):Nat.gcd (2^i*u) (2^j*v)=2^(min i j)*Nat.gcd u v:=by
 rcases Nat.le_total i j with h | h
 .obtain⟨d,rfl⟩:=Nat.exists_eq_add_of_le h;rw [AU h,Ct,Cj,Nat.gcd_mul_left,Kq b]
 .obtain⟨d,rfl⟩:=Nat.exists_eq_add_of_le h;rw [Nat.min_eq_right h,Ct,Cj,Nat.gcd_mul_left,C6,Kq a,C6]
def YE {x:Nat} (a:x≠0) (h:x<18446744073709551616):∃ m,x=2^Go.Lib.ctz 64 x*(2*m+1)/\Go.Lib.ctz 64 x<64:=by
 unfold Go.Lib.ctz;rw [MY a];exact Go.Lib.ctzFrom_spec 64 x (C7 a) h
def zxP {i j m n:Nat} (h:2^i*(2*m+1) ||| 2^j*(2*n+1)=2^k*(2*p+1)):k=min i j:=by
 have b:∀ t,((2^i*(2*m+1)).testBit t||(2^j*(2*n+1)).testBit t)=(2^k*(2*p+1)).testBit t:=fun t=>by grind
 rcases C9 k (min i j) with a | a | a
 .have:=b k;grind
 .exact a
 .rcases Nat.le_total i j with h' | h'
  .have:=b i;grind
  .have:=b j;grind
def zqX (o:a≠0) (t:b≠0) (l:a<18446744073709551616) (g:b<18446744073709551616):
 Nat.gcd a b=2^Go.Lib.ctz 64 (a ||| b)*Nat.gcd (a/2^Go.Lib.ctz 64 a) b/\(a/2^Go.Lib.ctz 64 a)%2=1:=by
 obtain⟨m,h1,_⟩:=YE o l;obtain⟨n,f,_⟩:=YE t g;have c:a ||| b≠0:=by
  intro h;exact o<|(Nat.or_eq_zero_iff.1 h).1
 obtain⟨p,e,_⟩:=YE c (Cw (n:=64) l g);obtain⟨i,hi⟩:∃ i,i=Go.Lib.ctz 64 a:=⟨_,Z⟩;obtain⟨j,s⟩:∃ j,j=Go.Lib.ctz 64 b:=⟨_,Z⟩;obtain⟨k,r⟩:∃ k,k=Go.Lib.ctz 64 (a ||| b):=⟨_,Z⟩
 rw [<-hi] at h1 ⊢;rw [<-s] at f;rw [<-r] at e ⊢
 have d:k=min i j:=by rw [h1,f] at e;exact zxP e
 have q:a/2^i=2*m+1:=by rw [h1,C8 _ (C4 i)]
 rw [q,d];refine⟨?_,C⟩;rw [h1,f,zmt C C,Kq C]
def zoy {u:Nat} (e:u%2=1) (g:b≠0) (c:b<18446744073709551616):Nat.gcd u (b/2^Go.Lib.ctz 64 b)=Nat.gcd u b/\(b/2^Go.Lib.ctz 64 b)%2=1:=by
 obtain⟨n,a,_⟩:=YE g c;obtain⟨j,f⟩:∃ j,j=Go.Lib.ctz 64 b:=⟨_,Z⟩;rw [<-f] at a ⊢
 have d:b/2^j=2*n+1:=by rw [a,C8 _ (C4 j)]
 rw [d];refine⟨?_,C⟩;rw [a,Kq e]
end Num
