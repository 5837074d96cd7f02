/- The planner in general: ways of cells told as points. -/
import Derived.Test.YtceodgbmninaoaaGreatDoorSrm
import Derived.Test.YtceodgbmninaoaaGreatDoorSqt
set_option linter.all false
namespace Num.Pl
open Go Go.Proofs
def zdY (cs:List Ce) (n:Nat):V2:=(cs.getD n (0,0,0,0,0)).2.2.2
def ztI {cs:List Ce} {w:G7} (h:∀ n∈w,n<cs.length):iM cs w=some (w.map (zdY cs)):=by
 unfold iM;rw [MX (B9.2 fun n a=>MR (h n a))];rfl
def frO (fr:List Bool) (o:Option Nat):Bool:=match o with
 | some n=>fr.getD n false
 | none=>false
end Num.Pl
namespace Go.Proofs
open Go Go.Sv Num Num.Pl Tryz
abbrev rpC (p:V2):List SV:=[zl (zL p),zp true]
abbrev cE (a:cI):List SV:=[zR 6 zL a.rob,zR 18 vR a.tris,zR 1 Uq a.ps]++bX a.md++[zR 1 cw a.free,zR 2 Uh a.joins,zR 3 zP a.lens]
variable {G:Imm}
variable {m:Num.Pl.Md} {k:Nat} {w:G7} {s:V2}
def zzK (o:∀ n∈w,n<(zV m).length) (q:w.length<=1000000):xc prog G 502 [yo [zR 1 ZF w],yo (bX m)] (Qi rpC (w.map (zdY (zV m)))):=by
 refine xM func502 Z Z Z Z fun l E hy=>wO<|zi<|wN<|Fh ?_;refine uK [0,2,6,7] (fun (g:Nat) z=>(8,ML g)::z) (fun g=>[]) (fun g=>(g,false)) (fun g=>g<=w.length) (fun g=>w.length-g) 0 (BL _) ?_;intro g r;refine Fh ?_;refine FQ ?_ ?_<;>intro _ k
 .obtain⟨n,a⟩:=FU w g;have h:=o n (AE a);obtain⟨c,p⟩:∃ c,(zV m)[n]? =some c:=⟨_,AL h⟩;have i:zdY (zV m) n=c.2.2.2:=by unfold zdY;rw [Ay,p];rfl
  refine zB<|zi<|zg ?_;refine zo (zh Z Z Z (by omega) a) ?_;refine zg ?_;refine zi<|zr<|zz ?_
  refine FE (fun e d=>?_) fun _ d=>?_
  .exact M1 (MO e) C
  .refine Fo (fun j f=>?_) fun _ f=>?_
   .exact M1 (MO j) C
   .refine ae.yield Z hy Z Z Z (vk (x:=c.2.2.2) (by grind)) (yU _) Z Z Z fun y=>zg ?_;refine Fp ?_ ?_<;>intro b
    .exact⟨.inr Z,.inr b⟩
    .obtain rfl:y=true:=by grind
     refine Do (g+1) ?_;exact⟨g+1,(by omega:g+1<=w.length),by omega,MM⟩
 .exact⟨.inr Z,.inl (by rw [wn,BR,(C:g=w.length)])⟩
def zBS:G0 G 451 [zl (bX m),zR 1 ZF w] (wD 502 [yo [zR 1 ZF w],yo (bX m)]):=by
 refine Fq func451 ?_;exact zj zt
def zwF [ao G] {t:V2} (hw:∀ n∈w,n<(zV m).length) (hcb:∀ c∈zV m,Bp c.2.2.2 k) (hsb:Bp s k) (htb:Bp t k) (hn:w.length<=900000) (hs:800*k+30000<=cap):G0 G 369 [zl (bX m),zl (zL s),zl (zL t),zR 1 ZF w] (yR [zR 6 zL (dd ([s]++w.map (zdY (zV m))++[t])),MK 0]):=by
 have hwl:(w.map (zdY (zV m))).length=w.length:=BR _;have hpl:vE k ([s]++w.map (zdY (zV m))++[t]):=fun p hp=>by
  rcases Bu.1 hp with hp | hp
  .rcases Bu.1 hp with hp | hp
   .grind
   .obtain⟨n,h1,rfl⟩:=Bc.1 hp;unfold zdY;grind
  grind
 refine zs func369 ?_;refine zg ?_;refine yT fun b8=>?_;refine yT fun b9=>?_;refine zx<|zo ((AX (zl (zL s))<|zG Z Z Z Z)) ?_;refine ae.buildRow Z Z Z Z Z Z J Z (.inr B) Z Z fun b14 hb14=>yT fun b10=>?_;refine Fh ?_;refine Fk zBS ?_
 refine uN rfl rfl (zzK hw (by omega)) (fun ss h=>Yq (m:=2) (fun _=>rfl) h) (by decide) rfl
  (fun k1 h i=>i=(0,false)/\∃ q,zX q (k1+1)/\h=[⟨some b10,29,[eqS (rowV q (k1+1))],0⟩,rowE q 48 6 (k1+1) ((s::(w.map (zdY (zV m))).take k1).flatMap zL),⟨some b9,26,[eqS (.int .i64 0)],0⟩,⟨some b8,29,[G8],0⟩])
  (fun _ _ _=>False) ⟨rfl,some (b14,1),hb14,rfl⟩ ?_ ?_ ?_
 .rintro l k1 ss h i hk1 ⟨rfl,q,hq,rfl⟩;obtain⟨x,hx,rfl⟩:=uQ hk1;have hkl:=(EC.1 hx).1;have hms:=yp hx;refine zr<|yT fun b11=>?_;refine zg ?_;refine⟨Z,?_⟩;refine zN<|zi<|zr ?_;(iterate 2 refine zz ?_);refine zM<|xK ?_ ?_<;>intro h21
  .exact M1 h21 J
  .refine zB<|zJ<|zz ?_;refine Fi ((AX (zl (zL x))<|zE 0 rfl rfl rfl (by kernel_rfl) rfl)) ?_;refine ae.append 2 Z Z Z Z Z Z Z Z hq (by rw [yG (st:=6) (fun _=>rfl),Ap,BG,AU C]) (fun z hz=>by rw [AS.1 hz];rfl) (by unfold yE;simp;omega) (by unfold yE;simp;omega) fun q25 hq25=>zw ?_;refine ae.ghost _ Z (zF (B5 _ _))<|zM ?_
   exact⟨Z,q25,hq25,by rw [hms,<-B1 (a:=s),CB];rfl⟩
 .rintro h i D ⟨rfl,q,hq,rfl⟩;rw [wn,hwl] at hq ⊢
  rw [BC (by omega)];refine zr<|Fh ?_;refine ae.append 1 rfl rfl rfl rfl rfl rfl rfl rfl hq (by rw [yG (st:=6) (fun _=>rfl),Ap,hwl]) (fun z hz=>by grind) (by unfold yE;grind) (by unfold yE;grind) fun q29 hq29=>ae.ghost _ rfl (yF 1 29 rfl rfl hq29 (l:=[s]++w.map (zdY (zV m))++[t]) (f:=zL) (by simp) (by simp) (fun _ _=>rfl) (by unfold yE;grind))<|ae.ghost _ Z (zF (B5 _ _))<|zo (zb rfl rfl (mF hpl hs (by grind))) ?_;refine zg ?_;refine zj ?_
  exact⟨_,[],.many (.cons (.own 1 inferInstance Z Z Z) (.cons (.own 0 inferInstance Z Z Z) .nil)),BZ _,Z,Z⟩
 simp
def zBT [ao G] {l:List V2} (c:vE k l) (d:0<k) (a:100*(l.length*(4*k+4)+4*k+4)+100000<=cap) (b:l.length<=1000000):G0 G 178 [zR 6 zL l] (zl (zP (Jv l))):=by
 refine Fq func178 ?_;refine Fm fun b2=>?_;refine Fk (zwC c d a b) ?_;exact zj zt
def zxE [ao G] {a:cI} {p:V2} {n:Nat} (m:ck a.md k n) (hp:Bp p k) (q:100000*k+100000<=cap) (j:(zV a.md).length<=1000000):G0 G 367 [yo (cE a),zl (zL p)] (yR [MK (gC (KB a.md (zV a.md) p)),zp (frO a.free (KB a.md (zV a.md) p))]):=by
 have i:=zxD (G:=G) m hp q j;generalize KB a.md (zV a.md) p=o at i ⊢
 refine Fq func367 ?_;refine Fw 12 ?_;refine Fk i ?_;refine zU 25 V ?_;(iterate 2 refine zz ?_);refine FI ?_ ?_<;>intro d g
 .obtain⟨n,rfl⟩:∃ n,o=some n:=by cases o;exact M1 d J;simp
  (iterate 6 refine zz ?_);refine zz ?_;(iterate 2 refine zz ?_);refine FF ?_ ?_<;>intro c
  .have f:=MO c;have h:n<a.free.length:=by have h9:((n:Nat):Int)<(a.free.length:Nat):=MO c;omega
   obtain⟨b,l⟩:∃ b,a.free[n]? =some b:=⟨_,AL h⟩;refine Fi ((zh Z Z Z (Da n) l)) ?_;exact zj (zu (e:=by rw [show frO a.free (some n)=b from (Ay ..).trans (by grind)]))
  .have h:¬ n<a.free.length:=by have h9:¬ ((n:Nat):Int)<(a.free.length:Nat):=MP c;omega
   exact zj (zu (e:=by rw [show frO a.free (some n)=false from (Ay ..).trans (by grind)]))
 .obtain rfl:o=none:=by cases o;rfl;exact M1 d (by unfold ju;simp)
  refine zg ?_;exact zj zt
end Go.Proofs
namespace Num.Pl
open Go Go.Proofs
def ff (o:Option (G7×Rat)):G7:=match o with
 | some w=>w.1
 | none=>[]
def jt (o:Option (G7×Rat)):Rat:=match o with
 | some w=>w.2
 | none=>0
def lq (o:Option (List V2)):List V2:=o.getD []
def jw (o:Option (List V2)):Int:=if o.isSome then 0 else 290
def zjr {a:cI} {p:V2}:zfq a p=if frO a.free (KB a.md a.cells p) then KB a.md a.cells p else none:=by
 unfold zfq frO;grind
end Num.Pl
namespace Go.Proofs
open Go Go.Sv Num Num.Pl
structure dl (G:Imm) (N:Nat) (js:List Jn) (ls:List Rat):Prop where
 spec:∀ f g,f<N->g<N->zm Tryz.prog G 368 [ze .i64 (N:Nat),zR 2 Uh js,zR 3 zP ls,ze .i64 (f:Nat),ze .i64 (g:Nat)] (yR [zR 1 ZF (ff (wU (qh (min N 131072) js ls) f g)),zl (zP (jt (wU (qh (min N 131072) js ls) f g))),zp (wU (qh (min N 131072) js ls) f g).isSome])
 nodes:∀ f g,(∀n∈ff (wU (qh (min N 131072) js ls) f g),n<N)/\(ff (wU (qh (min N 131072) js ls) f g)).length<=900000
abbrev inS (o:Option (List V2)):SV:=yR [zR 6 zL (lq o),ze .i64 (jw o)]
variable {G:Imm}
variable {k n:Nat} {p:V2}
def zzL [ao G] {a:cI} {s t:V2} (hac:a.cells=zV a.md) (ok:ck a.md k n) (hsb:Bp s k) (htb:Bp t k) (hcb:∀ c∈zV a.md,Bp c.2.2.2 (60*k+105)) (hfl:a.free.length=(zV a.md).length) (hL:dl G (zV a.md).length a.joins a.lens) (hs:100000*k+100000<=cap) (hcn:(zV a.md).length<=1000000):G0 G 272 [zl (cE a),zl (zL s),zl (zL t)] (inS (uL a s t)):=by
 have hk0:=ok.pos;have hf1:=zxE (G:=G) ok hsb hs hcn;have hf2:=zxE (G:=G) ok htb hs hcn;have e1:zfq a s=if frO a.free (KB a.md (zV a.md) s) then KB a.md (zV a.md) s else none:=by rw [zjr,hac]
 have e2:zfq a t=if frO a.free (KB a.md (zV a.md) t) then KB a.md (zV a.md) t else none:=by rw [zjr,hac]
 generalize KB a.md (zV a.md) s=o1 at hf1 e1
 generalize KB a.md (zV a.md) t=o2 at hf2 e2
 have hlt:∀ {o:Option Nat},frO a.free o=true->∃ f,o=some f/\f<(zV a.md).length:=fun {o} h=>by
  cases o with
  | none=>cases h
  | some f=>exact⟨f,rfl,by rcases Ab f a.free.length with c | c;omega;rw [show frO a.free (some f)=false from (Ay ..).trans (by grind)] at h;cases h⟩
 have hcp:=mF (G:=G) (l:=[s,t]) (k:=k) (fun p hp=>by simp only [DZ,D6,or_false] at hp;rcases hp with rfl | rfl;exact hsb;omega) (by omega) (by simp);rw [<-ZU (f:=id) (g:=zL) (h:=zL) (l:=[s,t]) (fun _=>rfl)] at hcp
 refine zs Tryz.func272 ?_;apply zr;(iterate 5 refine zz ?_);refine zx<|zo ((AX (zl (cE a))<|zG Z Z Z Z)) ?_;refine zo ((AX (zl (cE a))<|yQ Z Z V)) ?_;refine Fh ?_;refine Fk hf1 ?_;refine zf hf2 ?_;refine zg ?_;refine zi<|zN<|zr<|zz ?_
 refine ae.oneB (Xm Z Z) Z Z Z (fun h4x1=>?_) (fun h4x1=>?_)
 .have hI:uL a s t=none:=by unfold uL;rw [e1,MY (by grind)]
  rw [hI];refine zz ?_;refine Fh ?_;refine xt Z Z<|zr<|Fi ((AX (zR 6 zL [])<|(yt rfl rfl).sub (fun I v hv=>⟨none,0,hv,Af _,BL _,.inl rfl⟩))) ?_;exact zj ⟨_,[],.many (.cons (.tmp Z) (.cons (.tmp Z) (.nil))),BZ _,Z,Z⟩
 .have hb1:frO a.free o1=true:=by simpa using h4x1
  obtain⟨f,rfl,hf⟩:=hlt hb1;rw [MX hb1] at e1
  (iterate 5 refine zz ?_);refine zM<|xK ?_ ?_<;>intro h31
  .have hI:uL a s t=none:=by unfold uL;rw [e1,e2,MY (by grind)]
   rw [hI];refine zr<|Fi ((AX (zR 6 zL [])<|(yt rfl rfl).sub (fun I v hv=>⟨none,0,hv,Af _,BL _,.inl rfl⟩))) ?_;exact zj ⟨_,[],.many (.cons (.tmp Z) (.cons (.tmp Z) (.nil))),BZ _,Z,Z⟩
  .have hb2:frO a.free o2=true:=by simpa using h31
   obtain⟨g,rfl,hg⟩:=hlt hb2;rw [MX hb2] at e2;refine zr<|zg ?_;refine xK ?_ ?_<;>intro h38
   .have k38:=MU.1 h38;have hI:uL a s t=some (dd [s,t]):=by unfold uL;rw [e1,e2];exact MX (by have h9:((f:Nat):Int)=(g:Nat):=MU.1 h38;omega)
    rw [hI];refine zr<|Fh ?_;refine Fk hcp ?_;refine zj ?_
    exact⟨_,[],.many (.cons (.tmp Z) (.cons (.tmp Z) (.nil))),BZ _,Z,Z⟩
   .have k38:=MT.1 h38;have hne:f≠g:=fun e=>by grind
    have hI:uL a s t=match wU (qh (min (zV a.md).length 131072) a.joins a.lens) f g with | some w=>QW (zV a.md) s t w.1 | none=>none:=by unfold uL;rw [e1,e2,hac];exact MY hne
    obtain⟨hn1,hn2⟩:=hL.nodes f g;have hls:=hL.spec f g hf hg;rw [hI];generalize wU (qh (min (zV a.md).length 131072) a.joins a.lens) f g=o3 at hls hn1 hn2 ⊢
    refine zB<|zr<|Fh ?_;refine Fk hls ?_;refine yT fun b14=>?_;refine Fh ?_;refine xK ?_ ?_<;>intro h62
    .obtain rfl:o3=none:=by simp_all
     refine zr<|Fi ((AX (zR 6 zL [])<|(yt rfl rfl).sub (fun I v hv=>⟨none,0,hv,Af _,BL _,.inl rfl⟩))) ?_;exact zj ⟨_,[],.many (.cons (.tmp Z) (.cons (.tmp Z) (.nil))),BZ _,Z,Z⟩
    .obtain⟨w,rfl⟩:∃ w,o3=some w:=by cases o3;cases h62;simp
     refine zB<|zr<|zz ?_;refine Fi ((AX (zl (bX a.md))<|zG rfl rfl rfl rfl)) ?_;refine zo (zb rfl rfl (zwF (w:=w.1) hn1 hcb (wF hsb (by omega)) (wF htb (by omega)) hn2 (by omega))) ?_;refine zg ?_;refine zj ?_
     exact⟨_,[],.many (.cons (.tmp Z) (.cons (.tmp Z) (.nil))),BZ _,by rw [show (match some w with | some w=>QW (zV a.md) s t w.1 | none=>none)=some (dd ([s]++w.1.map (zdY (zV a.md))++[t])) by show QW (zV a.md) s t w.1=_;unfold QW;rw [ztI (w:=w.1) hn1];rfl];rfl,Z⟩
theorem Wo {b:Bx} (h1:Bp b.1 k) (c:Bp b.2 k) (a:Bp p k):Bp (wY b p) k:=⟨mv h1.x (mw c.x a.x),mv h1.y (mw c.y a.y)⟩
def zxF [ao G] {m:Num.Pl.Md} (a:ck m k n) (hp:Bp p k) (e:100000*k+100000<=cap) (c:(zV m).length<=1000000):G0 G 271 [zl (bX m),zl (zL p)] (yR [zl (zL (wY m.box p)),MK (gC (KB m (zV m) (wY m.box p))),MK (ju (KB m (zV m) (wY m.box p)))]):=by
 have d:=Wo a.b1 a.b2 hp;have b:=zxD (G:=G) a d e c;refine Fq Tryz.func271 ?_;refine Fm fun f=>?_;refine Fk (zy1 a.b1 a.b2 hp C) ?_;refine Fk b ?_;exact zj zt
end Go.Proofs
namespace Num.Pl
open Go Go.Proofs
def zl8 (a:cI) (s t:V2):Int:=if (KB a.md a.cells (wY a.md.box s)).isSome/\(KB a.md a.cells (wY a.md.box t)).isSome then jw (uL a (wY a.md.box s) (wY a.md.box t)) else 270
def zqk {a:cI} {s t:V2}:zl8 a s t=0↔(Zn a s t).isSome=true:=by
 unfold zl8 Zn jw;grind
end Num.Pl
namespace Go.Proofs
open Go Go.Sv Num Num.Pl
variable {G:Imm}
def zzM [ao G] {a:cI} {s t:V2} {k n:Nat} (r:a.cells=zV a.md) (d:ck a.md k n) (i:Bp s k) (e:Bp t k) (P:∀ c∈zV a.md,Bp c.2.2.2 (60*k+105)) (N:a.free.length=(zV a.md).length) (Y:dl G (zV a.md).length a.joins a.lens) (E:∀ l,uL a (wY a.md.box s) (wY a.md.box t)=some l->vE (60*k+105) l/\l.length<=950000) (L:100000*k+100000<=cap) (o:(zV a.md).length<=1000000):G0 G 177 [zl (cE a),zl (zL s),zl (zL t)] (yR [zR 6 zL (lq (Zn a s t)),MK (zl8 a s t)]):=by
 have D:=Wo d.b1 d.b2 i;have A:=Wo d.b1 d.b2 e;have m:=zxF (G:=G) d i L o;have j:=zxF (G:=G) d e L o;have hin:=zzL r d D A P N Y L o;have X:Zn a s t=if (KB a.md (zV a.md) (wY a.md.box s)).isSome/\(KB a.md (zV a.md) (wY a.md.box t)).isSome then (uL a (wY a.md.box s) (wY a.md.box t)).map (fun l=>dd ([s]++l++[t])) else none:=by unfold Zn;rw [r]
 have W:zl8 a s t=if (KB a.md (zV a.md) (wY a.md.box s)).isSome/\(KB a.md (zV a.md) (wY a.md.box t)).isSome then jw (uL a (wY a.md.box s) (wY a.md.box t)) else 270:=by unfold zl8;rw [r]
 rw [X,W];generalize KB a.md (zV a.md) (wY a.md.box s)=o1 at m ⊢
 generalize KB a.md (zV a.md) (wY a.md.box t)=o2 at j ⊢
 generalize uL a (wY a.md.box s) (wY a.md.box t)=o3 at hin E ⊢
 generalize wY a.md.box s=s1 at D m hin
 generalize wY a.md.box t=t1 at A j hin
 refine Fq Tryz.func177 ?_;refine Fk m ?_;refine Fm fun b8=>?_;refine Fk j ?_;refine yT fun a0=>?_;refine zg ?_;refine zi<|zr<|zz ?_;refine FI ?_ ?_<;>intro b y
 .have h1:¬ (o1.isSome/\o2.isSome):=fun h9=>by have h8:=MV.1 b;exact h8 (MX h9.1)
  rw [MY h1,MY h1];refine zg ?_;refine xt Z Z<|zr<|Fi ((AX (zR 6 zL [])<|(yt Z Z).sub (fun I v z=>⟨none,0,z,Af _,BL _,.inl Z⟩))) ?_;exact zj zt
 .have h1:o1.isSome=true:=by cases o1;exact M1 b J;rfl
  refine zg ?_;refine zd ?_ ?_<;>intro x K
  .have F:¬ (o1.isSome/\o2.isSome):=fun h9=>by have h8:=MV.1 x;exact h8 (MX h9.2)
   rw [MY F,MY F];refine zr<|Fi ((AX (zR 6 zL [])<|(yt Z Z).sub (fun I v z=>⟨none,0,z,Af _,BL _,.inl Z⟩))) ?_;exact zj zt
  .have F:o2.isSome=true:=by cases o2;exact M1 x J;rfl
   rw [MX ⟨h1,F⟩,MX ⟨h1,F⟩];refine Fh ?_;refine Fk hin ?_;refine zd ?_ ?_<;>intro w H
   .obtain rfl:o3=none:=by cases o3;rfl;exact M1 w (by unfold jw;simp)
    refine zr<|zz ?_;refine Fi ((AX (zR 6 zL [])<|(yt Z Z).sub (fun I v z=>⟨none,0,z,Af _,BL _,.inl Z⟩))) ?_;exact zj zt
   .have S:=d.pos;obtain⟨l,rfl⟩:∃ l,o3=some l:=by cases o3;exact M1 w J;simp
    obtain⟨M,R⟩:=E l Z;have O:=mF (G:=G) (k:=60*k+105) (fun p hp=>by rcases Bu.1 hp with hp | hp;rcases Bu.1 hp with hp | hp;rw [AS.1 hp];exact wF i C;exact M p hp;rw [AS.1 hp];exact wF e C) C (by rw [Aw,Aw];simp;omega);have q:=ng (G:=G) (ps:=[[s],l,[t]]) (by simp) GV;rw [(B:[[s],l,[t]].flatten=[s]++l++[t])] at q
    have Q:∀ u:V2,zR 6 id [zL u]=zR 6 zL [u]:=fun u=>ZU GY [u];have e2:zR 1 id [[zR 6 id [zL s]],[zR 6 zL l],[zR 6 id [zL t]]]=zR 1 Uq [[s],l,[t]]:=by rw [Q,Q];exact ZU (f:=id) (g:=Uq) (h:=Uq) GY [[s],l,[t]]
    rw [<-e2] at q
    refine zg ?_;refine zo (zy Z Z J Z B Z Z) ?_;refine zg ?_;(refine Fh ?_);refine Fk q ?_;refine Fk O ?_;exact zj zt
end Go.Proofs
namespace Go.Sv
open Go Go.RowKit
def zn2 {a b d:SV} {r:List SV} (h:∀ I v,b.den I v->d.den I v) (I:Imm) (v:Value) (f:(zl (a::b::r)).den I v):(zl (a::d::r)).den I v:=by
 obtain⟨xs,e,c,h1⟩:=f;obtain⟨x,i,rfl,hx,c⟩:=xW c;obtain⟨y,g,rfl,hy,c⟩:=xW c;exact⟨_,e,yB hx (yB (h I y hy) c),h1⟩
end Go.Sv
namespace Go.Proofs
open Go Go.Sv Num Num.Pl
abbrev bY (v:Vd):List SV:=[ze .i8 v.1,zR 6 zL v.2.1]++zP v.2.2
def g8 {α:Type} {st:Nat} {f:α->List SV} (I:Imm) (v:Value) (a:(G8).den I v):(zR st f []).den I v:=⟨none,0,a,Af _,BL _,.inl Z⟩
variable {G:Imm}
variable {q:V2×V2} {a:cI} {k j:Nat}
def zBW [ao G] (g:vE k a.rob) (d:∀ t∈a.tris,vE (k+j+1) (Zu t)) (i:Bp q.1 j) (h:Bp q.2 j) (f:a.rob.length<=1000000) (c:a.tris.length<=2000000000) (l:4000*(k+j)+60000<=cap):G0 G 175 [zl (cE a),zl (eC q)] (zp (Js a.rob a.tris q.1&&Js a.rob a.tris q.2)):=by
 refine zs Tryz.func175 ?_;refine zg ?_;refine FG (zb Z Z (zxh g d i l f c)) ?_ ?_<;>intro b
 .refine Fk (zxh g d h l f c) ?_;exact zj (zu (e:=by grind))
 .exact zj (zu (e:=by grind))
set_option maxHeartbeats 1000000 in
def zzN [ao G] {n:Nat} (F:vE k a.rob) (D:∀ t∈a.tris,vE (k+j+1) (Zu t)) (c:Bp q.1 j) (r:Bp q.2 j) (E:a.rob.length<=1000000) (A:a.tris.length<=2000000000) (H:∀ l,Zn a q.1 q.2=some l->vE n l/\l.length<=1000000/\100*(l.length*(4*n+4)+4*n+4)+100000<=cap) (U:0<n) (X:G0 G 177 [zl (cE a),zl (zL q.1),zl (zL q.2)] (yR [zR 6 zL (lq (Zn a q.1 q.2)),MK (zl8 a q.1 q.2)])) (S:4000*(k+j)+60000<=cap) (W:0<j):G0 G 114 [zl (cE a),zl (eC q)] (zl (bY (wV a q))):=by
 have u:G0 G 78 [zR 6 id [zL q.1]] (zR 6 zL [q.1]):=by
  rw [show zR 6 id [zL q.1]=zR 6 zL [q.1] from ZU (f:=id) (g:=zL) (h:=zL) GY [q.1]];exact jU (G:=G) (l:=[q.1]) W (fun p hp=>by grind) C (by simp)
 have Q:=zqk (a:=a) (s:=q.1) (t:=q.2);refine Fq Tryz.func114 ?_;refine yT fun b4=>?_;refine zM<|wO<|zr<|zo (zb Z Z (wK J J)) ?_;refine zz ?_;refine wo ([ze .i8 0,G8]++zP 0) 0 Z Z Z Z Z Z V Z Z Z<|zM<|zi<|wN<|Vx [4,43] (fun (cs:List SV) z=>z) (fun cs=>[⟨some b4,68,cs,0⟩]) (fun cs=>(∀I v,(zl cs).den I v->(zl (bY (wV a q))).den I v)/\cs.length=5) ?_ ?_
 .refine zg ?_;refine Fk (zBW F D c r E A S) ?_;refine FT ?_ ?_<;>intro b
  .have i:wV a q=(2,[],0):=MX (by grind);refine zJ<|zz ?_;exact wo ([ze .i8 2,G8]++zP 0) 0 Z Z Z Z Z Z V Z Z Z<|zM ⟨([ze .i8 2,G8]++zP 0),⟨by rw [i];exact zn2 g8,Z⟩,MM⟩
  .have R:¬ (Js a.rob a.tris q.1&&Js a.rob a.tris q.2)=false:=fun x=>by grind
   refine Fl Z Z (jL C _ _ c r) ?_;refine Fp ?_ ?_<;>intro m
   .have i:wV a q=(0,[q.1],0):=(MY R).trans (MX (MO m));refine zf u ?_;refine zz ?_;refine wo ([ze .i8 0,G8]++zP 0) 0 Z Z Z Z Z Z V Z Z Z<|zz ?_;exact wo ([ze .i8 0,zR 6 zL [q.1]]++zP 0) 0 Z Z Z Z Z Z V Z Z Z<|zM ⟨([ze .i8 0,zR 6 zL [q.1]]++zP 0),⟨by grind,Z⟩,MM⟩
   .have w:wV a q=match Zn a q.1 q.2 with | some l=>(0,l,Jv l) | none=>(1,[],0):=(MY R).trans (MY (MP m))
    refine Fk X ?_;refine zd ?_ ?_<;>intro o y
    .have K:Zn a q.1 q.2=none:=by cases e:Zn a q.1 q.2;rfl;exact M1 (Q.2 (by grind)) (MV.1 o)
     have i:wV a q=(1,[],0):=by rw [w,K]
     refine zr<|zz ?_;refine wo ([ze .i8 1,G8]++zP 0) 0 Z Z Z Z Z Z V Z Z Z<|Fh ?_;exact⟨([ze .i8 1,G8]++zP 0),⟨by rw [i];exact zn2 g8,Z⟩,MM⟩
    .have Y:zl8 a q.1 q.2=0:=by have:=bne_eq_false_iff_eq.1 o;exact this
     obtain⟨l,O⟩:=Option.isSome_iff_exists.1 (Q.1 Y);have i:wV a q=(0,l,Jv l):=by rw [w,O]
     obtain⟨N,L,M⟩:=H l O;rw [show lq (Zn a q.1 q.2)=l by rw [O];rfl];refine zg ?_;refine zf (zBT N U M L) ?_;refine zz ?_;exact wo (bY (0,l,Jv l)) 0 Z Z Z Z Z Z V Z Z (YO Z)<|zM ⟨bY (0,l,Jv l),⟨by grind,Z⟩,MM⟩
 .rintro cs ⟨P,d⟩;refine zr<|zo ((AX (zl (bY (wV a q)))<|(AX (zl cs)<|zE 0 Z Z Z (by grind) d).sub P)) ?_;refine wo (bY (wV a q)) 0 Z Z Z Z Z Z (by rw [d];rfl) Z Z (YO d) ?_
  exact Ly
open Tryz
abbrev v1C (v:Vd):List SV:=[zl (bY v)]
variable {G:Imm}
variable {qs:List (V2×V2)} {a:cI}
def zDx:eE prog G bY 68 69 5 112:=jC func112
def zBX:ej prog G bY 68 5 76:=l4 func76 (zDx (G:=G))
def zzO (hq:∀ q∈qs,G0 G 114 [zl (cE a),zl (eC q)] (zl (bY (wV a q)))) (e:qs.length<=1000000):xc prog G 113 [yo [zR 12 eC qs],yo (cE a)] (Qi v1C (qs.map (wV a))):=by
 refine xM func113 Z Z Z Z fun l E hy=>Fh ?_;refine uK [0,2,6,7] (fun (g:Nat) z=>(8,ML g)::z) (fun g=>[]) (fun g=>(g,false)) (fun g=>g<=qs.length) (fun g=>qs.length-g) 0 (BL _) ?_;intro g f;refine Fh ?_;refine Fo ?_ ?_<;>intro _ d
 .obtain⟨q,c⟩:=FU qs g;refine Fh ?_;refine Fm fun h=>?_;refine Fk (hq q (AE c)) ?_;refine ae.yield Z hy Z Z Z (vk (by rw [Ba,c];rfl)) (yU _) Z Z Z fun y=>zg ?_;refine xK ?_ ?_<;>intro b
  .exact zj ⟨.inl Z,.inr b⟩
  .obtain rfl:y=true:=by simp_all
   refine zB<|Fv ?_;refine Do (g+1) ?_;exact⟨g+1,(by omega:g+1<=qs.length),by omega,MM⟩
 .exact⟨.inr Z,.inl (by rw [wn,BR,(C:g=qs.length)])⟩
def zBY:G0 G 77 [zl (cE a),zR 12 eC qs] (wD 113 [yo [zR 12 eC qs],yo (cE a)]):=by
 refine Fq func77 ?_;exact Hj
def zDy (hq:∀ q∈qs,G0 G 114 [zl (cE a),zl (eC q)] (zl (bY (wV a q)))) (c:qs.length<=1000000):G0 G 49 [zl (cE a),zR 12 eC qs] (zR 5 bY (qs.map (wV a))):=by
 refine Fq func49 ?_;refine Fk zBY ?_;refine ah [] [] [] Z Z Z Z (zBX.o (zzO hq c) (by simp_all)) Z Z Z ?_;rintro d H8 ⟨e,b,rfl,rfl⟩;refine ae.ghost _ Z (yF 0 8 Z Z b Z Z GX (by rw [BR];unfold yE;omega)) ?_;exact Lk
abbrev fQ (B:Bx) (X:List Rat) (V:List (List Lv)) (W:List (List Rat)) (CE:List Num.Pl.Ce):List SV:=cq B++[zR 3 zP X,zR 1 fv V,zR 1 qR W,zR 9 cD CE]
variable {G:Imm}
set_option maxHeartbeats 1000000 in
def zzP {robS b d:SV} {a:List V2} {c:List T3} {ps:List (List V2)} {B:Bx} {X:List Rat} {V:List (List Lv)} {W:List (List Rat)} {CE:List Num.Pl.Ce} {fr:List Bool} {js:List Jn} {ls:List Rat} (k:G0 G 78 [robS] (zR 6 zL a)) (j:G0 G 79 [b] (zR 18 vR c)) (i:G0 G 80 [zR 6 zL a,zR 18 vR c] (zR 1 Uq ps)) (h:G0 G 81 [zR 1 Uq ps] (zl (fQ B X V W CE))) (g:G0 G 82 [zR 1 Uq ps,zR 9 cD CE] (zR 1 cw fr)) (f:G0 G 83 [zl (fQ B X V W CE),zR 1 cw fr] (zR 2 Uh js)) (e:G0 G 84 [zl (fQ B X V W CE),zR 2 Uh js] (zR 3 zP ls)):G0 G 50 [zl [robS,b,d]] (zl ([zR 6 zL a,zR 18 vR c,zR 1 Uq ps]++fQ B X V W CE++[zR 1 cw fr,zR 2 Uh js,zR 3 zP ls])):=by
 refine Fq Tryz.func50 ?_;refine Fm fun b2=>?_;refine xv 10 [7,9] _ (by rfl) (.cons _ .slnil)<|ab.one (yC Z Z Z) Z Z Z (by rfl)<|FB ?_;refine ab.one (zb Z Z k) Z Z Z (by rfl)<|FB ?_;refine FC (zb Z Z j) ?_
 refine .loc1n 0 (xf Z Z Z Z Gg) Z Z Z ?_;rintro s1 H1 ⟨rfl,rfl⟩;refine⟨(.cons _ .slnil),?_⟩;refine FB ?_;refine .loc1n 0 (xf Z Z Z Z (by rw [xJ];simp)) Z Z Z ?_;rintro s1 H1 ⟨rfl,rfl⟩;refine⟨(.cons _ .slnil),?_⟩;refine ab.nil<|zg ?_;refine zf i ?_;refine zz ?_;refine wo ([zR 6 zL a,zR 18 vR c,zR 1 Uq ps]++((List.replicate 4 [eqS (.bool false),(G8),(G8)]).flatten++List.replicate 7 G8)) 0 Z Z Z Z Z Z (by rfl) Z Z Z<|zg ?_;refine zf h ?_;refine zz ?_;refine wo ([zR 6 zL a,zR 18 vR c,zR 1 Uq ps]++fQ B X V W CE++[(G8),(G8),(G8)]) 0 Z Z Z Z Z Z (by rfl) Z Z Z<|zg ?_;refine zf g ?_;refine zz ?_;refine wo ([zR 6 zL a,zR 18 vR c,zR 1 Uq ps]++fQ B X V W CE++[zR 1 cw fr,(G8),(G8)]) 0 Z Z Z Z Z Z (by rfl) Z Z Z<|zg ?_;refine zf f ?_;refine zz ?_;refine wo ([zR 6 zL a,zR 18 vR c,zR 1 Uq ps]++fQ B X V W CE++[zR 1 cw fr,zR 2 Uh js,(G8)]) 0 Z Z Z Z Z Z (by rfl) Z Z Z<|zg ?_;refine zf e ?_;refine zz ?_;refine wo ([zR 6 zL a,zR 18 vR c,zR 1 Uq ps]++fQ B X V W CE++[zR 1 cw fr,zR 2 Uh js,zR 3 zP ls]) 0 Z Z Z Z Z Z (by rfl) Z Z Z<|zx<|zz ?_;refine wo ([zR 6 zL a,zR 18 vR c,zR 1 Uq ps]++fQ B X V W CE++[zR 1 cw fr,zR 2 Uh js,zR 3 zP ls]) 0 Z Z Z Z Z Z (by rfl) Z Z (YO Z) ?_
 exact Ly
def zBZ {robS b c:SV} {a:cI} (d:a.cells=zV a.md) (k:G0 G 78 [robS] (zR 6 zL a.rob)) (j:G0 G 79 [b] (zR 18 vR a.tris)) (i:G0 G 80 [zR 6 zL a.rob,zR 18 vR a.tris] (zR 1 Uq a.ps)) (h:G0 G 81 [zR 1 Uq a.ps] (zl (bX a.md))) (g:G0 G 82 [zR 1 Uq a.ps,zR 9 cD a.cells] (zR 1 cw a.free)) (f:G0 G 83 [zl (bX a.md),zR 1 cw a.free] (zR 2 Uh a.joins)) (e:G0 G 84 [zl (bX a.md),zR 2 Uh a.joins] (zR 3 zP a.lens)):G0 G 50 [zl [robS,b,c]] (zl (cE a)):=
 zzP (B:=a.md.box) (X:=a.md.xs) (V:=a.md.levels) (W:=a.md.walls) (CE:=zV a.md) k j i h (d▸g) f e
end Go.Proofs
namespace Num.Pl
open Go Go.Proofs
def Xk (v:Vd):List Rat:=v.2.2::v.2.1.flatMap fun p=>[p.1,p.2]
def qw (v:Vd):(Xk v).length=1+2*v.2.1.length:=by
 unfold Xk;rw [Ap];have:∀ l:List V2,(l.flatMap fun p=>[p.1,p.2]).length=2*l.length:=fun l=>by
  induction l with
  | nil=>rfl
  | cons p l ih=>grind
 grind
def zjs {v:Vd} {g j:Nat} {p:V2} {x:Rat} (h:v.2.1[g]? =some p) (b:[p.1,p.2][j]? =some x):(Xk v)[1+2*g+j]? =some x:=by
 have a:∀ (l:List V2) (g:Nat),l[g]? =some p->(l.flatMap fun p=>[p.1,p.2])[2*g+j]? =some x:=fun l=>by
  induction l with
  | nil=>simp
  | cons q l ih=>
   intro g h;cases g with
   | zero=>
    grind
   | succ g=>
    grind
 unfold Xk;grind
end Num.Pl
namespace Go.Proofs
open Go Go.Sv Num Num.Pl
abbrev q1C (x:Rat):List SV:=[zl (zP x)]
variable {G:Imm}
def zzQ {v:Vd} (h:v.2.1.length<=1000000):xc Tryz.prog G 67 [yo (bY v)] (Qi q1C (Xk v)):=by
 refine xM Tryz.func67 Z Z Z Z fun l E hy=>wO<|Fh ?_;refine ae.yield Z hy Z Z Z (vk Z) (yU _) Z Z Z fun f=>zg ?_;refine xK ?_ ?_<;>intro e
 .exact zj ⟨.inl Z,.inr e⟩
 .obtain rfl:f=true:=by grind
  refine zB<|zi<|wN<|Fh ?_;refine uK [0,11,12] (fun (g:Nat) z=>(13,ML g)::z) (fun g=>[]) (fun g=>(1+2*g,false)) (fun g=>g<=v.2.1.length) (fun g=>v.2.1.length-g) 0 (BL _) ?_;intro g i;refine Fh ?_;refine Fo ?_ ?_<;>intro _ d
  .obtain⟨p,c⟩:=FU v.2.1 g;refine Fh ?_;refine Fm fun k=>?_;refine ae.yield Z hy Z Z Z (vk (zjs (j:=0) c Z)) (yU _) Z Z Z fun y1=>FF ?_ ?_<;>intro a
   .refine Ft ?_;exact⟨.inr Z,.inr a⟩
   .obtain rfl:y1=true:=by grind
    refine ae.yield Z hy Z Z Z (vk (zjs c Z)) (yU _) (gB Z Z Z Z) Z Z fun y2=>zg ?_;refine FR ?_ ?_<;>intro b
    .exact⟨.inr Z,.inr b⟩
    .obtain rfl:y2=true:=by grind
     refine zB<|Fv ?_;refine Do (g+1) ?_;exact⟨g+1,(by omega:g+1<=v.2.1.length),by omega,MM⟩
  .exact⟨.inr Z,.inl (by rw [wn,qw,(C:g=v.2.1.length)])⟩
def zB0 {v:Vd}:G0 G 42 [zl (bY v)] (wD 67 [yo (bY v)]):=by
 refine Fq Tryz.func42 ?_;exact Hj
abbrev pf (k:Int):List SV:=[ze .i8 k]
abbrev fM (r:Num.Pl.Rd):List SV:=[ze .i64 (r.1:Nat)]++zP r.2
abbrev fu (l:List Num.Pl.Rd):List SV:=[zR 4 fM l]
variable {G:Imm}
def gR {b:Gr} {z:Int}:G0 G 449 [zR 1 fu b,MK z] (zp (decide (0<=z/\z<b.length))):=by
 refine zs Tryz.func449 ?_;refine zr<|zz ?_;refine zx<|zz ?_;refine FE ?_ ?_<;>intro _ a
 .exact zj (zu (e:=by grind))
 .exact zj (zu (e:=by grind))
def zB1 {g robS b:SV} {qs:List (V2×V2)} {c:Int} {a:cI} (ft:G0 G 48 [g] (yR [zl [robS,b,zR 12 eC qs],MK c])) (h:c=0->G0 G 50 [zl [robS,b,zR 12 eC qs]] (zl (cE a))) (i:c=0->G0 G 49 [zl (cE a),zR 12 eC qs] (zR 5 bY (qs.map (wV a)))):G0 G 28 [g] (yR [zR 5 bY (if c=0 then qs.map (wV a) else []),MK c]):=by
 refine zs Tryz.func28 ?_;refine zr<|Fi ((AX (zR 5 bY [])<|(yt Z Z).sub g8)) ?_;refine Fk ft ?_;refine Fm fun j=>?_;refine zd ?_ ?_<;>intro d f
 .have e:=MU.1 d;rw [MX e];refine wW 6 V<|zz ?_;refine Fk (h e) ?_;refine Fk (i e) ?_;exact Hj
 .have e:¬ c=0:=MT.1 d;rw [MY e];exact Lk
def zzR {e:SV} {vs:List Vd} {c:Int} (i:G0 G 28 [e] (yR [zR 5 bY vs,MK c])) (j:vs.length<=1000000):G0 G 24 [e] (yR [zR 1 pf (vs.map (·.1)),MK c]):=by
 refine Fq Tryz.func24 ?_;refine Fk i ?_;refine zH (yI 65 1)<|Xt [3,12,13,24,25] (fun (m:Nat) (q:G3) z=>(14,ML m)::(2,eqS (rowV q m))::z) (fun m q=>[rowE q 65 1 m (((vs.map (·.1)).take m).flatMap pf)]) (fun m q=>m<=vs.length/\zX q m) (fun m q=>vs.length-m) 0 none ⟨BL _,Z⟩ ?_;rintro m q ⟨k,hq⟩;refine Fh ?_;refine FP ?_ ?_<;>intro _ d
 .obtain⟨v,h⟩:=FU vs m;have hms:=yp (l:=(vs.map (·.1))) (by rw [Ba,h];rfl);refine Fh ?_;refine Fm fun n=>?_;refine FL 1 Z Z Z Z hq (by rw [yG GY,BG,BR,AU C,Cr]) fun b a=>?_;refine zz ?_;refine zM<|Fv ?_;refine Do (m+1) ?_
  exact⟨m+1,b,⟨C,a⟩,C,an zk Gp⟩
 .obtain rfl:m=vs.length:=C;refine zK<|zr<|ae.ghost _ Z (yF 0 2 Z Z hq (BR _) F7 GX GK)<|zg ?_;exact zj zt
end Go.Proofs
namespace Num.Pl
open Go Go.Proofs
variable {l D:G7} {i j:Nat}
structure df (l:G7) (i j:Nat) (D:G7):Prop where
 len:D.length=l.length
 ij:i+j+1=l.length
 at':∀ p,D[p]? =if p<i\/j<p then l.reverse[p]? else l[p]?
def df.start (h:0<l.length):df l 0 (l.length-1) l:=⟨Z,C,fun p=>by
 grind⟩
def df.go (h:df l i j D) (g:i<j) {x y:Nat} (hx:D[j]? =some x) (hy:D[i]? =some y):df l (i+1) (j-1) ((D.set i x).set j y):=by
 have k:=h.ij;refine⟨by rw [Cd,Cd,h.len],by omega,fun p=>?_⟩;have a:∀ q,q<l.length->l.reverse[q]? =l[l.length-1-q]? :=fun q hq=>List.getElem?_reverse hq;have d:=h.at' j;have b:=h.at' i;rw [MY (by omega)] at d b
 by_cases f:p=j
 .subst f;rw [Cf (by grind),MX (by omega),a p (by omega),(C:l.length-1-p=i),<-b,hy]
 .rw [AY (fun e=>f e.symm)];by_cases e2:p=i
  .subst e2;grind
  .rw [AY (fun e=>e2 e.symm),h.at' p];by_cases c:p<i\/j<p
   .rw [MX c,MX (by omega)]
   .rw [MY c,MY (by omega)]
def df.done (h:df l i j D) (a:¬ i<j):D=l.reverse:=by
 have b:=h.ij;refine List.ext_getElem? fun p=>?_;rw [h.at' p]
 grind
end Num.Pl
namespace Go.Proofs
open Go Go.Sv Num Num.Pl
def lO:∀ {l:G7} {i x:Nat},l[i]? =some x->(l.flatMap ZF)[i*1]? =some (ML x)
 | y::l,0,x,h=>by grind
 | y::l,i+1,x,h=>by
  rw [BM,Cr];show ((l.flatMap ZF))[i]? =_;have:=lO (i:=i) h;grind
variable {G:Imm}
def ztM {l:G7} {bb cc:Nat} (hq:zX (some (bb,cc)) l.length) (f:0<l.length) (g:l.length<=1000000):CallSpec Tryz.prog G 450 [eqS (rowV (some (bb,cc)) l.length)] [rowE (some (bb,cc)) 3 1 l.length (l.flatMap ZF)] (fun v H1=>v=yR []/\H1=[rowE (some (bb,cc)) 3 1 l.length (l.reverse.flatMap ZF)]):=by
 refine zs Tryz.func450 ?_;refine zg ?_;refine Fi ((xd Z Z hq)) ?_;refine Do (l.length-1) ?_;refine Ju [0] (fun (i:Nat) (j:Nat) (D:G7) z=>(2,ML i)::(3,ML j)::z) (fun i j D=>[rowE (some (bb,cc)) 3 1 l.length (D.flatMap ZF)]) (fun i j D=>df l i j D) (fun i j D=>j-i) 0 (l.length-1) l (df.start f) ?_;intro i j D b;have d:=b.ij;have a:=b.len;refine Fh ?_;refine Fo ?_ ?_<;>intro _ e
 .have c:i<j:=C;obtain⟨x,hx⟩:=FU D j;obtain⟨y,hy⟩:=FU D i;refine vA 16 [13,15] _ V (.cons _ .slnil)<|FB ?_;refine FC ((zY j Z Z Z Z C)) ?_;refine FC ((AX (ML x)<|zQ 0 Z Z Z (lO hx))) ?_;refine FC ((zY i Z Z Z Z C)) ?_;refine FC ((AX (ML y)<|zQ 0 Z Z Z (lO hy))) ?_;refine FC ((zY i Z Z Z Z C)) ?_;refine .loc1n 0 (xf (off:=i*1) Z Z Z Z (by rw [il];grind)) Z Z Z ?_
  rintro s1 H1 ⟨rfl,rfl⟩;rw [i7 (by omega)];refine⟨(.cons _ .slnil),?_⟩;refine FC ((zY j Z Z Z Z C)) ?_;refine .loc1n 0 (xf (off:=j*1) Z Z Z Z (by rw [il];grind)) Z Z Z ?_;rintro s2 H2 ⟨rfl,rfl⟩;rw [i7 (by grind)];refine⟨(.cons _ .slnil),?_⟩;refine ab.nil<|zg ?_;refine Do (i+1) ?_;refine Do (j-1) ?_;exact⟨i+1,j-1,(D.set i x).set j y,b.go c hx hy,C,MM⟩
 .obtain rfl:=b.done C;exact HC
open Tryz
abbrev Jh (w:Wt):List SV:=zP w.1++[ze .i64 (w.2.1:Nat),ze .i64 (w.2.2:Nat)]
variable {G:Imm}
variable {n k bb cc i:Nat} {D:Array Wt}
def zzS [ao G] {x y:Wt} (hx:Bq x.1 k) (hy:Bq y.1 k) (j:200*k+20000<=cap):G0 G 548 [zl (Jh x),zl (Jh y)] (zp (Uw x y)):=by
 refine Fq func548 ?_;refine Fl Z Z (xo C) ?_;refine Fo ?_ ?_<;>intro c g
 .have i:x.1≠y.1:=fun e=>(MV.1 c) (uw.2 e);exact zj (zu (e:=by rw [show Uw x y=decide (vK x.1 y.1<0) from decide_eq_decide.2 ⟨fun h=>by unfold fq at h;rcases h with h | h;exact vG.2 h;grind,fun h=>.inl (vG.1 h)⟩]))
 .have d:=uw.1 (bne_eq_false_iff_eq.1 c);refine Fo ?_ ?_<;>intro b f
  .have a:x.2.1≠y.2.1:=fun e=>(MV.1 b) (by rw [e])
   exact zj (zu (e:=by rw [show Uw x y=decide (((x.2.1:Nat):Int)<(y.2.1:Nat)) from decide_eq_decide.2 ⟨fun h=>by unfold fq at h;grind,fun h=>.inr ⟨d,.inl C⟩⟩]))
  .have a:x.2.1=y.2.1:=by have:=bne_eq_false_iff_eq.1 b;omega
   exact zj (zu (e:=by rw [show Uw x y=decide (((x.2.2:Nat):Int)<(y.2.2:Nat)) from decide_eq_decide.2 ⟨fun h=>by unfold fq at h;grind,fun h=>.inr ⟨d,.inr ⟨a,C⟩⟩⟩]))
def zB2 {q:G3} (hq:zX q n):G0 G 523 [eqS (rowV q n)] (ML n):=by
 refine zs func523 ?_;refine zg ?_;refine Fi ((xd Z Z hq)) ?_;exact Hj
def zB3 [ao G] {j:Nat} (e:D.size=n) (hi:i<n) (c:j<n) (a:∀ w∈D.toList,Bq w.1 k) (b:200*k+20000<=cap):CallSpec prog G 549 [eqS (rowV (some (bb,cc)) n),ML i,ML j] [rowE (some (bb,cc)) 544 5 n (vr Jh D)] (fun v H1=>v=zp (Uw D[i]! D[j]!)/\H1=[rowE (some (bb,cc)) 544 5 n (vr Jh D)]):=by
 have hx:=a D[i]! (by grind);have hy:=a D[j]! (by grind);refine Fq func549 ?_;refine Fw 10 ?_;refine Fi ((zY i Z Z Z Z C)) ?_;refine Fi ((yA 0 GY C Z Z Z)) ?_;refine Fi ((zY j Z Z Z Z C)) ?_;refine Fi ((yA 0 GY C Z Z Z)) ?_;refine Fk (zzS hx hy b) ?_;exact Hm
def zB4 {j:Nat} (b:D.size=n) (hi:i<n) (a:j<n):CallSpec prog G 552 [eqS (rowV (some (bb,cc)) n),ML i,ML j] [rowE (some (bb,cc)) 544 5 n (vr Jh D)] (fun v H1=>v=yR []/\H1=[rowE (some (bb,cc)) 544 5 n (vr Jh (Sort.swp D i j))]):=by
 refine Fq func552 ?_;refine vA 16 [13,15] _ V (.cons _ .slnil)<|FB ?_;refine FC ((zY j Z Z Z Z C)) ?_;refine FC ((yA 0 GY C Z Z Z)) ?_;refine FC ((zY i Z Z Z Z C)) ?_;refine FC ((yA 0 GY C Z Z Z)) ?_;refine FC ((zY i Z Z Z Z C)) ?_;refine .loc1n 0 (xk GY C D[j]! Z Z Z) Z Z Z ?_;rintro s1 H1 ⟨rfl,rfl⟩;refine⟨(.cons _ .slnil),?_⟩;refine FC ((zY j Z Z Z Z C)) ?_;refine .loc1n 0 (xk GY Gm D[i]! Z Z Z) Z Z Z ?_;rintro s2 H2 ⟨rfl,rfl⟩;refine⟨(.cons _ .slnil),?_⟩;exact ab.nil<|zM<|HC
def zB5 {D:Array Wt} {w:Wt} {e n:Nat} {b:G3} (f:D.size=n) (d:zX b n) (g:n<=500000000):CallSpec Tryz.prog G 551 [G9 e,gl 544 (zl (Jh w))] [⟨some e,565,[eqS (rowV b n)],0⟩,rowE b 544 5 n (vr Jh D)] (fun v H1=>v=yR []/\∃ a,zX a (n+1)/\H1=[⟨some e,565,[eqS (rowV a (n+1))],0⟩,rowE a 544 5 (n+1) (vr Jh (D.push w))]):=by
 refine Fq Tryz.func551 ?_;refine vA 10 [7,9] _ V (.cons _ (.cons _ .slnil))<|FB ?_;refine FC ((AX (zl (Jh w))<|zdG Z Z V)) ?_;refine FH 1 Z Z Z Z d (by unfold vr;rw [yG (st:=5) GY,BH,f]) fun a c=>⟨(.cons _ (.cons _ .slnil)),?_⟩
 refine FB ?_;refine .loc1n 0 (xf Z Z Z Z Gg) Z Z Z ?_;rintro s1 H1 ⟨rfl,rfl⟩;refine⟨(.cons _ (.cons _ .slnil)),?_⟩;exact ab.nil<|zM ⟨_,[_,_],.none,Dd _,Z,a,c,by unfold vr;rw [Ep,CB];rfl⟩
end Go.Proofs
namespace Go.Sv
open Go Go.RowKit
def zwH {P:Program} {G:Imm} {H:HL} {o:Oper} {g:Ha} {t u:TypeId} {x y:Operand} {k:IntKind} {m n:Int} (hop:o.op= .binOp .quo t x y u) (hx:yW g x=some (ze k m)) (hy:yW g y=some (ze k n)) (e:0<n) (c:k.wrap (m.tdiv n)=m.tdiv n):OpOK P G H o g (ze k (m.tdiv n)):=
 yy GW fun I W a _ _ b=>by
  have h1:a.eval x= .int k m:=b.get GB hx;have d:a.eval y= .int k n:=b.get GB hy;refine⟨.int k (m.tdiv n),?_,Z⟩;simp [execOp,hop,h1,d,eqGuard,binOp,Op.intDiv,(C:¬n=0),c]
def ztN (P:Program) (t:TypeId) (name:String) (f:FuncId) (ptr:Bool):Bool:=match P.info? t with
  | some i=>match i.methods.find? (·.name==name) with
    | some m=>m.path.isEmpty&&decide (m.func=some (f,ptr))
    | none=>false
  | none=>false
def Qo {P:Program} {t e:TypeId} {a:String} {f:FuncId} {b:Bool} (h:ztN P t a f b=true) (u:P.underlying t=some (.pointer e)):bH P t a f b e:=by
 refine⟨?_,u⟩;unfold ztN at h
 grind
end Go.Sv
namespace Go.Proofs
open Go Go.Sv Num Num.Pl Num.Hp Tryz
abbrev lr (b:Nat):SV:=eqS (.iface 563 (.pointer (some ⟨b,0,none⟩)))
def zxG:bH prog 563 "Len" 523 false 565:=Qo V V
def mi:bH prog 563 "Less" 549 false 565:=Qo V V
def mh:bH prog 563 "Swap" 552 false 565:=Qo V V
def zzT:bH prog 563 "Push" 551 true 565:=Qo V V
def zB6:bH prog 563 "Pop" 550 true 565:=Qo V V
abbrev cn (bq:Nat) (q:Option (Nat×Nat)) (D:Array Wt):HL:=[⟨some bq,565,[eqS (rowV q D.size)],0⟩,rowE q 544 5 D.size (vr Jh D)]
def BqA (k:Nat) (D:Array Wt):Prop:=∀ w∈D.toList,Bq w.1 k
def zn3 {j:Nat}:((j:Nat)-1:Int).tdiv 2=((par j:Nat):Int):=by
 unfold par;grind
def mg {q:G3} {n:Nat} (h:zX q n) (a:0<n):∃ b c,q=some (b,c):=by
 cases q with
 | none=>exact M1 h (by show ¬n=0;omega)
 | some q=>grind
variable {G:Imm}
variable {D:Array Wt} {bb cc i a j:Nat}
def zxH {q:G3} (hq:zX q D.size):CallSpec prog G 523 [eqS (rowV q D.size)] (cn a q D) (fun v H1=>v=MK (D.size:Nat)/\H1=cn a q D):=(CallSpec.frame (cn a q D) [] (zB2 hq)).mono (by simp)
def mf [ao G] {k:Nat} (hi:i<D.size) (c:j<D.size) (d:BqA k D) (b:200*k+20000<=cap):CallSpec prog G 549 [eqS (rowV (some (bb,cc)) D.size),ML i,ML j] (cn a (some (bb,cc)) D) (fun v H1=>v=zp (Uw D[i]! D[j]!)/\H1=cn a (some (bb,cc)) D):=(CallSpec.frame [_] [] (zB3 Z hi c d b)).mono (by simp)
def me (hi:i<D.size) (b:j<D.size):CallSpec prog G 552 [eqS (rowV (some (bb,cc)) D.size),ML i,ML j] (cn a (some (bb,cc)) D) (fun v H1=>v=yR []/\H1=cn a (some (bb,cc)) (Sort.swp D i j)):=(CallSpec.frame [_] [] (zB4 Z hi b)).mono (by rintro s H1 ⟨H2,⟨rfl,rfl⟩,rfl⟩;exact⟨Z,by unfold cn;rw [Sort.size_swp];rfl⟩)
def BqA.swp {k:Nat} (h:BqA k D) (hi:i<D.size) (a:j<D.size):BqA k (Sort.swp D i j):=Zk (p:=fun w:Wt=>Bq w.1 k) h hi a
def ztO (hi:i<D.size) (a:j<D.size):(Sort.swp D i j).toList.Perm D.toList:=Qm (n:=D.size) (Sort.swp_permIn D 0 D.size i j (BL _) hi (BL _) a (Af _)) (Af _)
def zDA (c:0<D.size) (hq:zX (some (bb,cc)) D.size) (b:D.size<=1000000000):CallSpec prog G 550 [G9 a] (cn a (some (bb,cc)) D) (fun v H1=>v=gl 544 (zl (Jh D[D.size-1]!))/\H1=cn a (some (bb,cc)) D.pop):=by
 refine zs func550 ?_;refine zg ?_;refine Fi ((xd Z Z hq)) ?_;refine Do (D.size-1) ?_;refine Fi ((zY (D.size-1) Z Z Z Z C)) ?_;refine Fi ((yA 1 GY C Z Z Z)) ?_;refine yT fun e=>?_;refine zg ?_;refine Fi ((xd Z Z hq)) ?_;refine Do (D.size-1) ?_;refine zo ((Wk Z Z hq Z Z C C)) ?_;refine zz ?_;refine zw ?_;refine zM<|Fs (QT [_,_] [] (qa GY D) (zfh GY D) C hq) ?_;refine Fi (mr Z Z V) ?_;exact zj ⟨_,[_,_],.one (.tmp Z),B5 _ _,Z,by unfold cn;rw [El];rfl⟩
def hUp [ao G] {D0:Array Wt} {h f k:Nat} (s:f<D0.size) (t:fE Uw D0.size f D0) (l:BqA k D0) (p:200*k+20000<=cap) (x:D0.size<=1000000000):CallSpec prog G 530 [lr h,ML f] (cn h (some (bb,cc)) D0) (fun v H1=>v=yR []/\∃ D,D.size=D0.size/\eA Uw D.size D/\D.toList.Perm D0.toList/\BqA k D/\H1=cn h (some (bb,cc)) D):=by
 refine Fq func530 ?_;refine Xt [0] (fun (j:Nat) (D:Array Wt) z=>(1,ML j)::z) (fun j D=>cn h (some (bb,cc)) D) (fun j D=>D.size=D0.size/\j<D.size/\fE Uw D.size j D/\D.toList.Perm D0.toList/\BqA k D) (fun j D=>j) f D0 ⟨Z,s,t,.refl _,l⟩ ?_;rintro j D ⟨o,c,d,m,g⟩;have q:par j<=j:=by unfold par;omega
 refine zg ?_;refine Fi (yK (z:=((j:Nat):Int)-1) Z Z Z (MW some C) (wrap_i64 C C)) ?_;refine zo ((zwH Z Z Z J (by rw [zn3];exact wrap_i64 C C)).sub (zI zn3)) ?_;refine zg ?_;refine zi<|zr ?_;(iterate 2 refine zz ?_)
 refine FE ?_ ?_<;>intro _ a
 .have b:j=0:=by unfold par at a;omega
  refine Ft ?_;exact⟨_,[_,_],.none,Dd _,Z,D,o,d.stop (.inl b),m,g,Z⟩
 .have b:0<j:=by unfold par at a;omega
  refine aN [] [_,_] [] (ZV Z Z mi Z Z (mf C C g p)) Z Z (gB Z Z Z Z) Z Z ?_;rintro w HL ⟨rfl,rfl⟩;refine zg ?_;refine Fp ?_ ?_<;>intro e
  .exact⟨_,[_,_],.none,Dd _,Z,D,o,d.stop (.inr (by grind)),m,g,Z⟩
  .have r:Uw D[j]! D[par j]! =true:=by simpa using e
   refine aN [] [_,_] [] (ZV Z Z mh Z Z (me C C)) Z Z Z Z Z ?_;rintro u HS ⟨rfl,rfl⟩;refine zg ?_;exact⟨par j,Sort.swp D (par j) j,⟨by rw [Sort.size_swp];exact o,by rw [Sort.size_swp];omega,by rw [Sort.size_swp];exact d.step WL b c (Af _) r,(ztO C c).trans m,g.swp C c⟩,Ys b,MM⟩
def zfz {m c:Nat} (e:c=2*i+1\/c=2*i+2) (a:c<m) (h1:Uw D[2*i+1]! D[c]! =false) (d:2*i+2<m->Uw D[2*i+2]! D[c]! =false):0<c/\c<m/\par c=i/\∀ j,0<j->j<m->par j=i->Uw D[j]! D[c]! =false:=by
 refine⟨C,a,by unfold par;omega,fun j f b hp=>?_⟩;unfold par at hp
 grind
def zB7 [ao G] {D0:Array Wt} {g m k:Nat} (R:m<=D0.size) (O:fG Uw m 0 D0) (y:BqA k D0) (H:200*k+20000<=cap) (Q:D0.size<=1000000000):CallSpec prog G 529 [lr g,ML 0,ML m] (cn g (some (bb,cc)) D0) (fun v H1=>(∃b,v=zp b)/\∃ D,D.size=D0.size/\eA Uw m D/\Sort.PermIn 0 m D0 D/\BqA k D/\H1=cn g (some (bb,cc)) D):=by
 refine Fq func529 ?_;refine Xt [0,1,2,6,45,46,47] (fun (i:Nat) (D:Array Wt) z=>(7,ML i)::z) (fun i D=>cn g (some (bb,cc)) D) (fun i D=>D.size=D0.size/\i<=D.size/\fG Uw m i D/\Sort.PermIn 0 m D0 D/\BqA k D) (fun i D=>m-i) 0 D0 ⟨Z,BL _,O,Sort.permIn_refl _ _ _,y⟩ ?_;rintro i D ⟨E,N,e,A,s⟩;refine zg ?_;refine Do (2*i) ?_;refine za ((2*i+1:Nat):Int) ?_;refine zg ?_;refine zi<|zr ?_;(iterate 2 refine zz ?_);refine FE ?_ ?_<;>intro _ n
 .refine Ft ?_;exact zj ⟨_,[_,_],.one (.tmp Z),Dd _,⟨_,Z⟩,D,E,e.stop (fun j K I hp=>M1 hp (by unfold par;omega)),A,s,Z⟩
 .refine zd (fun F t=>?_) fun _ t=>?_
  .exact M1 (MO F) C
  .refine zg ?_;refine Vx [0,1,2,6,7,8,12,13,14,15,16,17,18,19,20,21,22,35,36,37,38,39,40,41,42,44,45,46,47] (fun (c:Nat) z=>(9,ML c)::z) (fun c=>cn g (some (bb,cc)) D) (fun c=>0<c/\c<m/\par c=i/\∀ j,0<j->j<m->par j=i->Uw D[j]! D[c]! =false) ?_ ?_
   .refine zg ?_;refine za ((2*i+2:Nat):Int) ?_;refine zz ?_;refine zM<|Vx [0,1,2,6,7,8,9,10,12,13,14,15,16,17,18,19,20,21,22,23,24,34,35,36,37,38,39,40,41,42,44,45,46,47] (fun (b:Bool) z=>(33,zp b)::z) (fun b=>cn g (some (bb,cc)) D) (fun b=>(b=true->2*i+2<m/\Uw D[2*i+2]! D[2*i+1]! =true)/\(b=false->2*i+2<m->Uw D[2*i+2]! D[2*i+1]! =false)) ?_ ?_
    .apply zJ;(iterate 2 refine zz ?_);refine FE ?_ ?_<;>intro _ l
     .refine aN [] [_,_] [] (ZV Z Z mi Z Z (mf C C s H)) Z Z (gB Z Z Z Z) Z Z ?_;rintro L HL ⟨rfl,rfl⟩;refine zg ?_;exact⟨Uw D[2*i+2]! D[2*i+1]!,⟨fun h=>⟨C,h⟩,fun h _=>h⟩,MM⟩
     .exact⟨false,⟨fun h=>M1 h B,fun _ h=>M1 h C⟩,MM⟩
    .rintro b ⟨r,x⟩;refine Fp ?_ ?_<;>intro a
     .exact⟨2*i+2,zfz (.inr Z) (r a).1 (ly WL (r a).2) (fun _=>WL.irrefl _),MM⟩
     .exact⟨2*i+1,zfz (.inl Z) C (WL.irrefl _) (x a),MM⟩
   .rintro c ⟨d,p,w,q⟩;refine Fh ?_;refine aN [] [_,_] [] (ZV Z Z mi Z Z (mf C C s H)) Z Z Z Z Z ?_;rintro L HL ⟨rfl,rfl⟩;refine zg ?_;refine Fp ?_ ?_<;>intro f
    .have u:Uw D[c]! D[i]! =false:=by simpa using f
     exact zj ⟨_,[_,_],.one (.tmp Z),Dd _,⟨_,Z⟩,D,E,e.stop (fun j K I hp=>WL.ntrans _ _ _ (q j K I hp) u),A,s,Z⟩
    .have u:Uw D[c]! D[i]! =true:=by simpa using f
     have o:i<m:=by have:=Ys d;omega
     have M:i<c:=by have:=Ys d;omega
     refine aN [] [_,_] [] (ZV Z Z mh Z Z (me C C)) Z Z Z Z Z ?_;rintro P HS ⟨rfl,rfl⟩;refine zg ?_;exact⟨c,Sort.swp D i c,⟨by rw [Sort.size_swp];exact E,by rw [Sort.size_swp];omega,e.step WL d p w C u q,Sort.permIn_trans _ _ _ _ _ A (Sort.swp_permIn D 0 m i c (BL _) o (BL _) p C),s.swp C C⟩,C,MM⟩
variable {D:Array Wt} {l:List Wt} {k b:Nat} {w:Wt} {q:G3}
def zzU (hq:zX q D.size) (d:D.size<=500000000):CallSpec prog G 551 [G9 b,gl 544 (zl (Jh w))] (cn b q D) (fun v H1=>v=yR []/\∃ bb cc,zX (some (bb,cc)) (D.push w).size/\H1=cn b (some (bb,cc)) (D.push w)):=(zB5 (w:=w) Z hq d).mono (by
 rintro s H1 ⟨rfl,c,a,rfl⟩;refine⟨Z,?_⟩;unfold cn;rw [Eo];cases c with
 | none=>exact M1 a (by show ¬D.size+1=0;omega)
 | some z=>grind)
def zB8 [ao G] {g:Nat} (hq:zX q D.size) (i:bF Uw D l) (o:BqA k D) (j:Bq w.1 k) (m:200*k+20000<=cap) (n:D.size<=500000000):CallSpec prog G 525 [lr g,gl 544 (zl (Jh w))] (cn g q D) (fun v H1=>v=yR []/\∃ D1 bb cc,zX (some (bb,cc)) D1.size/\D1.size=D.size+1/\bF Uw D1 (ins Uw w l)/\BqA k D1/\H1=cn g (some (bb,cc)) D1):=by
 refine Fq func525 ?_;refine aN [] [_,_] [] (zi8 Z Z zzT Z (zzU hq n)) Z Z Z Z Z ?_;rintro r HS ⟨rfl,bb,cc,a,rfl⟩;have t:(D.push w).size=D.size+1:=Eo ..;have b:BqA k (D.push w):=fun v hv=>by rw [Ep] at hv;rcases Bu.1 hv with h | h;exact o v h;grind
 refine Fh ?_;refine aN [] [_,_] [] (ZV Z Z zxG Z Z (zxH a)) Z Z Z Z Z ?_;rintro s HN ⟨rfl,rfl⟩;refine Do D.size ?_;refine ah [] [_,_] [] Z Z Z Z (hUp C (fE.pushed i.hp) b m C) Z Z Z ?_;rintro p HU ⟨rfl,D1,f,e,d,c,rfl⟩;rw [<-f] at a
 exact zM ⟨_,[_,_],.none,Dd _,Z,D1,bb,cc,a,C,i.pushed WL e d,c,Z⟩
def zDB [ao G] {f bb cc:Nat} (hq:zX (some (bb,cc)) D.size) (d:bF Uw D (w::l)) (n:BqA k D) (h:200*k+20000<=cap) (t:D.size<=500000000):CallSpec prog G 524 [lr f] (cn f (some (bb,cc)) D) (fun v H1=>v=gl 544 (zl (Jh w))/\∃ D1,zX (some (bb,cc)) D1.size/\D1.size+1=D.size/\bF Uw D1 l/\BqA k D1/\H1=cn f (some (bb,cc)) D1):=by
 have hsz:=d.size;rw [Ap] at hsz
 refine Fq func524 ?_;refine aN [] [_,_] [] (ZV Z Z zxG Z Z (zxH hq)) Z Z Z Z Z ?_;rintro r HN ⟨rfl,rfl⟩;refine Do (D.size-1) ?_;refine aN [] [_,_] [] (ZV Z Z mh Z Z (me (i:=0) C C)) Z Z Z Z Z ?_;rintro p HS ⟨rfl,rfl⟩;refine zg ?_;refine ah [] [_,_] [] Z Z Z Z (zB7 (by rw [Sort.size_swp];omega) (fG.popped (by rw [AP C];exact d.hp) C) (n.swp C C) h (by rw [Sort.size_swp];omega)) Z Z Z ?_;rintro s HD ⟨⟨_,rfl⟩,D2,o,e,b,a,rfl⟩;obtain⟨g,e2,c⟩:=d.popped WL zte e b;rw [<-e2] at hq g
 refine Fh ?_;refine aN [] [_,_] [] (zi8 Z Z zB6 Z (zDA C hq C)) Z Z Z Z Z ?_;rintro q HP ⟨rfl,rfl⟩;refine zg ?_;exact zj ⟨_,[_,_],.one (.tmp Z),Dd _,by rw [g],D2.pop,by rw [El];exact⟨Ag (Nat.sub_le _ _) hq.1,hq.2⟩,by grind,c,znt a,Z⟩
end Go.Proofs
namespace Num.Pl
open Go Go.Proofs Num.Hp
variable {done:List Bool} {r:Num.Pl.Rd} {kb K fr:Nat} {l:List Wt} {g:Gr} {w:Wt}
structure lz (g:Gr) (kb fr K:Nat) (D:Array Wt) (done:List Bool) (k:Nat) (l S:List Wt):Prop where
 len:S.length=k
 all:xD g fr=S++eZ g l done
 si:SI g kb fr l done S
 hp:bF Uw D l
 bq:∀ w∈D.toList,Bq w.1 K
def lz.start (hf:fr<g.length) (c:0<K):lz g kb fr K #[(0,0,fr)] (List.replicate g.length false) 0 [(0,0,fr)] [] where
 len:=rfl
 all:=rfl
 si:=SI.start hf
 hp:=⟨fun k d b=>M1 b GV,.refl _,DY _ _⟩
 bq:=fun w a=>by
  rw [show w=(0,0,fr) by grind];exact xb bq_zero c
theorem zzV {S:List Wt} (c:1+g.length*(kb+1)<=K) (h:SI g kb fr l done S) (b:S.length<=g.length):∀ w∈l,Bq w.1 K:=fun w a=>by
 have:=h.bq w a;exact xb this.1 (Ag (Ez (BK _ (Ag this.2 b)) 1) c)
theorem zwI {n:Nat} (a:1+n*(kb+1)<=K) (b:Bq w.1 (1+w.2.1*(kb+1))) (c:Bq r.2 kb) (h:w.2.1+1<=n):Bq (w.1+r.2) K:=
 xb (inferInstance:Bq (w.1+r.2) _) (Ag (Ag (by grind) (Ez (BK _ h) 1)) a)
def ztP {q:List Wt} {a:List Num.Pl.Rd} {m:Nat} (h:a[m]? =some r):Yt w done q (a.take (m+1))=if done.getD r.1 false then Yt w done q (a.take m) else ins Uw (w.1+r.2,w.2.1+1,r.1) (Yt w done q (a.take m)):=by
 unfold Yt;rw [yp h,Dt];rfl
end Num.Pl
namespace Go.Proofs
open Go Go.Sv Num Num.Pl Num.Hp
abbrev w1C (w:Wt):List SV:=[zl (Jh w)]
def zzW (l:List Bool):(l.flatMap cw).length=l.length:=by rw [yG GY,Cr]
def zzX {l:List Bool} {i:Nat} (b:Bool) (h:i<l.length):xB (l.flatMap cw) (i*1) [zp b]=(l.set i b).flatMap cw:=Xi (f:=cw) (st:=1) GY b h
def lN:∀ {l:List Bool} {i:Nat},i<l.length->(l.flatMap cw)[i*1]? =some (zp (l.getD i false))
 | y::l,0,_=>rfl
 | y::l,i+1,h=>by
  rw [BM,Cr];show (l.flatMap cw)[i]? =_;have:=lN GP;grind
def zwJ (n:Nat):(yD [Value.bool false] n).map eqS=(List.replicate n false).flatMap cw:=by
 have e:yD [Value.bool false] n=List.replicate n (Value.bool false):=by
  unfold yD;refine Dj B fun i h1 a=>?_;simp [BN]
 rw [e,CJ];have h:∀ n,List.replicate n (eqS (Value.bool false))=(List.replicate n false).flatMap cw:=fun n=>by
  induction n with
  | zero=>rfl
  | succ n ih=>grind
 grind
variable {G:Imm}
def zqm [ao G] {g:Gr} {kb fr K:Nat} (L:GrOk g kb) (hf:fr<g.length) (hK:1+g.length*(kb+1)<=K) (hs:200*(K+kb)+40000<=cap) (c4:g.length<=1000000) (hF:1+Jf g (List.replicate g.length false)<=500000000) (a4:∀ a,(g.getD a []).length<=500000000):xc Tryz.prog G 522 [yo [zR 1 fu g],yo [ML fr]] (Qi w1C (xD g fr)):=by
 refine xM Tryz.func522 Z Z Z Z fun l E hy=>wO<|zr<|zz ?_;refine zz ?_;refine ae.make Z Z Z Z Z Z Z C C GK fun Y b7=>zg ?_;rw [Cr,zwJ];refine xv 5 [3,4] _ V (.cons_cons _ .slnil)<|ab.one ((AX (zl (zP 0))<|zb Z Z (wK J J))) Z Z Z V<|ab.one ((AX (ML fr)<|xP Z Z)) Z Z Z V<|FC ((AX (zl (Jh (0,0,fr)))<|yQ Z Z V)) ?_;refine .loc0 (Jz Z Z J Z (.inr B) Z V) Z Z Z ?_;rintro s1 H1 ⟨b5,N,rfl,rfl⟩;refine⟨(.cons _ (.cons_cons _ .slnil)),?_⟩;refine ab.nil ⟨_,Z,?_⟩;refine .loc0 (zwV Z Z) Z Z Z ?_;rintro s1 H1 ⟨X,rfl,rfl⟩;refine⟨(.cons _ (.cons _ (.cons_cons _ .slnil))),?_⟩;refine ab.nil<|zz ?_;refine zM<|zi<|wN<|zN<|zyQ [0,1,4,5] (fun (D:Array Wt) (qq:Nat×Nat) (done:List Bool) (k:Nat) z=>z) (fun D qq done k=>[⟨some X,565,[eqS (rowV (some qq) D.size)],0⟩,rowE (some qq) 544 5 D.size (vr Jh D),rowE (some (Y,g.length)) 4 1 g.length (done.flatMap cw)]) (fun D qq done k=>(k,false)) (fun D qq done k=>∃ l S,lz g kb fr K D done k l S/\zX (some qq) D.size/\D.size+Jf g done<=500000000) (fun D qq done k=>D.size+Jf g done) #[(0,0,fr)] (b5,1) (List.replicate g.length false) 0 ⟨_,[],lz.start hf C,N,by omega⟩ ?_
 rintro D ⟨bb,cc⟩ done k ⟨l,S,hI,hq,hn⟩;have b:=hI.si.len;have a9:=hI.si.size;have hsz:=hI.hp.size;refine zi<|zg ?_;refine Fk (zB2 hq) ?_;refine zd ?_ ?_<;>intro _ a1
 .obtain⟨w,l,rfl⟩:∃ w l2,l=w::l2:=by
   cases l with
   | nil=>grind
   | cons w l=>simp
  have v:=hI.si.nq w (Dv ..);have a2:=hI.si.bq w (Dv ..);have c1:=zzV hK hI.si a9 w (Dv ..);refine zg ?_;refine zo (zfl Z Z V) ?_;refine ah [] [_,_] [_] Z Z Z Z (zDB hq hI.hp hI.bq C C) Z Z Z ?_;rintro c0 H24 ⟨rfl,D1,H,c7,Q,R,rfl⟩;refine zo ((AX (zl (Jh w))<|zdG Z Z V)) ?_;refine yT fun b6=>?_;refine Fh ?_;refine zo ((zY (w.2.2) Z Z Z Z C)) ?_;refine Fi ((AX (zp (done.getD w.2.2 false))<|zQ 3 Z Z Z (lN (by rw [b];omega)))) ?_;refine xK ?_ ?_<;>intro c
  .have I:=ztg L b hI.si.nq c;exact zH (zF (B5 _ _))<|zK ⟨D1,(bb,cc),done,k,⟨l,S,⟨hI.len,hI.all.trans (by rw [I]),hI.si.old c,Q,R⟩,H,C⟩,C,MM⟩
  .have f:=zth L b hI.si.nq c;have O:=hI.si.new L c;have a8:=zja b v c;have M:(done.set w.2.2 true).length=g.length:=by rw [Cd];exact b
   have P:=O.size;rw [Aw,DX] at P
   refine zg ?_;refine zo ((zY (w.2.2) Z Z Z Z C)) ?_;refine wo ((done.set w.2.2 true).flatMap cw) 3 Z Z Z Z Z Z (by rw [zzW];exact Ew (by grind)) Z Z (zzX true (by omega))<|zM<|zi<|zg ?_;refine ae.yield Z hy Z Z Z (vk (by rw [hI.all,Ae (by rw [hI.len];omega),hI.len,Az,f];rfl)) (yU _) Z Z Z fun y=>zg ?_;refine xK ?_ ?_<;>intro u
   .exact zj ⟨.inl Z,.inr u⟩
   .obtain rfl:y=true:=by grind
    obtain⟨d,x⟩:∃ d,g[w.2.2]? =some d:=⟨_,AL v⟩;have i:g.getD w.2.2 []=d:=by rw [Ay,x];rfl
    have a3:=a4 w.2.2;rw [i] at a3 a8
    refine zg ?_;refine Fh ?_;refine Ju [0,1,4,5,6,17,18,19,20,21,22,23,24,25,26,27,28,29,30,31,32,33,34,35,36,37,38,39,40,41,42,43,44] (fun (D2:Array Wt) (qq:Nat×Nat) (m:Nat) z=>(45,ML m)::z) (fun D2 qq m=>[⟨some b6,544,Jh w,0⟩,⟨some X,565,[eqS (rowV (some qq) D2.size)],0⟩,rowE (some qq) 544 5 D2.size (vr Jh D2),rowE (some (Y,g.length)) 4 1 g.length ((done.set w.2.2 true).flatMap cw)]) (fun D2 qq m=>m<=d.length/\zX (some qq) D2.size/\bF Uw D2 (Yt w (done.set w.2.2 true) l (d.take m))/\BqA K D2/\D2.size<=D1.size+m) (fun D2 qq m=>d.length-m) D1 (bb,cc) 0 ⟨BL _,H,Q,R,Af _⟩ ?_;rintro D2 ⟨W,U⟩ m ⟨hm,j,e,s,c6⟩;refine Fh ?_;refine zd ?_ ?_<;>intro _ a0
    .obtain⟨r,F⟩:=FU d m;have A:r∈g.getD w.2.2 []:=by rw [i];exact AE F
     have c2:=L.nod _ r A;have a5:=L.far _ r A;refine zB<|zi<|zg ?_;refine zo (zh Z Z Z C F) ?_;refine zz ?_;refine yT fun b8=>?_;refine zg ?_;refine zo ((zY (r.1) Z Z Z Z C)) ?_;refine Fi ((AX (zp ((done.set w.2.2 true).getD r.1 false))<|zQ 4 Z Z Z (lN (by rw [M];omega)))) ?_;refine xK ?_ ?_<;>intro t
     .have o:(done.set w.2.2 true).getD r.1 false=false:=by simpa using t
      have a7:D2.size<=500000000:=C;have b1:=zwI hK a2.1 a5 C;refine vA 16 [15] _ V (.cons_cons _ (.cons_cons _ (.cons _ (.cons _ (.cons_cons _ .slnil)))))<|FC (zC Z Z) ?_;refine FC (zfl Z Z V) ?_;refine ab.one ((AX (zl (zP (w.1)))<|zE 1 Z Z Z V Z)) Z Z Z V<|ab.one (zS Z Z Z) Z Z Z V<|FC ((AX (zl (zP (r.2)))<|zE 0 Z Z Z V Z)) ?_;refine FC (zb Z Z (vM (p:=w.1) (q:=r.2) C)) ?_;refine ab.one (yK (z:=((w.2.1+1:Nat):Int)) Z Z Z (MW some C) (wrap_i64 C C)) Z Z Z V<|ab.one (zS Z Z Z) Z Z Z V<|ab.one ((AX (MK (r.1:Nat))<|zQ 0 Z Z Z Z)) Z Z Z V<|FC ((AX (zl (Jh (w.1+r.2,w.2.1+1,r.1)))<|yQ Z Z V)) ?_;refine FC ((AX (gl 544 (zl (Jh (w.1+r.2,w.2.1+1,r.1))))<|mr Z Z V)) ?_;refine ar.loc [_,_] [_,_] [_] Z (VL Z Z (zB8 j e s b1 C a7)) Z Z ?_;rintro b9 H70 ⟨rfl,D3,b4,b3,a6,c5,b0,b2,rfl⟩;refine⟨(.cons_cons _ (.cons_cons _ (.cons _ (.cons _ (.cons_cons _ .slnil))))),?_⟩;refine ab.nil<|zM<|zH (zF (B5 _ _))<|zJ<|Do (m+1) ?_;exact⟨D3,(b4,b3),m+1,⟨C,a6,by rw [ztP F,o,MY J];exact b0,b2,C⟩,C,MM⟩
     .have o:(done.set w.2.2 true).getD r.1 false=true:=by simpa using t
      refine zB<|zH (zF (B5 _ _))<|zJ<|Do (m+1) ?_;exact⟨D2,(W,U),m+1,⟨C,j,by rw [ztP F,o,MX Z];exact e,s,C⟩,C,MM⟩
    .obtain rfl:m=d.length:=C;rw [B3,<-i] at e
     refine Fs (zF (B5 _ _)) ?_;exact⟨D2,(W,U),done.set w.2.2 true,k+1,⟨_,S++[w],⟨by rw [Aw,hI.len];rfl,by rw [hI.all,f,Bw];rfl,O,e,s⟩,j,C⟩,C,MM⟩
 .obtain rfl:l=[]:=Aa C;have h:=hI.all;rw [ztf,BV] at h
  exact zK ⟨.inr Z,.inl (by rw [wn,h,hI.len])⟩
def ztR {g:Gr} {fr:Nat}:G0 G 501 [zR 1 fu g,ML fr] (wD 522 [yo [zR 1 fu g],yo [ML fr]]):=by
 refine Fq Tryz.func501 ?_;exact zj zt
end Go.Proofs
