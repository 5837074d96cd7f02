/- The planner in general: which cells are free. -/
import Derived.Test.YtceodgbmninaoaaGreatDoorSrh
import Derived.Test.YtceodgbmninaoaaGreatDoorSqt
set_option linter.all false
namespace Go.Proofs
open Go Go.Sv Num Num.Pl Tryz
abbrev cw (b:Bool):List SV:=[zp b]
abbrev coC (ps:List (List V2)) (c:Num.Pl.Ce):List SV:=[zl (cD c),ze .i64 ((ip ps c.2.2.2).length:Nat)]
abbrev jq (e:Nat×Nat):List SV:=[ze .i64 (e.1:Nat),ze .i64 (e.2:Nat)]
def zwv {ps:List (List V2)} {c:Num.Pl.Ce}:((((ip ps c.2.2.2).length:Nat):Int)==0)=Jt ps c:=by
 unfold Jt ip eS;rw [DR,MU,DA,Ey];constructor
 .intro h l b;obtain⟨i,hi⟩:=Dr b;have a:=Aa (C:((List.range ps.length).filter fun i=>fL (ps.getD i []) c.2.2.2).length=0);rw [List.filter_eq_nil_iff] at a
  have:=a i (AI.2 (EC.1 hi).1);grind
 simp_all
def zqg {a n g:Nat} (h:g<2*n-2):(YM a n)[g]? =some (a+g,a+g+1):=by
 unfold YM;exact K5
def zqh (a n:Nat):(YM a n).length=2*n-2:=by unfold YM;simp
def enF (b:Bool) (v:Lv):Rat:=if b then v.2 else v.1
variable {G:Imm}
variable {ps:List (List V2)} {cs:List Num.Pl.Ce} {k a:Nat}
def cBy [ao G] {c:Num.Pl.Ce} (e:0<k) (d:∀ l∈ps,vE k l/\l.length<=1000000) (hp:Bp c.2.2.2 k) (a:800*k+30000<=cap) (b:ps.length<=1000000):G0 G 206 [zR 1 Uq ps,zl (cD c)] (zR 1 ZF (ip ps c.2.2.2)):=by
 refine Fq func206 ?_;refine Fk (zy2 e d hp a b) ?_;exact Hj
def zww [ao G] (i:0<k) (h:∀ l∈ps,vE k l/\l.length<=1000000) (hp:∀ c∈cs,Bp c.2.2.2 k) (e:800*k+30000<=cap) (f:ps.length<=1000000) (j:cs.length<=1000000):xc prog G 205 [yo [zR 9 cD cs],yo [zR 1 Uq ps]] (Qi (coC ps) cs):=by
 refine xM func205 Z Z Z Z fun l E hy=>Fh ?_;refine uK [0,2,6,7] (fun (g:Nat) z=>(8,ML g)::z) (fun g=>[]) (fun g=>(g,false)) (fun g=>g<=cs.length) (fun g=>cs.length-g) 0 (BL _) ?_;intro g m;refine Fh ?_;refine Fo ?_ ?_<;>intro _ d
 .obtain⟨c,b⟩:=FU cs g;refine Fh ?_;refine Fm fun n=>?_;refine Fw 6 ?_;refine Fk (cBy i h (hp c (AE b)) e f) ?_;refine ae.yield Z hy Z Z Z (vk b) (yU _) Z Z Z fun y=>zg ?_;refine xK ?_ ?_<;>intro a
  .exact zj ⟨.inl Z,.inr a⟩
  .obtain rfl:y=true:=by grind
   refine zB<|Fv ?_;refine Do (g+1) ?_;exact⟨g+1,(by omega:g+1<=cs.length),by omega,MM⟩
 .exact⟨.inr Z,.inl (by rw [wn,(C:g=cs.length)])⟩
def zzC:G0 G 122 [zR 1 Uq ps,zR 9 cD cs] (wD 205 [yo [zR 9 cD cs],yo [zR 1 Uq ps]]):=by
 refine Fq func122 ?_;exact Hj
def zBM [ao G] (u:0<k) (t:∀ l∈ps,vE k l/\l.length<=1000000) (hp:∀ c∈cs,Bp c.2.2.2 k) (r:800*k+30000<=cap) (s:ps.length<=1000000) (n:cs.length<=1000000):G0 G 82 [zR 1 Uq ps,zR 9 cD cs] (zR 1 cw (cs.map (Jt ps))):=by
 have b:(cs.map (Jt ps)).length=cs.length:=BR _;refine Fq func82 ?_;refine yT fun w=>?_;refine zM<|zi<|Fs (yI 4 1) ?_;refine Fk zzC ?_;refine uN Z Z (zww u t hp r s n) (fun p h=>Yq GY h) J Z
  (fun g h i=>i=(0,false)/\∃ q,zX q g/\h=[rowE q 4 1 g (((cs.map (Jt ps)).take g).flatMap cw),⟨some w,107,[eqS (rowV q g)],0⟩])
  (fun _ _ _=>False) ⟨Z,none,Z,Z⟩ ?_ ?_ ?_
 .rintro l g p h i j ⟨rfl,q,hq,rfl⟩;obtain⟨c,o,rfl⟩:=uQ j;have v:=(EC.1 o).1;have e:=yp (l:=(cs.map (Jt ps))) (by rw [Ba,o];rfl);refine Fh ?_;refine⟨Z,?_⟩;refine zN<|zJ ?_;(iterate 2 refine zz ?_);refine Fi ((AX (zp (Jt ps c))<|(zZ Z Z Z Z).sub (yz zwv))) ?_;refine Fx 0 Z Z Z Z hq (by rw [yG GY,BG,b,AU C,Cr]) fun d a=>?_
  exact⟨Z,d,a,by rw [e,CB];rfl⟩
 .rintro h i D ⟨rfl,q,hq,rfl⟩;rw [wn] at hq ⊢
  rw [BC C];refine Fs (uF [] [] [] hq b Z GX GK) ?_;exact Hj
 simp
def znT {n:Nat} (f:a<=1000000000) (d:n<=1000000000):xc prog G 314 [yo [ML n],yo [ML a]] (Qi jq (YM a n)):=by
 refine xM func314 Z Z Z Z fun l E hy=>zg ?_;refine Do (2*n) ?_;refine zo (yK (z:=((2*n:Nat):Int)-2) Z Z Z (MW some (by omega)) (wrap_i64 (by omega) (by omega))) ?_;refine Fi ((AX (ML (2*n-2))<|(Yb Z Z Z).sub (zI C))) ?_;refine uK [0,2,8] (fun (g:Nat) z=>(9,ML g)::z) (fun g=>[]) (fun g=>(g,false)) (fun g=>g<=2*n-2) (fun g=>2*n-2-g) 0 (BL _) ?_
 intro g e;refine Fh ?_;refine Fo ?_ ?_<;>intro _ c
 .refine Do (a+g) ?_;refine Do (a+g) ?_;refine Do (a+g+1) ?_;refine ae.yield Z hy Z Z Z (vk (zqg (by omega))) (yU _) Z Z Z fun y=>zg ?_;refine Fp ?_ ?_<;>intro b
  .exact zj ⟨.inl Z,.inr b⟩
  .obtain rfl:y=true:=by grind
   refine Do (g+1) ?_;exact⟨g+1,(by omega:g+1<=2*n-2),by omega,MM⟩
 .exact⟨.inr Z,.inl (by rw [wn,zqh,(C:g=2*n-2)])⟩
def ztB {n:Nat}:G0 G 209 [ML a,ML n] (wD 314 [yo [ML n],yo [ML a]]):=by
 refine Fq func209 ?_;exact Hj
def zxw {a:List Lv} {b:Bool} (n:a.length<=1000000):G0 G 211 [zR 6 Vc a,zp b] (zR 3 zP (a.map (enF b))):=by
 refine zs func211 ?_;refine Fh ?_;refine zH (yI 46 3)<|Xt [1,7,8,25] (fun (m:Nat) (q:G3) z=>(9,ML m)::(4,eqS (rowV q m))::z) (fun m q=>[rowE q 46 3 m (((a.map (enF b)).take m).flatMap zP)]) (fun m q=>m<=a.length/\zX q m) (fun m q=>a.length-m) 0 none ⟨BL _,Z⟩ ?_;rintro m q ⟨o,hq⟩;refine Fh ?_;refine FP ?_ ?_<;>intro _ j
 .obtain⟨v,k⟩:=FU a m;have hms:=yp (l:=(a.map (enF b))) (by rw [Ba,k];rfl);refine Fh ?_;refine Fm fun p=>?_;refine Fp ?_ ?_<;>intro c
  .subst c;refine FL 1 Z Z Z Z hq (by rw [yG (st:=3) GY,BG,BR,AU C]) fun i e=>?_;refine zg ?_;refine zK<|Fv ?_;refine Do (m+1) ?_
   exact⟨m+1,i,⟨C,e⟩,C,an zk Gp⟩
  .subst c;refine FL 1 Z Z Z Z hq (by rw [yG (st:=3) GY,BG,BR,AU C]) fun h d=>?_;refine zz ?_;refine zM<|Fv ?_;refine Do (m+1) ?_
   exact⟨m+1,h,⟨C,d⟩,C,an zk Gp⟩
 .obtain rfl:m=a.length:=C;refine zK<|zr<|ae.ghost _ Z (yF 0 4 Z Z hq (BR _) F7 GX GK)<|zg ?_;exact zj zt
end Go.Proofs
namespace Num.Pl
open Go Go.Proofs
variable {cs:List Ce} {c:Ce} {m:Md} {n:Nat}
def eJ (s:G7×G7) (c:Ce) (n:Nat):G7×G7:=if c.1=0/\c.2.2.1=0 then (s.1.set c.2.1 n,s.2) else if c.1=2/\c.2.2.1=0 then (s.1,s.2.set c.2.1 n) else s
def Ke (m:Md) (cs:List Ce):Nat->G7×G7
  | 0=>(List.replicate m.walls.length 0,List.replicate m.levels.length 0)
  | n+1=>match cs[n]? with
    | some c=>eJ (Ke m cs n) c n
    | none=>Ke m cs n
def bS (m:Md):G7×G7:=Ke m (zV m) (zV m).length
def zwx {s:G7×G7} {a b:Nat} (h:s.1.length=a/\s.2.length=b):(eJ s c n).1.length=a/\(eJ s c n).2.length=b:=by
 unfold eJ;grind
def qu:∀ n,(Ke m cs n).1.length=m.walls.length/\(Ke m cs n).2.length=m.levels.length
 | 0=>⟨CN ..,CN ..⟩
 | n+1=>by
  unfold Ke;split
  . exact zwx (qu n)
  . exact qu n
def hU (h:cs[n]? =some c):Ke m cs (n+1)=eJ (Ke m cs n) c n:=by show (match cs[n]? with | some c=>eJ (Ke m cs n) c n | none=>Ke m cs n)=_;rw [h]
def zzD (h:c∈zV m):(c.1=0->c.2.1<m.walls.length)/\(c.1=2->c.2.1<m.levels.length):=by
 have b:∀ {one two:Int} {a:Nat} {x:Rat} {y:List Rat} {c:Ce},c∈uP one two a x y->(c.1=one\/c.1=two)/\c.2.1=a/\0<y.length:=fun {one two a x y c} hc=>by
  unfold uP at hc
  grind
 have f:∀ {α:Type} {l:List (List α)} {i:Nat},0<(l.getD i []).length->i<l.length:=fun {α l i} h=>by
  grind
 rw [oW] at h
 unfold WM at h
 obtain⟨i,_,h⟩:=DP.1 h;rcases Bu.1 h with h | h
 .obtain⟨h1,g,d⟩:=b h;grind
 .unfold zgX at h
  grind
end Num.Pl
namespace Go.Proofs
open Go Go.Sv Num Num.Pl
abbrev fg (m:Num.Pl.Md) (w v:SV):List SV:=bX m++[w,v]
abbrev eU (m:Num.Pl.Md) (x y:Nat):List SV:=fg m (eqS (rowV (some (x,m.walls.length)) m.walls.length)) (eqS (rowV (some (y,m.levels.length)) m.levels.length))
def il (l:G7):(l.flatMap ZF).length=l.length:=by rw [yG GY,Cr]
def i7 {l:G7} {i z:Nat} (h:i<l.length):xB (l.flatMap ZF) (i*1) [ML z]=(l.set i z).flatMap ZF:=Xi (f:=ZF) (st:=1) GY z h
def znV (n:Nat):(yD [Value.int .i64 0] n).map eqS=(List.replicate n (0:Nat)).flatMap ZF:=by
 have e:yD [Value.int .i64 0] n=List.replicate n (Value.int .i64 0):=by
  unfold yD;refine Dj B fun i h1 a=>?_;simp [BN]
 rw [e,CJ];have h:∀ n,List.replicate n (eqS (Value.int .i64 0))=(List.replicate n (0:Nat)).flatMap ZF:=fun n=>by
  induction n with
  | zero=>rfl
  | succ n ih=>grind
 grind
variable {G:Imm}
def zDr {m:Num.Pl.Md} (D:m.walls.length<=1000000) (F:m.levels.length<=1000000) (A:(zV m).length<=1000000):G0 G 124 [zl (bX m)] (zl (fg m (zR 1 ZF (bS m).1) (zR 1 ZF (bS m).2))):=by
 refine Fq Tryz.func124 ?_;refine yT fun b2=>?_;apply zM;apply zAs
 .refine qA 4 8 J (qA 8 10 J (dQ [0,1,2,3,5,6,7,4,8,9,10,11] V (Kt 11 [7,8,10] _ V (.refl _) ?_)) (qA 4 10 J (dQ [0,1,2,3,5,6,7,4,10,8,9,11] V (Kt 11 [7,8,9] _ V (.refl _) ?_)) (dQ [0,1,2,3,5,6,7,10,4,8,9,11] V (Kt 11 [7,8,9] _ V (.refl _) ?_)))) (qA 4 10 J (dQ [0,1,2,3,5,6,7,8,4,9,10,11] V (Kt 11 [7,8,10] _ V (.refl _) ?_)) (qA 8 10 J (dQ [0,1,2,3,5,6,7,8,10,4,9,11] V (Kt 11 [7,8,9] _ V (.refl _) ?_)) (dQ [0,1,2,3,5,6,7,10,8,4,9,11] V (Kt 11 [7,8,9] _ V (.refl _) ?_))));all_goals
   refine ag (AX (zl (bX m))<|zG Z Z Z Z) Z Z Z<|ag (yC Z Z Z) Z Z Z<|ag (AX (zR 1 qR m.walls)<|xP Z Z) Z Z Z<|ag (wI Z Z) Z Z Z<|ag (yC Z Z Z) Z Z Z<|ag (AX (zR 1 fv m.levels)<|xP Z Z) Z Z Z<|ag (wI Z Z) Z Z Z ?_
   first | refine ab.nil ⟨_,rfl,ar.make rfl rfl rfl (Af _) (by omega) GK rfl rfl rfl fun x=>?_⟩ | refine ab.nil ⟨_,rfl,ar.alloc rfl rfl rfl rfl fun x=>?_⟩
   refine⟨.cons _ (.refl _),?_⟩
   first | refine ab.nil ⟨_,rfl,ar.make rfl rfl rfl (Af _) (by omega) GK rfl rfl rfl fun y=>?_⟩ | refine ab.nil ⟨_,rfl,ar.alloc rfl rfl rfl rfl fun y=>?_⟩
   refine⟨.cons _ (.cons _ (.refl _)),?_⟩
   try first | refine ag (AX (zl (eU m x y))<|yQ (ps:=[_,(_,eqS (rowV (some (x,_)) _)),(_,eqS (rowV (some (y,_)) _))]) Z Z V) Z Z Z ?_ | refine ag (AX (zl (eU m y x))<|yQ (ps:=[_,(_,eqS (rowV (some (y,_)) _)),(_,eqS (rowV (some (x,_)) _))]) Z Z V) Z Z Z ?_
   first | refine ab.nil ⟨_,rfl,ar.make rfl rfl rfl (Af _) (by omega) GK rfl rfl rfl fun z=>?_⟩ | refine ab.nil ⟨_,rfl,ar.alloc rfl rfl rfl rfl fun z=>?_⟩
   refine⟨.cons _ (.cons _ (.cons _ (.refl _))),?_⟩
   try first | refine ag (AX (zl (eU m x z))<|yQ (ps:=[_,(_,eqS (rowV (some (x,_)) _)),(_,eqS (rowV (some (z,_)) _))]) Z Z V) Z Z Z ?_ | refine ag (AX (zl (eU m z x))<|yQ (ps:=[_,(_,eqS (rowV (some (z,_)) _)),(_,eqS (rowV (some (x,_)) _))]) Z Z V) Z Z Z ?_ | refine ag (AX (zl (eU m y z))<|yQ (ps:=[_,(_,eqS (rowV (some (y,_)) _)),(_,eqS (rowV (some (z,_)) _))]) Z Z V) Z Z Z ?_ | refine ag (AX (zl (eU m z y))<|yQ (ps:=[_,(_,eqS (rowV (some (z,_)) _)),(_,eqS (rowV (some (y,_)) _))]) Z Z V) Z Z Z ?_
   refine ab.nil ?_
   first | exact wo (eU m x y) 0 Z Z Z Z Z Z V Z Z (YO Z) (.nil ⟨Z,x,y,z,.refl⟩) | exact wo (eU m y x) 0 Z Z Z Z Z Z V Z Z (YO Z) (.nil ⟨Z,y,x,z,(vO (.cons _ (.swap _ _ _))).trans (aC.ghost MM)⟩) | exact wo (eU m x z) 1 Z Z Z Z Z Z V Z Z (YO Z) (.nil ⟨Z,x,z,y,(vO (.swap _ _ _)).trans (aC.ghost MM)⟩) | exact wo (eU m z x) 1 Z Z Z Z Z Z V Z Z (YO Z) (.nil ⟨Z,z,x,y,(vO ((En _ _ _).trans (.cons _ (.swap _ _ _)))).trans (aC.ghost MM)⟩) | exact wo (eU m y z) 2 Z Z Z Z Z Z V Z Z (YO Z) (.nil ⟨Z,y,z,x,(vO ((List.Perm.cons _ (.swap _ _ _)).trans (.swap _ _ _))).trans (aC.ghost MM)⟩) | exact wo (eU m z y) 2 Z Z Z Z Z Z V Z Z (YO Z) (.nil ⟨Z,z,y,x,(vO (((En _ _ _).trans (.cons _ (.swap _ _ _))).trans (.swap _ _ _))).trans (aC.ghost MM)⟩)
 intro i k w;have s:zX (some (i,m.walls.length)) m.walls.length:=⟨Af _,by unfold maxLen;omega⟩
 have r:zX (some (k,m.levels.length)) m.levels.length:=⟨Af _,by unfold maxLen;omega⟩
 rw [Cr,Cr,znV,znV];refine Fh ?_;refine Qj [2,3,17,18,55] (fun (n:Nat) z=>(19,ML n)::z) (fun n=>[⟨some w,196,fg m (eqS (rowV (some (i,m.walls.length)) m.walls.length)) (eqS (rowV (some (k,m.levels.length)) m.levels.length)),0⟩,rowE (some (k,m.levels.length)) 3 1 m.levels.length ((Ke m (zV m) n).2.flatMap ZF),rowE (some (i,m.walls.length)) 3 1 m.walls.length ((Ke m (zV m) n).1.flatMap ZF),⟨some b2,196,(((List.replicate 4 [Value.bool false,.slice none 0 0,.slice none 0 0]).flatten++List.replicate 6 (Value.slice none 0 0)).map eqS),0⟩]) (fun n=>n<=(zV m).length) (fun n=>(zV m).length-n) 0 (BL _) ?_;intro n E;refine Fh ?_;refine FP ?_ ?_<;>intro _ u
 .obtain⟨c,o⟩:∃ c,(zV m)[n]? =some c:=⟨_,AL (C:n<(zV m).length)⟩;obtain⟨v,q⟩:=zzD (AE o);obtain⟨e,d⟩:=qu (m:=m) (cs:=zV m) n;refine Fh ?_;refine yT fun H=>?_;refine zz ?_;refine zw ?_;apply zM;refine zN<|zr ?_;refine zz ?_;refine zz ?_;refine FE ?_ ?_<;>intro _ b
  .refine FP ?_ ?_<;>intro _ g
   .have p:=v b;refine zo ((zY c.2.1 Z Z Z Z (by omega))) ?_;refine wo ((((Ke m (zV m) n).1.set c.2.1 n).flatMap ZF)) 3 Z Z Z Z Z Z (by rw [il];exact Ew (by show c.2.1*1+1<=_;rw [e];omega)) Z Z (i7 (by rw [e];omega))<|zM ?_;refine Fv ?_;refine Do (n+1) ?_
    exact⟨n+1,(by omega:n+1<=(zV m).length),by omega,by rw [hU o,show eJ (Ke m (zV m) n) c n=_ from MX ⟨b,by omega⟩];exact MM⟩
   .apply zr;refine zz ?_;refine zz ?_;refine FE ?_ ?_<;>intro t a
    .refine FP ?_ ?_<;>intro _ j
     .have p:=q a;refine zo ((zY c.2.1 Z Z Z Z (by omega))) ?_;refine wo ((((Ke m (zV m) n).2.set c.2.1 n).flatMap ZF)) 2 Z Z Z Z Z Z (by rw [il];exact Ew (by show c.2.1*1+1<=_;rw [d];omega)) Z Z (i7 (by rw [d];omega))<|zM ?_;refine Fv ?_;refine Do (n+1) ?_
      exact M1 j g
     .refine zB<|Fv ?_;refine Do (n+1) ?_;exact⟨n+1,(by omega:n+1<=(zV m).length),by omega,by rw [hU o,show eJ (Ke m (zV m) n) c n=Ke m (zV m) n from (MY (fun h=>g (by omega))).trans (MY (fun h=>g (by omega)))];exact MM⟩
    .refine yM Z Z<|zB<|Fv ?_;refine Do (n+1) ?_;exact⟨n+1,(by omega:n+1<=(zV m).length),by omega,by rw [hU o,show eJ (Ke m (zV m) n) c n=Ke m (zV m) n from (MY (fun h=>g (by omega))).trans (MY (fun h=>g (by omega)))];exact MM⟩
  .refine yM Z Z<|zr ?_;refine zz ?_;refine zz ?_;refine FE ?_ ?_<;>intro _ a
   .refine FP ?_ ?_<;>intro _ j
    .have p:=q a;refine zo ((zY c.2.1 Z Z Z Z (by omega))) ?_;refine wo ((((Ke m (zV m) n).2.set c.2.1 n).flatMap ZF)) 2 Z Z Z Z Z Z (by rw [il];exact Ew (by show c.2.1*1+1<=_;rw [d];omega)) Z Z (i7 (by rw [d];omega))<|zM ?_;refine Fv ?_;refine Do (n+1) ?_
     exact⟨n+1,(by omega:n+1<=(zV m).length),by omega,by rw [hU o,show eJ (Ke m (zV m) n) c n=_ from (MY (fun h=>b h.1)).trans (MX ⟨a,by omega⟩)];exact MM⟩
    .refine zB<|Fv ?_;refine Do (n+1) ?_;exact⟨n+1,(by omega:n+1<=(zV m).length),by omega,by rw [hU o,show eJ (Ke m (zV m) n) c n=Ke m (zV m) n from (MY (fun h=>b h.1)).trans (MY (fun h=>j (by omega)))];exact MM⟩
   .refine yM Z Z<|zB<|Fv ?_;refine Do (n+1) ?_;exact⟨n+1,(by omega:n+1<=(zV m).length),by omega,by rw [hU o,show eJ (Ke m (zV m) n) c n=Ke m (zV m) n from (MY (fun h=>b h.1)).trans (MY (fun h=>a h.1))];exact MM⟩
 .obtain rfl:n=(zV m).length:=by omega
  obtain⟨e,d⟩:=qu (m:=m) (cs:=zV m) (zV m).length
  skip
  refine zK<|zH (vO (h':=[rowE (some (k,m.levels.length)) 3 1 m.levels.length ((bS m).2.flatMap ZF),rowE (some (i,m.walls.length)) 3 1 m.walls.length ((bS m).1.flatMap ZF),⟨some w,196,fg m (eqS (rowV (some (i,m.walls.length)) m.walls.length)) (eqS (rowV (some (k,m.levels.length)) m.levels.length)),0⟩,⟨some b2,196,(((List.replicate 4 [Value.bool false,.slice none 0 0,.slice none 0 0]).flatten++List.replicate 6 (Value.slice none 0 0)).map eqS),0⟩]) ((En _ _ _).trans ((En _ _ _).cons _)))<|zH (vB (bX m++[eqS (rowV (some (i,m.walls.length)) m.walls.length)]) [] [] [_] [_] r (l:=(bS m).2) (f:=ZF) d Z GX GK)<|zH (vB (bX m) [zR 1 ZF (bS m).2] [] [] [_] s (l:=(bS m).1) (f:=ZF) e Z GX GK)<|zr ?_;refine zz ?_;refine wo (fg m (zR 1 ZF (bS m).1) (zR 1 ZF (bS m).2)) 1 Z Z Z Z Z Z V Z Z (YO Z)<|zM ?_;exact zj zt
end Go.Proofs
namespace Go.Sv
open Go Go.RowKit
def mH {P:Program} {G:Imm} {E:aD} {r:Option Nat} {x y:Code} {n:Nat} {g b:Ha} {h:HL} {d:G7} {i:Nat×Bool} {Q:Hb} {α:Type} (j:G7) (f:α->Ha->Ha) (e:α->HL) (c:α->Nat×Bool) (p:α->Prop)
 (hx:T P G E r x ⟨n,g,h,d,i⟩ (ZG (fun S'=>∃ a,p a/\aC S' ⟨n,f a b,e a,d,c a⟩) Q)) (hy:∀ a,p a->T P G E r y ⟨n,f a b,e a,d,c a⟩ Q)
 (l:aB g j b:=by repeat (first | exact .nil | (apply aB.cons;rfl) | apply aB.skip)):T P G E r (.seq x y) ⟨n,g,h,d,i⟩ Q:=
 yL hx fun S' ⟨a,hp,k⟩=>xq k (hy a hp)
end Go.Sv
namespace Num.Pl
open Go Go.Proofs
variable {α:Type} {f:Nat->List α} {n:Nat}
def j5:(List.range (n+1)).flatMap f=(List.range n).flatMap f++f n:=by rw [Co,CB,BM,Ef,BV]
theorem kQ {m j:Nat} {x:α} (a:(f m)[j]? =some x):∀ {n:Nat},m<n->((List.range n).flatMap f)[((List.range m).flatMap f).length+j]? =some x
  | 0,h=>by omega
  | n+1,h=>by
    have c:=(EC.1 a).1;rw [j5]
    by_cases e:m=n
    . subst e
      rw [Ae (Dg _ _),C1,a]
    . have b:=kQ a (n:=n) C
      rw [Ad (EC.1 b).1,b]
def acA (w s k r:Nat) (h e:Rat):List (Nat×Nat):=if e=h then [(w+2*k,s+2*r)] else []
def acB (w s k r:Nat) (h e u:Rat):List (Nat×Nat):=if e<=h/\h<=u then [(w+2*k,s+2*r+1)] else []
def acC (w s k r n:Nat) (h e u:Rat):List (Nat×Nat):=if e<=h/\h<u/\k+1<n then [(w+2*k+1,s+2*r+1)] else []
def acE (w s:Nat) (y es:List Rat) (k r:Nat):List (Nat×Nat):=acA w s k r (y.getD k 0) (es.getD r 0)++(if r+1<es.length then acB w s k r (y.getD k 0) (es.getD r 0) (es.getD (r+1) 0)++acC w s k r y.length (y.getD k 0) (es.getD r 0) (es.getD (r+1) 0) else [])
def fW (w s:Nat) (y es:List Rat) (k n:Nat):List (Nat×Nat):=(List.range n).flatMap (acE w s y es k)
def fD (w s:Nat) (y es:List Rat) (n:Nat):List (Nat×Nat):=(List.range n).flatMap fun k=>fW w s y es k es.length
def zfy (w s:Nat) (y a:List Rat):YU w s y a=fD w s y a y.length:=rfl
section
variable {w s k r j:Nat} {y es:List Rat} {x:Nat×Nat}
def iO:(fW w s y es k (r+1)).length=(fW w s y es k r).length+(acE w s y es k r).length:=by unfold fW;rw [j5,Aw]
def zxx:(fD w s y es (k+1)).length=(fD w s y es k).length+(fW w s y es k es.length).length:=by unfold fD;rw [j5,Aw]
def zl4 (b:k<y.length) (a:r<es.length) (hx:(acE w s y es k r)[j]? =some x):(YU w s y es)[(fD w s y es k).length+(fW w s y es k r).length+j]? =some x:=by
 rw [zfy,An];exact kQ (kQ hx a) b
end
end Num.Pl
namespace Go.Proofs
open Go Go.Sv Num Num.Pl
variable {G:Imm}
def kP {p q:Rat}:vK p q<=0↔p<=q:=⟨fun h=>nJ h,fun h=>by rcases Int.lt_or_le 0 (vK p q) with c | c;exact M1 (vQ.1 c) (ED.2 h);exact c⟩
set_option maxHeartbeats 2000000 in
def zjn [ao G] {m:Num.Pl.Md} {ws ss:G7} {i j w s K:Nat} {y a:List Rat} (hw:ws[j]? =some w) (b3:ss[i]? =some s) (a3:m.walls[j]? =some y) (a4:∀ q∈y,Bq q K) (U:∀ q∈a,Bq q K) (hs:200*K+20000<=cap) (b1:w<=1000000) (b4:s<=1000000) (b0:y.length<=1000000) (b6:a.length<=1000000):xc Tryz.prog G 315 [yo (fg m (zR 1 ZF ws) (zR 1 ZF ss)),yo [ML j],yo [zR 3 zP a],yo [ML i]] (Qi jq (YU w s y a)):=by
 refine xM Tryz.func315 Z Z Z Z fun l E hy=>wO<|zg ?_;refine Fi (zh Z Z Z (by omega) (y:=y) (a3)) ?_;refine zi<|wN<|Fh ?_;refine uK [0,1,2,3,4,6,20,21] (fun (k:Nat) z=>(22,ML k)::z) (fun k=>[]) (fun k=>((fD w s y a k).length,false)) (fun k=>k<=y.length) (fun k=>y.length-k) 0 (BL _) ?_
 intro k hk;refine Fh ?_;refine Fo ?_ ?_<;>intro _ a2
 .obtain⟨h,hh⟩:=FU y k;have b5:=a4 h (AE hh);have a7:y.getD k 0=h:=by rw [Ay,hh];rfl
  refine Fh ?_;refine Fm fun Y=>?_;refine uK [0,1,2,3,4,6,7,8,20,21,22,23,24,25,26,27,28,124] (fun (r:Nat) z=>(29,ML r)::z) (fun r=>[⟨some Y,46,zP h,0⟩]) (fun r=>((fD w s y a k).length+(fW w s y a k r).length,false)) (fun r=>r<=a.length) (fun r=>a.length-r) 0 (BL _) ?_;intro r hr;refine Fh ?_;refine zd ?_ ?_<;>intro _ a1
  .obtain⟨e,he⟩:=FU a r;have a9:=U e (AE he);have a8:a.getD r 0=e:=by rw [Ay,he];rfl
   have F:acE w s y a k r=acA w s k r h e++(if r+1<a.length then acB w s k r h e (a.getD (r+1) 0)++acC w s k r y.length h e (a.getD (r+1) 0) else []):=by unfold acE;rw [a7,a8]
   have N:=fun j x (h9:(acE w s y a k r)[j]? =some x)=>zl4 (C:k<y.length) (C:r<a.length) h9
   refine zB<|mH [0,1,2,3,4,6,7,8,20,21,22,23,24,25,26,27,28,29,30,123,124] (fun (Q:Nat) z=>z) (fun Q=>[⟨some Y,46,zP h,0⟩]) (fun Q=>(Q,false)) (fun Q=>Q=(fD w s y a k).length+(fW w s y a k (r+1)).length) ?_ ?_
   .refine Fh ?_;refine Fm fun W=>?_;refine Do (2*r) ?_;refine Do (s+2*r) ?_;refine zo (zb Z Z (xo (by omega))) ?_;refine zg ?_;refine mH [0,1,2,3,4,6,7,8,9,10,11,12,13,20,21,22,23,24,25,26,27,28,29,30,31,32,33,34,35,36,37,38,39,40,41,42,43,44,61,62,63,64,65,66,67,68,69,70,71,72,73,74,75,76,77,78,79,80,81,82,83,84,85,86,87,88,89,90,91,92,93,94,95,96,97,98,99,100,101,102,103,104,105,106,107,108,109,110,111,112,113,114,115,116,117,118,119,120,121,122,123,124] (fun (n:Nat) z=>z) (fun n=>[⟨some W,46,zP e,0⟩,⟨some Y,46,zP h,0⟩]) (fun n=>(n,false)) (fun n=>n=(fD w s y a k).length+(fW w s y a k r).length+(acA w s k r h e).length) ?_ ?_
    .refine zr<|zz ?_;refine FE ?_ ?_<;>intro _ A
     .have X:acA w s k r h e=[(w+2*k,s+2*r)]:=MX (uw.1 A);refine Fh ?_;refine Do (2*k) ?_;refine Do (w+2*k) ?_;refine ae.yield Z hy Z Z Z (vk (N 0 (w+2*k,s+2*r) (by grind))) (yU _) (gB Z Z Z Z) Z Z fun y1=>zg ?_;refine Fp ?_ ?_<;>intro P
      .exact zj ⟨.inl Z,.inr P⟩
      .obtain rfl:y1=true:=by grind
       exact⟨_,by grind,MM⟩
     .have X:acA w s k r h e=[]:=MY fun h9=>A (uw.2 h9);refine Fu ?_;exact⟨_,by grind,MM⟩
    .intro n M;refine Fh ?_;refine Do (r+1) ?_;refine FQ ?_ ?_<;>intro _ a0
     .rw [MY (C:¬r+1<a.length),BV] at F
      refine zK<|Fs (zF (BZ _)) ?_;refine Do (k+1) ?_;exact⟨k+1,(by omega:k+1<=y.length),by omega,by rw [show (fD w s y a (k+1)).length=n by rw [zxx,(C:a.length=r+1),iO,F,M];omega];exact MM⟩
     .have S:r+1<a.length:=by omega
      rw [MX S] at F
      obtain⟨u,hu⟩:∃ u,a[r+1]? =some u:=⟨_,AL S⟩;have b2:=U u (AE hu);have a5:a.getD (r+1) 0=u:=by rw [Ay,hu];rfl
      rw [a5] at F
      refine Fw 8 ?_;refine Do (r+1) ?_;refine zo (zb Z Z (xo (by omega))) ?_;refine zg ?_;refine mH [0,1,2,3,4,6,7,8,9,10,11,12,13,20,21,22,23,24,25,26,27,28,29,30,31,32,33,34,35,36,37,38,39,40,41,42,43,44,45,46,47,48,49,50,51,52,53,54,55,56,57,58,59,60,61,62,63,64,65,66,67,68,69,70,71,72,94,95,96,97,98,99,100,101,102,103,104,105,106,107,108,109,110,111,112,113,114,115,116,117,118,119,120,121,122,123,124] (fun (I:Nat) z=>z) (fun I=>[⟨some W,46,zP e,0⟩,⟨some Y,46,zP h,0⟩]) (fun I=>(I,false)) (fun I=>I=n+(acB w s k r h e u).length) ?_ ?_
      .refine zr<|zz ?_;refine FI ?_ ?_<;>intro _ g
       .iterate 3 refine zz ?_
        refine FF ?_ ?_<;>intro t
        .have f:=MO t;have R:acB w s k r h e u=[(w+2*k,s+2*r+1)]:=MX ⟨kP.1 g,YX.1 f⟩;refine Fh ?_;refine Do (2*k) ?_;refine Do (w+2*k) ?_;refine Do (s+2*r+1) ?_;refine ae.yield Z hy Z Z Z (by rw [M];exact vk (N (acA w s k r h e).length (w+2*k,s+2*r+1) (by grind))) (yU _) (gB Z Z Z Z) Z Z fun y2=>?_
         refine zg ?_;refine Fp ?_ ?_<;>intro O
         .exact zj ⟨.inl Z,.inr O⟩
         .obtain rfl:y2=true:=by grind
          exact⟨_,by grind,MM⟩
        .have f:=MP t;have R:acB w s k r h e u=[]:=MY fun h9=>f (YX.2 h9.2);refine Fu ?_;exact⟨_,by grind,MM⟩
       .have R:acB w s k r h e u=[]:=MY fun h9=>g (kP.2 h9.1);refine zg ?_;refine Fu ?_;exact⟨_,by grind,MM⟩
      .intro I D;refine zr<|zz ?_;refine FI ?_ ?_<;>intro _ d
       .iterate 3 refine zz ?_
        refine FJ ?_ ?_<;>intro o
        .have c:=MO o;refine zg ?_;refine za ((k+1:Nat):Int) ?_;(iterate 3 refine zz ?_);refine FJ ?_ ?_<;>intro b
         .have v:=MO b;have L:acC w s k r y.length h e u=[(w+2*k+1,s+2*r+1)]:=MX ⟨kP.1 d,vQ.1 c,by omega⟩;refine Fh ?_;refine Do (2*k) ?_;refine Do (w+2*k) ?_;refine Do (w+2*k+1) ?_;refine Do (s+2*r+1) ?_;refine ae.yield Z hy Z Z Z (by rw [D,M,An (_+_)];exact vk (N ((acA w s k r h e).length+(acB w s k r h e u).length) (w+2*k+1,s+2*r+1) (by grind))) (yU _) (gB Z Z Z Z) Z Z fun y3=>?_
          (iterate 2 refine zz ?_);refine ae.ghost _ Z (zF (B5 _ _))<|zM<|Fp ?_ ?_<;>intro H
          .exact zj ⟨.inl Z,.inr H⟩
          .obtain rfl:y3=true:=by grind
           exact⟨I+1,by rw [iO,F,Aw,Aw,L,D,M];grind,MM⟩
         .have v:=MP b;have L:acC w s k r y.length h e u=[]:=MY fun h9=>v (by omega)
          refine zz ?_;(iterate 14 refine zq ?_);refine zz ?_;refine ae.ghost _ Z (zF (B5 _ _))<|zM<|Fu ?_;exact⟨I,by rw [iO,F,Aw,Aw,L,D,M];grind,MM⟩
        .have c:=MP o;have L:acC w s k r y.length h e u=[]:=MY fun h9=>c (vQ.2 h9.2.1);refine zz ?_;(iterate 5 refine zq ?_);(iterate 2 refine zz ?_);(iterate 14 refine zq ?_);refine zz ?_;refine ae.ghost _ Z (zF (B5 _ _))<|zM<|Fu ?_;exact⟨I,by rw [iO,F,Aw,Aw,L,D,M];grind,MM⟩
       .have L:acC w s k r y.length h e u=[]:=MY fun h9=>d (kP.2 h9.1);refine zz ?_;(iterate 2 refine zq ?_);(iterate 2 refine zz ?_);(iterate 5 refine zq ?_);(iterate 2 refine zz ?_);(iterate 14 refine zq ?_);refine zz ?_;refine ae.ghost _ Z (zF (B5 _ _))<|zM<|Fu ?_;exact⟨I,by rw [iO,F,Aw,Aw,L,D,M];grind,MM⟩
   .intro Q a6;refine zJ<|Do (r+1) ?_;exact⟨r+1,(by omega:r+1<=a.length),by omega,by rw [<-a6];exact MM⟩
  .obtain rfl:r=a.length:=by omega
   refine zK<|Fv ?_;refine Do (k+1) ?_;exact⟨k+1,(by omega:k+1<=y.length),by omega,by rw [zxx];exact MM⟩
 .exact⟨.inr Z,.inl (by rw [wn,zfy,(C:k=y.length)])⟩
def znX {m:Num.Pl.Md} {ws a:G7} {i j:Nat} {b:List Rat}:G0 G 210 [zl (fg m (zR 1 ZF ws) (zR 1 ZF a)),ML i,ML j,zR 3 zP b] (wD 315 [yo (fg m (zR 1 ZF ws) (zR 1 ZF a)),yo [ML j],yo [zR 3 zP b],yo [ML i]]):=by
 refine Fq Tryz.func210 ?_;exact Hj
end Go.Proofs
namespace Num.Pl
open Go Go.Proofs
variable {α:Type} {f:Nat->List α} {c a b:List α} {k:Nat}
def alW (m:Md) (ws:G7) (i:Nat):List (Nat×Nat):=YM (ws.getD i 0) (m.walls.getD i []).length
def cE (m:Md) (ss:G7) (i:Nat):List (Nat×Nat):=YM (ss.getD i 0) (m.levels.getD i []).length
def acX (m:Md) (ws ss:G7) (i j:Nat) (b:Bool):List (Nat×Nat):=YU (ws.getD j 0) (ss.getD i 0) (m.walls.getD j []) ((m.levels.getD i []).map (enF b))
def alL (m:Md) (ws ss:G7) (i:Nat):List (Nat×Nat):=cE m ss i++acX m ws ss i i false++acX m ws ss i (i+1) true
def eT {α:Type} (f:Nat->List α) (n:Nat):List α:=(List.range n).flatMap f
def zxy {n:Nat}:(eT f (n+1)).length=(eT f n).length+(f n).length:=by unfold eT;rw [j5,Aw]
def allG (m:Md) (ws ss:G7):List (Nat×Nat):=eT (alW m ws) m.walls.length++eT (alL m ws ss) m.levels.length
def ztC (h:∀ j<c.length,a[k+j]? =c[j]?):∀ j<c.length,(a++b)[k+j]? =c[j]? :=fun j d=>by
 grind
def lS (h:∀ j<c.length,b[k+j]? =c[j]?):∀ j<c.length,(a++b)[a.length+k+j]? =c[j]? :=fun j d=>by
 grind
def znY {m n:Nat} (b:m<n) (h:∀ j<c.length,(f m)[k+j]? =c[j]?):∀ j<c.length,(eT f n)[(eT f m).length+k+j]? =c[j]? :=fun j a=>by
 have h1:=h j a;rw [AL a] at h1
 rw [An,AL a];exact kQ h1 b
end Num.Pl
namespace Go.Proofs
open Go Go.Sv Num Num.Pl Tryz
variable {G:Imm}
def j4 {E:aD} {l k:Nat} {f:FuncId} {caps:List SV} {q xs:List (Nat×Nat)} (hy:Yd prog G E l (Qi jq q)) (n:xc prog G f caps (Qi jq xs)) (d:∀ j<xs.length,q[k+j]? =xs[j]?):eB prog G E 208 [wD f caps,yo [yieldS l]] (k,false) (fun s i=>∃ b,s=zp b/\(b=true->i=(k+xs.length,false))/\(b=false->i.2=true)):=by
 refine zsG func208 Z Z Z<|zr<|Fm fun o=>?_;refine uN Z Z n (fun r h=>Yq GY h) J Z
  (fun j h i=>i=(k+j,false)/\j<=xs.length/\h=[⟨some o,4,[eqS (.bool false)],0⟩])
  (fun e h i=>e= .ret/\i.2=true/\h=[⟨some o,4,[zp false],0⟩]) ⟨Z,BL _,Z⟩ ?_ ?_ ?_
 .rintro l1 j r h i u ⟨rfl,t,rfl⟩;obtain⟨p,hp,rfl⟩:=uQ u;have g:=(EC.1 hp).1;refine Fh ?_;refine⟨Z,?_⟩;refine zg ?_;refine ae.yield Z hy Z Z Z (vk ((d j g).trans hp)) (yU _) Z Z Z fun y1=>zg ?_;refine Fp ?_ ?_<;>intro a
  .exact zj ⟨Z,a,Z⟩
  .obtain rfl:y1=true:=by grind
   exact⟨Z,C,Z⟩
 .rintro h i D ⟨rfl,_,rfl⟩;rw [wn];refine zg ?_;exact zj ⟨.inl Z,_,.one (.own 0 inferInstance Z Z Z),true,Z,fun _=>rfl,fun h=>by cases h⟩
 .rintro h i D e c v ⟨rfl,hi,rfl⟩;exact⟨.inl Z,_,.one (.own 0 inferInstance Z Z Z),false,Z,GO,fun _=>hi⟩
set_option maxHeartbeats 2000000 in
def zBN [ao G] {m:Num.Pl.Md} {ws h:G7} {K:Nat} (c8:ws.length=m.walls.length) (c9:h.length=m.levels.length) (d1:m.levels.length+1<=m.walls.length) (r:∀ x∈ws,x<=1000000) (b4:∀ x∈h,x<=1000000) (u:∀ w∈m.walls,w.length<=1000000/\∀ q∈w,Bq q K) (b5:∀ l∈m.levels,l.length<=1000000/\∀ v∈l,Bl K v) (hs:200*K+20000<=cap) (d0:m.walls.length<=1000000):xc prog G 207 [yo (fg m (zR 1 ZF ws) (zR 1 ZF h))] (Qi jq (allG m ws h)):=by
 refine xM func207 Z Z Z Z fun l E hy=>Fh ?_;refine uK [1,3,6,7,11,12,30,31,32,33,34,35,36,37,38,39,40,41,42,43,44,45,46,47,48,49,50,51,52,53,54,55,56,57,58,59,60,61,62,63,64,65,66,67,68,69,70,71,72,73] (fun (g:Nat) z=>(13,ML g)::z) (fun g=>[]) (fun g=>((eT (alW m ws) g).length,false)) (fun g=>g<=m.walls.length) (fun g=>m.walls.length-g) 0 (BL _) ?_;intro g hg;refine Fh ?_;refine Fo ?_ ?_<;>intro _ b3
 .have F:g<m.walls.length:=by omega
  obtain⟨w,L⟩:=FU ws g;have t:ws.getD g 0=w:=by rw [Ay,L];rfl
  obtain⟨y,hy1⟩:=FU m.walls g;have p:m.walls.getD g []=y:=by rw [Ay,hy1];rfl
  have S:=r w (AE L);obtain⟨N,P⟩:=u y (AE hy1);have hA:alW m ws g=YM w y.length:=by unfold alW;rw [t,p]
  refine Fh ?_;refine Fk ztB ?_;refine eP Z Z Z Z (j4 hy (znT (by omega) (by omega)) (by unfold allG;exact ztC (znY (k:=0) F fun j _=>by rw [hA,Br]))) Z Z Z ?_;rintro c3 c7 ⟨b9,rfl,a7,b1⟩;refine zg ?_;refine Fp ?_ ?_<;>intro I
  .exact zj ⟨.inl Z,.inr (b1 (by grind))⟩
  .obtain rfl:b9=true:=by grind
   obtain rfl:=a7 Z;refine Do (g+1) ?_;exact⟨g+1,(by omega:g+1<=m.walls.length),by omega,by rw [zxy,hA];exact MM⟩
 .obtain rfl:g=m.walls.length:=by omega
  refine uK [1,3,32,33] (fun (g:Nat) z=>(34,ML g)::z) (fun g=>[]) (fun g=>((eT (alW m ws) m.walls.length).length+(eT (alL m ws h) g).length,false)) (fun g=>g<=m.levels.length) (fun g=>m.levels.length-g) 0 (BL _) ?_;intro g hg;refine Fh ?_;refine Fo ?_ ?_<;>intro _ b2
  .have F:g<m.levels.length:=by omega
   obtain⟨w,L⟩:=FU ws g;have t:ws.getD g 0=w:=by rw [Ay,L];rfl
   obtain⟨y,hy1⟩:=FU m.walls g;have p:m.walls.getD g []=y:=by rw [Ay,hy1];rfl
   obtain⟨w2,D⟩:=FU ws (g+1);have U:ws.getD (g+1) 0=w2:=by rw [Ay,D];rfl
   obtain⟨y2,hy2⟩:=FU m.walls (g+1);have Q:m.walls.getD (g+1) []=y2:=by rw [Ay,hy2];rfl
   obtain⟨s,o⟩:=FU h g;have Y:h.getD g 0=s:=by rw [Ay,o];rfl
   obtain⟨n,a1⟩:=FU m.levels g;have a0:m.levels.getD g []=n:=by rw [Ay,a1];rfl
   have S:=r w (AE L);have R:=r w2 (AE D);have X:=b4 s (AE o);obtain⟨N,P⟩:=u y (AE hy1);obtain⟨M,O⟩:=u y2 (AE hy2);obtain⟨a2,W⟩:=b5 n (AE a1);have a3:∀ b,∀q∈n.map (enF b),Bq q K:=fun b q hq=>by
    obtain⟨v,hv,rfl⟩:=Bc.1 hq;cases b
    .exact (W v hv).1
    .exact (W v hv).2
   have hL:alL m ws h g=YM s n.length++YU w s y (n.map (enF false))++YU w2 s y2 (n.map (enF true)):=by unfold alL cE acX;rw [Y,a0,t,p,U,Q]
   obtain⟨A,hA⟩:∃ A,A=YM s n.length:=⟨_,Z⟩;obtain⟨B,hB⟩:∃ B,B=YU w s y (n.map (enF false)):=⟨_,Z⟩;obtain⟨C,hC⟩:∃ C,C=YU w2 s y2 (n.map (enF true)):=⟨_,Z⟩;rw [<-hA,<-hB,<-hC] at hL
   have i:=fun (c:List (Nat×Nat)) (k:Nat) (h9:∀ j<c.length,(alL m ws h g)[k+j]? =c[j]?)=>lS (a:=eT (alW m ws) m.walls.length) (znY F h9)
   have s1:=i A 0 (by grind);have s2:=i B (A.length+0) (by rw [hL];exact ztC (lS fun j _=>by rw [Br]));have s3:=i C ((A++B).length+0) (by rw [hL];exact lS fun j _=>by rw [Br]);rw [Aw] at s3;refine Fh ?_;refine xv 32 [9,19,31] _ V .slnil<|FB ?_;refine FC (zb Z Z ztB) ?_;refine .env (kW Z Z Z (j4 hy (hA▸znT (by omega) (by omega)) s1)) .slnil Z Z Z ?_
   rintro c2 c6 ⟨b8,rfl,a6,b0⟩;refine ab.oneB (Xm Z Z) Z Z Z V (fun e=>?_) (fun e=>?_)
   .refine FB ?_;(iterate 7 refine ab.no (gB Z Z Z Z) Z Z ?_);refine FB ?_;refine .no .slnil (gB Z Z Z Z) Z Z<|ab.no (gB Z Z Z Z) Z Z<|FC (xl Z Z Z) ?_;(iterate 8 refine ab.no (gB Z Z Z Z) Z Z ?_);refine FB ?_;refine .no .slnil (gB Z Z Z Z) Z Z<|ab.nil<|zg ?_;refine Ft ?_;exact zj ⟨.inl Z,.inr (b0 (by grind))⟩
   .obtain rfl:b8=true:=by grind
    obtain rfl:=a6 Z;refine FB ?_;refine ab.one (zb Z Z (zxw a2)) (gB Z Z Z Z) Z Z V<|ab.one (zb Z Z znX) (gB Z Z Z Z) Z Z V<|FB ?_;refine .env (kW Z Z Z (j4 hy (hB▸zjn L o hy1 P (a3 false) hs S X N (by rw [BR];omega)) (by rw [An];exact s2))) .slnil (gB Z Z Z Z) Z Z ?_
    rintro c1 c5 ⟨b7,rfl,a5,a9⟩;refine ab.one (Xm Z Z) (gB Z Z Z Z) Z Z V<|ab.oneB (xl Z Z Z) Z Z Z V (fun d=>?_) (fun d=>?_)
    .refine FB ?_;(iterate 8 refine ab.no (gB Z Z Z Z) Z Z ?_);refine FB ?_;refine .no .slnil (gB Z Z Z Z) Z Z<|ab.nil<|zg ?_;refine Ft ?_;exact zj ⟨.inl Z,.inr (a9 (by grind))⟩
    .obtain rfl:b7=true:=by grind
     obtain rfl:=a5 Z;refine FB ?_;refine ab.one (yK (z:=((g+1:Nat):Int)) Z Z Z (MW some (by omega)) (wrap_i64 (by omega) (by omega))) (gB Z Z Z Z) Z Z V<|FB ?_;refine ab.one (zb Z Z (zxw a2)) (gB Z Z Z Z) Z Z V<|ab.one (zb Z Z znX) (gB Z Z Z Z) Z Z V ?_
     refine FB ?_;refine .env (kW Z Z Z (j4 hy (hC▸zjn D o hy2 O (a3 true) hs R X M (by rw [BR];omega)) (by rw [An,An];exact s3))) .slnil (gB Z Z Z Z) Z Z ?_;rintro c0 c4 ⟨b6,rfl,a4,a8⟩;refine ab.nil<|zg ?_;refine Fp ?_ ?_<;>intro H
     .exact zj ⟨.inl Z,.inr (a8 (by grind))⟩
     .obtain rfl:b6=true:=by grind
      obtain rfl:=a4 Z;refine Do (g+1) ?_;exact⟨g+1,(by omega:g+1<=m.levels.length),by omega,by rw [zxy,hL,Aw,Aw,<-An,<-An,<-An];exact MM⟩
  .obtain rfl:g=m.levels.length:=by omega
   exact⟨.inr Z,.inl (by rw [wn];unfold allG;rw [Aw])⟩
def zDs {m:Num.Pl.Md} {ws a:G7}:G0 G 125 [zl (fg m (zR 1 ZF ws) (zR 1 ZF a))] (wD 207 [yo (fg m (zR 1 ZF ws) (zR 1 ZF a))]):=by
 refine Fq func125 ?_;exact Hj
end Go.Proofs
namespace Num.Pl
open Go Go.Proofs
def o9 (p:Nat×Nat):Jn:=(((min p.1 p.2:Nat):Int),((max p.1 p.2:Nat):Int))
def fy (fr:List Bool) (l:List (Nat×Nat)):List Jn:=(l.filter fun p=>fr.getD p.1 false&&fr.getD p.2 false).map o9
def jB (m:Md) (fr:List Bool):List Jn:=Num.sortL fi (fy fr (allG m (bS m).1 (bS m).2))
def zBO {fr:List Bool} {l:List (Nat×Nat)} {k:Nat} {p:Nat×Nat} (h:l[k]? =some p):fy fr (l.take (k+1))=fy fr (l.take k)++if fr.getD p.1 false&&fr.getD p.2 false then [o9 p] else []:=by
 unfold fy;rw [yp h,DQ,Cp];grind
def ny (fr:List Bool) (l:List (Nat×Nat)):(fy fr l).length<=l.length:=by unfold fy;grind
def zek (cs:List Ce) (j:Jn):Rat:=if min j.1 j.2<0\/(cs.length:Int)<=max j.1 j.2 then 0 else qj (cs.getD j.1.toNat (0,0,0,0,0)).2.2.2 (cs.getD j.2.toNat (0,0,0,0,0)).2.2.2
def zl5 (cs:List Ce) (js:List Jn):VC cs js=js.map (zek cs):=rfl
end Num.Pl
namespace Go.Proofs
open Go Go.Sv Num Num.Pl
def lH:Sort.SWO fi where
 irrefl:=fun x=>MS C
 trans:=fun x y z a b=>MR (by have a:=MO a;have b:=MO b;omega)
 ntrans:=fun x y z a b=>MS (by have a:=MP a;have b:=MP b;omega)
def lR:∀ x y,fi x y=false->fi y x=false->x=y:=fun x y a b=>by
 have a:=MP a;have b:=MP b;grind
variable {G:Imm}
variable {fr:List Bool} {m:Num.Pl.Md} {K:Nat}
def zBP {n:Nat}:G0 G 123 [ML n,yo [zR 1 cw fr]] (zp (fr.getD n false)):=by
 refine zs Tryz.func123 ?_;refine zr<|zz ?_;refine zx<|zz ?_;refine zz ?_;refine zz ?_;refine FE ?_ ?_<;>intro _ a
 .obtain⟨b,c⟩:=FU fr n;refine Fh ?_;exact zj (zu (e:=by grind))
 .exact zj (zu (e:=by grind))
def zDu [ao G] (z:m.levels.length+1<=m.walls.length) (s:∀ w∈m.walls,w.length<=1000000/\∀ q∈w,Bq q K) (A:∀ l∈m.levels,l.length<=1000000/\∀ v∈l,Bl K v) (M:200*K+20000<=cap) (j:m.walls.length<=1000000) (F:(zV m).length<=1000000) (r:∀ x∈(bS m).1,x<=1000000) (y:∀ x∈(bS m).2,x<=1000000) (P:(allG m (bS m).1 (bS m).2).length<=200000000):G0 G 83 [zl (bX m),zR 1 cw fr] (zR 2 Uh (jB m fr)):=by
 obtain⟨u,t⟩:=qu (m:=m) (cs:=zV m) (zV m).length;have E:=fun k=>ny fr ((allG m (bS m).1 (bS m).2).take k);refine Fq Tryz.func83 ?_;refine Fm fun Q=>?_;refine yT fun R=>?_;refine zg ?_;refine zi<|zH (ZK 0 5 Z Z)<|Fs (yI 200 2) ?_;refine Fk (zDr j C F) ?_;refine Fk zDs ?_;refine uN Z Z (zBN u t z r y s A M j) (fun H h=>Yq GY h) J Z
  (fun k h i=>i=(0,false)/\∃ (q:G3) (L:List Jn),zX q L.length/\L=fy fr ((allG m (bS m).1 (bS m).2).take k)/\h=[rowE q 200 2 L.length (L.flatMap Uh),⟨some Q,108,[eqS (rowV q L.length)],0⟩])
  (fun _ _ _=>False) ⟨Z,none,[],Z,Z,Z⟩ ?_ ?_ ?_
 .rintro l k H h i O ⟨rfl,q,L,hq,n,rfl⟩;obtain⟨p,hp,rfl⟩:=uQ O;have N:=(EC.1 hp).1;have a:=zBO (fr:=fr) hp;have c:=E k;rw [<-n] at c a
  rw [BG] at c
  refine Fh ?_;refine⟨Z,?_⟩;refine zg ?_;refine zo ((yY Z Z Z zBP)) ?_;refine FF ?_ ?_<;>intro b
  .refine Fi ((yY Z Z Z zBP)) ?_;refine FT ?_ ?_<;>intro d
   .rw [MX (by grind)] at a
    apply zJ;(iterate 3 refine zz ?_);refine zo ((AX (ML (min p.1 p.2))<|(VH Z Z Z).sub (zI C))) ?_;(iterate 2 refine zz ?_);refine Fi ((AX (ML (max p.1 p.2))<|(Yb Z Z Z).sub (zI C))) ?_;refine Fx 0 Z Z Z Z hq (by rw [yG (st:=2) GY]) fun o g=>?_
    exact⟨Z,o,L++[o9 p],by grind,a.symm,by rw [Aw,CB];rfl⟩
   .rw [MY (by grind),BV] at a
    exact⟨Z,q,L,hq,a.symm,Z⟩
  .rw [MY (by grind),BV] at a
   refine Fu ?_;exact⟨Z,q,L,hq,a.symm,Z⟩
 .rintro h i D ⟨rfl,q,L,hq,n,rfl⟩;rw [wn,B3] at n
  have c:=ny fr (allG m (bS m).1 (bS m).2);rw [<-n] at c
  refine zg ?_;refine ah [] [_] [_] Z Z Z Z ((zA6.any zzh C (fun _ _=>trivial) zyy lH lR hq).args ⟨fun _ _ h=>h,Zs,trivial⟩) Z Z Z ?_;rintro I H33 ⟨rfl,rfl⟩;rw [Num.sortL_len];refine zM<|Fs (uF [] [] [] hq (Num.sortL_len _ _) Z GX GK) ?_;exact zj (zu (e:=by rw [n];rfl))
 simp
def zDv [ao G] {js:List Jn} (p:∀ c∈zV m,Bp c.2.2.2 K) (U:1000*K+60000<=cap) (N:js.length<=200000000):G0 G 84 [zl (bX m),zR 2 Uh js] (zR 3 zP (VC (zV m) js)):=by
 rw [zl5];refine zs Tryz.func84 ?_;refine Fh ?_;refine zH (yI 46 3)<|Xt [2,7,8,53] (fun (g:Nat) (q:G3) z=>(9,ML g)::(4,eqS (rowV q g))::z) (fun g q=>[rowE q 46 3 g (((js.map (zek (zV m))).take g).flatMap zP)]) (fun g q=>g<=js.length/\zX q g) (fun g q=>js.length-g) 0 none ⟨BL _,Z⟩ ?_;rintro g q ⟨W,hq⟩;refine Fh ?_;refine FP ?_ ?_<;>intro _ A
 .obtain⟨j,O⟩:=FU js g;have h:(js.map (zek (zV m))).take (g+1)=(js.map (zek (zV m))).take g++[zek (zV m) j]:=yp (by grind);have i:((js.map (zek (zV m))).take g).length=g:=by rw [BG,BR];omega
  refine Fh ?_;refine yT fun X=>?_;refine zg ?_;refine zi<|zr<|zz ?_;refine zz ?_;refine zz ?_;refine zz ?_;refine zo ((AX (MK (min j.1 j.2))<|(VH Z Z Z).sub (zI C))) ?_;refine FI ?_ ?_<;>intro _ d
  .have k:zek (zV m) j=0:=MX (.inl d);refine zg ?_;refine Ft ?_;refine Fl Z Z (wK J J) ?_;refine FL 1 Z Z Z Z hq (by rw [yG (st:=3) GY,i]) fun e a=>?_;refine zg ?_;refine zK<|Fv ?_;refine Do (g+1) ?_
   exact⟨g+1,e,⟨C,a⟩,C,MN (by rw [h,k,CB];rfl)⟩
  .refine zg ?_;refine Fo ?_ ?_<;>intro b w
   .have k:zek (zV m) j=0:=MX (.inr (by omega));refine Fl Z Z (wK J J) ?_;refine FL 1 Z Z Z Z hq (by rw [yG (st:=3) GY,i]) fun e a=>?_;refine zg ?_;refine zK<|Fv ?_;refine Do (g+1) ?_
    exact⟨g+1,e,⟨C,a⟩,C,MN (by rw [h,k,CB];rfl)⟩
   .have k:zek (zV m) j=qj ((zV m).getD j.1.toNat (0,0,0,0,0)).2.2.2 ((zV m).getD j.2.toNat (0,0,0,0,0)).2.2.2:=MY (by omega);have E:j.1.toNat<(zV m).length:=C;obtain⟨u,M⟩:∃ c,(zV m)[j.1.toNat]? =some c:=⟨_,AL E⟩;have s:=p u (AE M);have S:=s.x;have R:=s.y;have H:(zV m).getD j.1.toNat (0,0,0,0,0)=u:=by rw [Ay,M];rfl
    have D:j.2.toNat<(zV m).length:=C;obtain⟨t,L⟩:∃ c,(zV m)[j.2.toNat]? =some c:=⟨_,AL D⟩;have r:=p t (AE L);have Q:=r.x;have P:=r.y;have F:(zV m).getD j.2.toNat (0,0,0,0,0)=t:=by rw [Ay,L];rfl
    rw [H,F] at k
    refine vA 18 [17] _ V (.cons_cons _ (.cons _ .slnil))<|FB ?_;refine FC ((AX (zl (zP (qj u.2.2.2 t.2.2.2)))<|zb Z Z (zeM C))) ?_;refine FH 1 Z Z Z Z hq (by rw [yG (st:=3) GY,i]) fun v o=>⟨(.cons_cons _ (.cons _ .slnil)),?_⟩
    refine ab.nil<|zz ?_;refine zM<|Fv ?_;refine Do (g+1) ?_;exact⟨g+1,v,⟨C,o⟩,C,MN (by rw [h,k,CB];rfl)⟩
 .obtain rfl:g=js.length:=C;refine zK<|zr<|ae.ghost _ Z (yF 0 4 Z Z hq (BR _) F7 GX GK)<|zg ?_;exact zj zt
end Go.Proofs
namespace Num.Pl
open Go Go.Proofs
variable {xs:List Rat} {x:Rat}
def ztF {g:Nat} (h:xs[g]? =some x) (a:∀ z∈xs.take g,z≠x):Wn xs x=(g,true,true):=by unfold Wn;rw [zfs h a]
def zwz (a:∀ z∈xs,z≠x) (h:Yu xs x xs.length<0):Wn xs x=(0,false,false):=by unfold Wn;rw [oY a];grind
def zwA (a:∀ z∈xs,z≠x) (h:¬ Yu xs x xs.length<0):Wn xs x=((Yu xs x xs.length).toNat,false,true):=by unfold Wn;rw [oY a];grind
def ztG (xs:List Rat) (x:Rat) (g:Nat): -1<=Yu xs x g/\Yu xs x g<g+1:=by
 induction g with
 | zero=>exact⟨Int.le_refl _,by show (-1:Int)<_;omega⟩
 | succ g ih=>
  unfold Yu;omega
def FN (xs:List Rat) (x:Rat) (g:Nat):Prop:=0<=Yu xs x g\/xs.length<=g+1\/x<xs.getD g 0\/xs.getD (g+1) 0<=x
end Num.Pl
namespace Go.Proofs
open Go Go.Sv Num Num.Pl
variable {G:Imm}
def zDw [ao G] {ys:List Rat} {y:Rat} {k:Nat} (o:∀ q∈ys,Bq q k) (hy:Bq y k) (A:200*k+20000<=cap) (D:ys.length<=1000000):G0 G 519 [zl (zP y),zR 3 zP ys] (yR [MK (Yy ys y).1,zp (Yy ys y).2]):=by
 refine zs Tryz.func519 ?_;refine zg ?_;refine wO<|zr<|zz ?_;refine zM<|zi<|wN<|iQ [29,30] (fun (w:Int) (u:Bool) z=>(4,MK w)::(5,zp u)::z) (fun w u=>[]) (fun w u=>(w,u)=Yy ys y) ?_ ?_
 .refine Fh ?_;refine Qj [2,9,10,29,30] (fun (g:Nat) z=>(11,ML g)::(4,MK (VD ys y g))::(5,zp false)::z) (fun g=>[]) (fun g=>g<=ys.length/\∀ q∈ys.take g,q≠y) (fun g=>ys.length-g) 0 ⟨BL _,fun y hy=>by grind⟩ ?_;rintro g ⟨E,a⟩;have x:=zjf ys y g;refine Fh ?_;refine Fo ?_ ?_<;>intro _ n
  .obtain⟨v,hx⟩:=FU ys g;have t:=o v (AE hx);have b:=zdS (y:=y) hx;refine Fh ?_;refine Fm fun F=>?_;refine Fl Z Z (xo (by omega)) ?_;refine FQ ?_ ?_<;>intro c m
   .have f:v=y:=uw.1 (by omega);have r:ys[g]? =some y:=by rw [<-f];exact hx
    refine Fv ?_;exact⟨_,_,(zjg r a).symm,MM⟩
   .have f:v≠y:=fun e=>by rw [uw.2 e] at c;grind
    have d:∀ z∈ys.take (g+1),z≠y:=fun z j=>by rw [yp hx] at j;grind
    refine FP ?_ ?_<;>intro i l
    .rw [MX (vG.1 (MO i))] at b
     refine za (VD ys y g+1) ?_;refine zz ?_;refine zM<|Fv ?_;refine Do (g+1) ?_;exact⟨g+1,⟨by omega,d⟩,by omega,by rw [b];exact MM⟩
    .rw [MY (fun h=>MP i (vG.2 h))] at b
     refine zB<|Fv ?_;refine Do (g+1) ?_;exact⟨g+1,⟨by omega,d⟩,by omega,by rw [b];exact MM⟩
  .exact⟨_,_,(zft (by grind)).symm,by rw [(C:g=ys.length)];exact MM⟩
 .rintro w u s;rw [<-s];refine zg ?_;exact zj zt
def zxB [ao G] {xs:List Rat} {x:Rat} {k:Nat} (t:∀ q∈xs,Bq q k) (hx:Bq x k) (P:200*k+20000<=cap) (Q:xs.length<=1000000):G0 G 497 [zR 3 zP xs,zl (zP x)] (yR [MK ((Wn xs x).1:Nat),zp (Wn xs x).2.1,zp (Wn xs x).2.2]):=by
 refine zs Tryz.func497 ?_;refine Fh ?_;refine wO<|zr<|zz ?_;refine zM<|zi<|wN<|Fh ?_;refine Qj [0,3,10,11,50,51,52] (fun (g:Nat) z=>(12,ML g)::(4,MK (Yu xs x g))::z) (fun g=>[]) (fun g=>g<=xs.length/\∀ q∈xs.take g,q≠x) (fun g=>xs.length-g) 0 ⟨BL _,fun y hy=>by grind⟩ ?_
 rintro g ⟨R,h⟩;have N:=ztG xs x g;refine Fh ?_;refine Fo ?_ ?_<;>intro _ F
 .obtain⟨v,D⟩:=FU xs g;have L:=t v (AE D);have w:xs.getD g 0=v:=by rw [Ay,D];rfl
  refine Fh ?_;refine Fm fun O=>?_;refine Fl Z Z (xo C) ?_;refine FP ?_ ?_<;>intro l E
  .have o:v=x:=uw.1 (by omega);have H:xs[g]? =some x:=by rw [<-o];exact D
   exact zj (zu (e:=by rw [ztF H h]))
  .have o:v≠x:=fun e=>by rw [uw.2 e] at l;grind
   have m:∀ z∈xs.take (g+1),z≠x:=fun z r=>by rw [yp D] at r;grind
   refine Vx [0,3,4,5,6,7,8,9,10,11,12,13,14,15,16,17,18,19,20,21,22,23,48,49,50,51,52] (fun (c:Bool) z=>(24,zp c)::z) (fun c=>[⟨some O,46,zP v,0⟩]) (fun c=>c=true↔FN xs x g) ?_ ?_
   .refine wW 24 V<|zz ?_;refine FE ?_ ?_<;>intro _ f
    .exact⟨true,⟨fun _=>.inl f,fun _=>rfl⟩,MM⟩
    .refine za ((g+1:Nat):Int) ?_;(iterate 3 refine zz ?_);refine FJ ?_ ?_<;>intro i
     .have s:=MO i;refine zg ?_;exact⟨true,⟨fun _=>.inr (.inl C),fun _=>rfl⟩,MM⟩
     .have s:=MP i;obtain⟨u,I⟩:=FU xs (g+1);have M:=t u (AE I);have A:xs.getD (g+1) 0=u:=by rw [Ay,I];rfl
      iterate 3 refine zz ?_
      refine FF ?_ ?_<;>intro b
      .have a:=MO b;exact⟨true,⟨fun _=>.inr (.inr (.inl (by rw [w];exact vQ.1 a))),fun _=>rfl⟩,MM⟩
      .have a:=MP b;refine Do (g+1) ?_;refine Fl Z Z (xo C) ?_;exact⟨decide (0<=vK x u),⟨fun d=>.inr (.inr (.inr (by rw [A];exact YX.1 (MO d)))),fun d=>MR (by rcases d with d | d | d | d;exact M1 d f;omega;exact M1 (vQ.2 (by grind)) a;exact YX.2 (by grind))⟩,MM⟩
   .rintro c K;refine xK ?_ ?_<;>intro j
    .refine zK<|Fv ?_;refine Do (g+1) ?_;exact⟨g+1,⟨C,m⟩,C,by rw [show Yu xs x (g+1)=Yu xs x g from MX (K.1 j)];exact MM⟩
    .refine zB<|zJ ?_;(iterate 2 refine zz ?_);refine zM<|Fv ?_;refine Do (g+1) ?_;exact⟨g+1,⟨C,m⟩,C,by rw [show Yu xs x (g+1)=(g:Int) from MY fun d=>by rw [K.2 d] at j;cases j];exact MM⟩
 .obtain rfl:g=xs.length:=C;rw [B3] at h
  refine Fo ?_ ?_<;>intro _ n
  .exact zj (zu (e:=by rw [zwz h n];rfl))
  .exact zj (zu (e:=by rw [zwA h n];grind))
end Go.Proofs
namespace Num.Pl
open Go Go.Proofs
def ztH (l:List Rat) (x:Rat):(l++[x]).sum=l.sum+x:=by
 grind
def gn (l:List V2) (g:Nat):Rat:=(((l.zip l.tail).take g).map fun e=>qj e.1 e.2).sum
def zxC {l:List V2} {g:Nat} {a b:V2} (d:l[g]? =some a) (c:l[g+1]? =some b):gn l (g+1)=gn l g+qj a b:=by
 have h:(l.zip l.tail)[g]? =some (a,b):=by
  rw [List.getElem?_zip_eq_some];exact⟨d,by grind⟩
 unfold gn;rw [yp h,Cp,Ar,B2,ztH]
def zn0 (l:List V2):gn l (l.length-1)=Jv l:=by
 unfold gn Jv;rw [BC (by simp)]
end Num.Pl
namespace Go.Proofs
open Go Go.Sv Num Num.Pl Tryz
theorem zn1 {p q:V2} {k:Nat} (hp:Bp p k) (hq:Bq q.1 k/\Bq q.2 k):Bq (qj p q) (4*k+3):=by
 have h1:=hp.x;have c:=hp.y;obtain⟨b,a⟩:=hq;exact Li
theorem mG {l:List V2} {k:Nat} (a:vE k l) (e:0<k):∀ g,g<=l.length-1->Bq (gn l g) (1+g*(4*k+4))
 | 0,_=>by rw [Ca];exact bq_zero
 | g+1,h=>by
  have f:=mG a e g C;have c:l[g]? =some l[g]:=AL C;have b:l[g+1]? =some l[g+1]:=AL C;have h1:=a _ (AE c);have d:=a _ (AE b);have i:=zn1 h1 ⟨d.x,d.y⟩;rw [zxC c b,show (g+1)*(4*k+4)=g*(4*k+4)+(4*k+4) from Bj _ _];exact xb (inferInstance:Bq (gn l g+qj l[g] l[g+1]) _) C
variable {G:Imm}
variable {m:Num.Pl.Md} {k i:Nat} {l:List V2} {p:V2}
theorem mF [ao G] (p:vE k l) (s:800*k+30000<=cap) (t:l.length<=1000000):G0 G 273 [zR 6 zL l] (zR 6 zL (dd l)):=by
 refine zs func273 ?_;refine Fh ?_;refine zH (yI 48 6)<|Ju [0,5,6,29] (fun (g:Nat) (q:G3) (L:List V2) z=>(7,ML g)::(2,eqS (rowV q L.length))::z) (fun g q L=>[rowE q 48 6 L.length (L.flatMap zL)]) (fun g q L=>g<=l.length/\zX q L.length/\L=dd (l.take g)) (fun g q L=>l.length-g) 0 none [] ⟨BL _,Z,Z⟩ ?_;rintro g q L ⟨u,hq,h⟩;have o:=ZE (l.take g);rw [<-h,BG] at o
 refine Fh ?_;refine FP ?_ ?_<;>intro _ r
 .obtain⟨x,hx⟩:=FU l g;have n:=p x (AE hx);refine Fh ?_;refine Fm fun v=>?_;refine zU 12 V<|zz ?_;refine FE ?_ ?_<;>intro _ i
  .obtain rfl:g=0:=C;have d:dd (l.take (0+1))=L++[x]:=by rw [yp hx,h];rfl
   refine Ft ?_;refine FL 1 Z Z Z Z hq Gy fun c a=>?_;refine zz ?_;refine zM<|Fv ?_;refine zA ?_;refine zg ?_;exact⟨1,c,L++[x],⟨C,by grind,d.symm⟩,C,by rw [Aw];exact an zk Gv⟩
  .obtain⟨k1,rfl⟩:∃ k1,g=k1+1:=⟨g-1,C⟩;obtain⟨y,j⟩:=FU l k1;have m:=p y (AE j);have d:=znh j hx;rw [<-h] at d
   refine Do k1 ?_;refine Fl Z Z (jL C _ _ n m) ?_;refine FR ?_ ?_<;>intro b
   .rw [MY (fun e=>by grind)] at d
    refine FL 1 Z Z Z Z hq Gy fun c a=>?_;refine zz ?_;refine zM<|Fv ?_;refine zA ?_;refine zg ?_;exact⟨k1+2,c,L++[x],⟨C,by grind,d.symm⟩,C,by rw [Aw];exact an zk Gv⟩
   .rw [MX (MO (show decide (x=y)=true by grind)).symm] at d
    refine zB<|Fv ?_;refine zA ?_;refine zg ?_;exact⟨k1+2,q,L,⟨C,hq,d.symm⟩,C,MM⟩
 .obtain rfl:g=l.length:=C;rw [B3] at h
  refine zK<|zr<|ae.ghost _ Z (yF 0 2 Z Z hq (l:=dd l) (f:=zL) (by rw [h]) (by rw [h]) GX GK)<|zg ?_
  exact zj zt
def zwC [ao G] (f:vE k l) (m:0<k) (w:100*(l.length*(4*k+4)+4*k+4)+100000<=cap) (A:l.length<=1000000):G0 G 274 [zR 6 zL l] (zl (zP (Jv l))):=by
 refine Fq func274 ?_;refine Fm fun b2=>?_;refine Fl Z Z (wK J J) ?_;refine Fm fun u=>?_;refine zo (yK (z:=(l.length:Int)-1) Z Z Z (MW some C) (wrap_i64 C C)) ?_;refine Fi ((AX (ML (l.length-1))<|(Yb Z Z Z).sub (zI C))) ?_;refine Qj [0,2,3,9,27] (fun (g:Nat) z=>(10,ML g)::z) (fun g=>[⟨some u,46,zP (gn l g),0⟩,⟨some b2,46,[eqS (.bool false),G8,G8],0⟩]) (fun g=>g<=l.length-1) (fun g=>l.length-1-g) 0 (BL _) ?_;intro g r;refine Fh ?_;refine FP ?_ ?_<;>intro _ e
 .obtain⟨a,j⟩:=FU l g;obtain⟨b,i⟩:=FU l (g+1);have c:=f a (AE j);have d:=f b (AE i);have E:=c.x;have D:=c.y;have v:=d.x;have b2:=d.y;have h:=zxC j i;have t:=mG f m g r;have s:=zn1 c ⟨v,b2⟩;have o:g*(4*k+4)<=l.length*(4*k+4):=BK _ C;refine wW 13 V<|Fh ?_;refine Do (g+1) ?_;refine Fi ((AX (zl (zP (qj a b)))<|zb Z Z (zeM C))) ?_;refine Fl Z Z (vM C) ?_;refine Do (g+1) ?_;exact⟨g+1,(by omega:g+1<=l.length-1),C,by rw [h];exact MM⟩
 .obtain rfl:g=l.length-1:=C;rw [zn0];refine Fh ?_;exact Hj
def zBQ [ao G] {w:List Rat} (g:m.walls[i]? =some w) (b:∀ q∈w,Bq q k) (hp:Bp p k) (d:200*k+20000<=cap) (f:w.length<=1000000):G0 G 499 [yo (bX m),ML i,zl (zL p)] (yR [ze .i8 (if (Yy w p.2).2 then 0 else 1),MK (Yy w p.2).1]):=by
 have c:=hp.y;refine Fq func499 ?_;refine Fw 16 ?_;refine Fk (zDw b c d f) ?_;refine Fp ?_ ?_<;>intro a
 .exact zj (zu (e:=by grind))
 .exact zj (zu (e:=by grind))
def zBR [ao G] {b:List Lv} {x z:Rat} (hx:m.xs[i]? =some x) (n:m.xs[i+1]? =some z) (l:m.levels[i]? =some b) (f:Bq x k) (c:Bq z k) (d:x<z) (g:∀ v∈b,Bl k v) (hp:Bp p k) (h:20000*(k+k+k)+60000<=cap) (j:b.length<=1000000) (hi:i<=1000000):G0 G 498 [yo (bX m),ML i,zl (zL p)] (yR [ze .i8 (if (Yy (b.map (hgt x z p.1)) p.2).2 then 2 else 3),MK (Yy (b.map (hgt x z p.1)) p.2).1]):=by
 refine Fq func498 ?_;refine Fw 32 ?_;refine Do (i+1) ?_;refine Fk (zBG f c hp d g h j) ?_;refine Fp ?_ ?_<;>intro a
 .exact zj (zu (e:=by grind))
 .exact zj (zu (e:=by grind))
end Go.Proofs
namespace Go.Sv
open Go Go.RowKit
section
variable {P:Program} {G:Imm} {H:HL} {o:Oper} {g:Ha}
variable {xs:Array Operand} {i:Array TypeId} {cs args d:List SV} {f:FuncId} {x:Operand}
def ir (f:FuncId) (fs cs:List SV):SV:=
 ⟨fun I v=>∃ xs ys:List Value,v= .func (.func f) xs.toArray ys.toArray/\dens I fs xs/\dens I cs ys,fun _ _ _ hl ⟨xs,ys,hv,h,h2⟩=>⟨xs,ys,hv,h.mono hl,h2.mono hl⟩⟩
def nS {first cap:Array Operand} (hop:o.op= .makeFunc (.func f) first cap) (h1:uk g first.toList=some d) (i:uk g cap.toList=some cs):OpOK P G H o g (ir f d cs):=
 yy GW fun I W a _ _ c=>by
  have h:=vn (a:=a) (I:=I) h1 fun x hx' s hs=>c x (by simp [hop,Op.operands];grind) s hs
  have b:=vn (a:=a) (I:=I) i fun x hx' s hs=>c x (by simp [hop,Op.operands];grind) s hs
  refine⟨.func (.func f) (first.toList.map a.eval).toArray (cap.toList.map a.eval).toArray,?_,_,_,Z,h,b⟩;have e:∀ z:Array Operand,Array.map a.eval z=(z.toList.map a.eval).toArray:=fun z=>by grind
  simp [execOp,hop,Instr.makeFunc,e]
def zwD {h:List SV} {Hp:HL} {Q:SV->HL->Prop} (hop:o.op= .call {callee:=.value x,args:=xs,argTypes:=i})
 (hf:yW g x=some (ir f h cs)) (k:uk g xs.toList=some args) (d:CallSpec P G f (h++args++cs) Hp Q):OpL P G o g Hp Q:=iY hop d fun I a W _ e=>by
 obtain⟨m,n,j,b,c⟩:=e.get Gl hf;obtain⟨vs,h1,l⟩:=io (W:=W) hop j k d.enters e;exact⟨_,h1,(b.append l).append c⟩
def zjo {c:Array TypeId} {b:List SV} {s:SV} (a:o.op= .call {callee:=.value x,args:=xs,argTypes:=c})
 (hf:yW g x=some (ir f b cs)) (e:uk g xs.toList=some args) (d:zm P G f (b++args++cs) s):OpOK P G H o g s:=hZ (zwD a hf e d)
end
end Go.Sv
namespace Num.Pl
open Go Go.Proofs
theorem zjp (xs:List Rat) (x:Rat):∀ g,0<=Yu xs x g->Yu xs x g+1<xs.length
  | 0,h=>M1 h (by show ¬(0:Int)<= -1;decide)
  | g+1,h=>by
    unfold Yu at h ⊢
    split
    . rename_i a
      rw [MX a] at h
      exact zjp xs x g h
    omega
def zwE {xs:List Rat} {x:Rat} {a:Nat} (h:Wn xs x=(a,false,true)):a+1<xs.length:=by
 unfold Wn at h
 split at h
 .cases h
 .split at h
  .cases h
  .rename_i b;have h1:=zjp xs x xs.length C;grind
def zjq {o:Option Nat} (h:0<=gC o):o.isSome=true:=by
 cases o with
 | none=>exact M1 h J
 | some i=>rfl
def bm {o:Option Nat} (h:¬ 0<=gC o):o=none:=by
 cases o with
 | none=>rfl
 | some i=>exact M1 (Da i) h
end Num.Pl
namespace Go.Proofs
open Go Go.Sv Num Num.Pl
def ju (o:Option Nat):Int:=if o.isSome then 0 else 270
abbrev iu (o:Option Nat):SV:=yR [ze .i64 (gC o),ze .i64 (ju o)]
variable {G:Imm}
variable {m:Num.Pl.Md} {k n a:Nat} {p:V2} {j:Bool}
def zzH [ao G] (f:ck m k n) (hp:Bp p k) (hf:Wn m.xs p.1=(a,true,j)) (F:100000*k+100000<=cap) (t:(zV m).length<=1000000):G0 G 446 [yo (bX m),zl (zL p)] (iu (KB m (zV m) p)):=by
 have A:=hp.x;have E:=f.nn;have u:G0 G 497 [zR 3 zP m.xs,zl (zP p.1)] (yR [ML a,zp true,zp j]):=by
  have h:=zxB (G:=G) f.xs A C f.nx;rw [hf] at h
  exact h
 have s:kindF m p=if j=true/\a<m.walls.length then some ((if (Yy (m.walls.getD a []) p.2).2 then 0 else 1),a,(Yy (m.walls.getD a []) p.2).1) else none:=by unfold Num.Pl.kindF;rw [hf];rfl
 refine Fq Tryz.func446 ?_;refine Fw 15 ?_;refine Fk u ?_;refine Fw 10 ?_;refine Fi ((AX (ir 498 [yo (bX m)] [])<|nS Z Z Z)) ?_;refine xK ?_ ?_<;>intro i
 .refine wW 10 V<|zz ?_;refine zo ((AX (ir 499 [yo (bX m)] [])<|nS Z Z Z)) ?_;refine zg ?_;refine zi<|zr<|zz ?_;refine FJ ?_ ?_<;>intro b
  .have g:KB m (zV m) p=none:=by unfold KB;rw [s,MY (fun z=>by grind)]
   rw [g];refine zg ?_;refine Ft ?_;exact zj zt
  .have v:j=true:=by cases j;exact M1 b J;rfl
   refine zg ?_;refine zd ?_ ?_<;>intro d o
   .have g:KB m (zV m) p=none:=by unfold KB;rw [s,MY (fun z=>M1 (MO d) C)]
    rw [g];refine zg ?_;exact zj zt
   .obtain⟨w,l⟩:=FU m.walls a;have q:m.walls.getD a []=w:=by rw [Ay,l];rfl
    have g:KB m (zV m) p=j6 (zV m) (if (Yy w p.2).2 then 0 else 1) a (Yy w p.2).1:=by unfold KB;rw [s,MX ⟨v,C⟩,q]
    rw [g];refine zg ?_;refine Fi ((zjo Z Z Z (zBQ l (f.wl w (AE l)) hp C (by have:=f.wln w (AE l);omega)))) ?_;refine Fk (zBK t) ?_;refine Fo ?_ ?_<;>intro _ c
    .exact zj (zu (e:=by unfold iu ju;rw [MX (zjq c)]))
    .exact zj (zu (e:=by rw [bm c];rfl))
 .exact M1 i J
def zzI [ao G] {l:Bool} (c:ck m k n) (hp:Bp p k) (hf:Wn m.xs p.1=(a,false,l)) (M:100000*k+100000<=cap) (D:(zV m).length<=1000000):G0 G 446 [yo (bX m),zl (zL p)] (iu (KB m (zV m) p)):=by
 have I:=hp.x;have L:=c.nn;have K:=c.nx;have E:G0 G 497 [zR 3 zP m.xs,zl (zP p.1)] (yR [ML a,zp false,zp l]):=by
  have h:=zxB (G:=G) c.xs I C c.nx;rw [hf] at h
  exact h
 have y:kindF m p=if l=true/\a<m.levels.length then some ((if (Yy ((m.levels.getD a []).map (hgt (m.xs.getD a 0) (m.xs.getD (a+1) 0) p.1)) p.2).2 then 2 else 3),a,(Yy ((m.levels.getD a []).map (hgt (m.xs.getD a 0) (m.xs.getD (a+1) 0) p.1)) p.2).1) else none:=by unfold Num.Pl.kindF;rw [hf];rfl
 refine Fq Tryz.func446 ?_;refine Fw 15 ?_;refine Fk E ?_;refine Fw 10 ?_;refine Fi ((AX (ir 498 [yo (bX m)] [])<|nS Z Z Z)) ?_;refine xK ?_ ?_<;>intro j
 .exact M1 j J
 .refine zB<|zi<|zr<|zz ?_;refine FJ ?_ ?_<;>intro b
  .have i:KB m (zV m) p=none:=by unfold KB;rw [y,MY (fun H=>by grind)]
   rw [i];refine zg ?_;refine Ft ?_;exact zj zt
  .have g:l=true:=by cases l;exact M1 b J;rfl
   refine zg ?_;refine zd ?_ ?_<;>intro f s
   .have i:KB m (zV m) p=none:=by unfold KB;rw [y,MY (fun H=>M1 (MO f) C)]
    rw [i];refine zg ?_;exact zj zt
   .obtain⟨w,q⟩:=FU m.levels a;have v:m.levels.getD a []=w:=by rw [Ay,q];rfl
    have A:=zwE (by rw [hf,g]);obtain⟨x,hx⟩:=FU m.xs a;obtain⟨z,o⟩:∃ z,m.xs[a+1]? =some z:=⟨_,AL A⟩;have u:m.xs.getD a 0=x:=by rw [Ay,hx];rfl
    have t:m.xs.getD (a+1) 0=z:=by rw [Ay,o];rfl
    have i:KB m (zV m) p=j6 (zV m) (if (Yy (w.map (hgt x z p.1)) p.2).2 then 2 else 3) a (Yy (w.map (hgt x z p.1)) p.2).1:=by unfold KB;rw [y,MX ⟨g,C⟩,v,u,t]
    rw [i];refine zg ?_;refine Fi ((zjo Z Z Z (zBR hx o q (c.xs x (AE hx)) (c.xs z (AE o)) (c.inc hx o) (c.lv w (AE q)) hp C (by have:=c.lvn w (AE q);omega) (by omega)))) ?_;refine Fk (zBK D) ?_;refine Fo ?_ ?_<;>intro _ d
    .exact zj (zu (e:=by unfold iu ju;rw [MX (zjq d)]))
    .exact zj (zu (e:=by rw [bm d];rfl))
def zzJ [ao G] (c:ck m k n) (hp:Bp p k) (d:100000*k+100000<=cap) (b:(zV m).length<=1000000):G0 G 446 [yo (bX m),zl (zL p)] (iu (KB m (zV m) p)):=by
 rcases h:Wn m.xs p.1 with ⟨a,_ | _,e⟩
 .exact zzI c hp h d b
 .exact zzH c hp h d b
def zxD [ao G] (b:ck m k n) (hp:Bp p k) (c:100000*k+100000<=cap) (a:(zV m).length<=1000000):G0 G 366 [zl (bX m),zl (zL p)] (iu (KB m (zV m) p)):=by
 refine Fq Tryz.func366 ?_;refine Fk (zzJ b hp c a) ?_;exact zj zt
end Go.Proofs
