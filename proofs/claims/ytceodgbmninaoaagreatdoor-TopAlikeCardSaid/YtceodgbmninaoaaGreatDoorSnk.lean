/- quot: by one limb. -/
import Derived.Test.YtceodgbmninaoaaGreatDoorSnf
import Derived.Test.YtceodgbmninaoaaGreatDoorSvw
set_option linter.all false
namespace Go.Proofs
open Go Go.Sv Num Tryz
variable {G:Imm}
variable {l:G7} {i n q:Nat} {a:List SV}
def aU.storeRow {P:Program} {G:Imm} {E:aD} {r:Option Nat} {p:G4} {o:Oper} {a:List Oper} {K:St->Prop} {Hc:HL} (j:Nat) {g:Ha} {h:HL} {d:G7} {i0:Nat×Bool} {t:TypeId} [ai P t 1] {x y:Operand} {b e c:Nat} {z:Nat} (m:o.op= .store t x y) (hx:yW g x=some (eqS (.pointer (some ⟨b,i,none⟩)))) (hy:yW g y=some (ze .u32 z))
 (A:h[j]? =some (rowE (some (b,c)) e 1 n (l.flatMap wB))) (hi:i<l.length) (v:o.dst=none) (u:zO p g o true) (w:Hc.Sublist (wE h j [rowE (some (b,c)) e 1 n ((l.set i z).flatMap wB)]))
 (s:ae P G E r p false a ⟨q,g,wE h j [rowE (some (b,c)) e 1 n ((l.set i z).flatMap wB)],d,i0⟩ K):aU P G E r p o a Hc ⟨q,g,h,d,i0⟩ K:=by
 have f:i+1<=(l.flatMap wB).length:=by rw [yX];omega
 have k:Nat.ble (i+[ze .u32 (z:Nat)].length) (l.flatMap wB).length=true:=by rw [Nat.ble_eq];exact f
 have e:(⟨some b,e,xB (l.flatMap wB) i [ze .u32 (z:Nat)],c*1-n*1⟩:HE)=rowE (some (b,c)) e 1 n ((l.set i z).flatMap wB):=by
  show (⟨some b,e,(l.flatMap wB).set i (ze .u32 z),c*1-n*1⟩:HE)=_;rw [Km];rfl
 exact aU.store j m hx hy A Z k v u (by rw [e];exact w) (by rw [e];exact s)
def gJ (l:G7):List (List SV):=(List.range l.length).map fun i=>[ze .i64 (l.length-1-i:Nat),ze .u32 (limb l (l.length-1-i):Nat)]
def XA:(gJ l).length=l.length:=by simp [gJ]
def zey (h:i<l.length):(gJ l)[i]? =some [MK (l.length-1-i:Nat),ze .u32 (limb l (l.length-1-i):Nat)]:=by
 simp only [gJ,Ba,Cx h,AM]
def zoz (h:(gJ l)[i]? =some a):i<l.length/\a=[MK (l.length-1-i:Nat),ze .u32 (limb l (l.length-1-i):Nat)]:=by
 have h1:i<l.length:=by have:=yJ h;rwa [XA] at this
 refine⟨h1,?_⟩;rw [zey h1] at h;grind
def zqY (h:a∈gJ l):a.length=2:=by
 obtain⟨i,_,rfl⟩:=Bc.1 h;rfl
def zj9 {x v:Nat} (a:0<n):(x+4294967296*v)/n=4294967296*(v/n)+(4294967296*(v%n)+x)/n/\(x+4294967296*v)%n=(4294967296*(v%n)+x)%n:=by
 have e:x+4294967296*v=4294967296*(v%n)+x+n*(4294967296*(v/n)):=by
  have:=Cy v n;rw [Nat.mul_left_comm];omega
 rw [e,CR _ _ a,Nat.add_mul_mod_self_left];omega
def zka {a:G7}:xc prog G 427 [yo [zD a]] (gJ a):=by
 refine xM func427 Z Z Z Z fun l E hy=>zg ?_;refine Fi ((ur Z Z Z Z)) ?_;refine uM 4 Z fun c=>?_;unfold yE at c;refine xi (γ:=Nat) (fun g=>⟨_,[(3,MK ((g:Int)-1)),(0,yieldS l),(1,yo [zD a])],[],[],(a.length-g,false)⟩) (fun g=>g<=a.length) (fun g=>g) a.length (Af _) ⟨Z,xm Z (MW (ze .i64) (wrap_i64 (by omega) (by omega))) (aa Z (aa Z trivial)),wq _,Z,B⟩ ?_
 intro g e;refine Fh ?_;refine FQ ?_ ?_<;>intro _ d
 .refine zB<|zi<|zN<|zr<|zz ?_;refine zo ((zC Z Z).sub (zI (C:(g:Int)-1=((g-1:Nat):Int)))) ?_;refine zz ?_;refine Fi ((zC Z Z).sub (zI (C:(g:Int)-1=((g-1:Nat):Int)))) ?_;refine Fi (zh Z Z Z (by simp) (y:=limb a (g-1)) (xN (by omega))) ?_;refine ae.yield Z hy Z Z Z (by rw [zey C,(C:a.length-1-(a.length-g)=g-1)]) (yU _) Z Z Z fun y=>zg ?_;refine Fp ?_ ?_<;>intro b
  .exact zj ⟨.inl Z,.inr b⟩
  .refine zA ?_;refine zg ?_;exact⟨g-1,(by omega:g-1<=a.length),by omega,Z,xm Z (MW (ze .i64) (by omega)) zk,wq _,Z,by grind⟩
 .exact⟨.inr Z,.inl (by rw [XA,(C:g=0)];rfl)⟩
def zoA {a:G7}:G0 G 339 [zD a] (wD 427 [yo [zD a]]):=by
 refine Fq func339 ?_;exact zj zt
def zkb {a:G7} {m:Nat} [F:IsNat a m] (R:n<4294967296) (L:a.length<=cap):G0 G 238 [zD a,ze .u32 n] (yR [zD (dig (m/n)),ze .u32 (if n=0 then 0 else m%n:Nat),MK (if n=0 then 30 else 0)]):=by
 unfold cap at L
 refine Fq func238 ?_;refine Fm fun P=>?_;refine FQ ?_ ?_<;>intro _ z
 .refine zr<|zw ?_;refine ae.ghost _ Z (XW (vz (l:=dig (m/n)) (uv.2 (by grind))))<|zg ?_
  exact zj (zu (e:=by grind))
 .have q:n≠0:=by omega
  refine aG Z Z Z Z Z Z Z (Af _) (by omega) GH fun u s=>zg ?_;refine Fm fun O=>?_;refine Fk zoA ?_
  refine uN Z Z zka (fun I h=>zqY h) J Z
   (fun k h i=>i=(0,false)/\k<=a.length/\∃ out,wZ out/\out.length=a.length/\(∀j,j<a.length-k->limb out j=0)/\val out=4294967296^(a.length-k)*(val (a.drop (a.length-k))/n)/\h=[⟨some O,162,[ze .u64 (val (a.drop (a.length-k))%n:Nat)],0⟩,rowE (some (u,a.length)) 125 1 a.length (out.flatMap wB),⟨some P,42,[eqS (rowV (some (u,a.length)) a.length)],0⟩])
   (fun _ _ _=>False) ⟨Z,BL _,List.replicate a.length 0,ve _,CN,fun j _=>XZ _ j,by rw [wi,Nat.sub_zero,List.drop_length];simp [val],by rw [Nat.sub_zero,List.drop_length];rfl⟩ ?_ ?_ ?_
  .rintro l k I h i N ⟨rfl,_,out,g,o,y,b,rfl⟩;obtain⟨M,rfl⟩:=zoz N;obtain⟨p,hp⟩:∃ p,p=a.length-1-k:=⟨_,Z⟩;rw [(C:a.length-k=p+1)] at b y ⊢
   rw [<-hp];have hx:=yV F.lim p;have r:=Kj a p;obtain⟨v,K⟩:∃ v,v=val (a.drop (p+1)):=⟨_,Z⟩;rw [<-K] at r b ⊢
   have Q:=Be v (C:0<n);obtain⟨f,d⟩:=zj9 (x:=limb a p) (v:=v) (n:=n) (by omega);rw [<-r] at f d
   obtain⟨w,H⟩:∃ w,w=4294967296*(v%n)+limb a p:=⟨_,Z⟩;rw [<-H] at f d
   have A:w/n<4294967296:=by
    rw [Cl (by omega)];have:=Cq 4294967296 (C:v%n+1<=n);omega
   refine Fh ?_;refine⟨Z,?_⟩;refine zg ?_;refine Fi ((ZC Z Z Z (by simp) GG).sub (zI (n:=((4294967296*(v%n):Nat):Int)) ((xA GV GV).trans GV))) ?_;refine zA ?_;refine Fi ((vg Z B Z Z).sub (zI (n:=((w:Nat):Int)) (by rw [Ws (by omega) (by omega),kK hx,H]))) ?_;refine zfL 12 _ V Z (.cons_cons _ (.cons _ (.cons_cons _ .slnil)))<|FB ?_;refine FC (yO Z Z (xA C C)) ?_;refine FC ((vl Z Z Z (by omega) (by omega) (by have:=Cu w n;rw [<-CO];exact xA (Da _) (by omega))).sub (zI (CO _ _).symm)) ?_;refine FC (yO Z Z (vt (Da _) C)) ?_;refine FD (yO Z Z (xA C C)) ?_;refine FD ((wt Z Z Z (by omega) (by omega)).sub (zI (Dc _ _).symm)) ?_;refine FC (xG Z Z Z (by omega)) ?_;refine ab.nil<|aU.storeRow 1 Z Z Z Z C Z Z (.cons_cons _ (.cons _ (.cons_cons _ .slnil)))<|Fh ?_
   refine⟨Z,by omega,out.set p (w/n),Zy g A,by grind,fun j S=>by rw [vi (by omega)];grind,?_,by rw [(C:a.length-(k+1)=p),d];rfl⟩;have E:=VP (l:=out) (j:=p) (w/n) (by omega);grind
  .rintro h i D ⟨rfl,_,out,g,o,y,b,rfl⟩;rw [XA,Az,CG,CH,CI,F.val] at b
   rw [XA,Az,CI,F.val];have:IsNat out (m/n):=⟨g,b⟩;refine zH (uF [_] [] [] s o Z yZ GK)<|UG 4 _ V Z (.cons_cons _ (.cons _ .slnil))<|FB ?_;refine FC (zb Z Z (wG GH)) ?_;refine FD (yO Z Z (vt (Da _) (by have:=Be m (C:0<n);omega))) ?_;refine ab.nil<|aU.store 1 Z Z Z Z Z Z Z Z (.cons_cons _ (.cons _ .slnil))<|zg ?_
   exact zj (zu (e:=by grind))
  simp
def zqZ {l:G7} {n:Nat} [q:IsNat l n] (r:l.length<=cap) (o:n≠0):CallSpec prog G 148 [zD l] [] (fun s H'=>∃ b c,zX (some (b,c)) (dig (n)).length/\s=eqS (rowV (some (b,c)) (dig (n)).length)/\H'=[rowE (some (b,c)) 125 1 (dig (n)).length ((dig (n)).flatMap wB)]):=by
 have j:=r;unfold cap at j
 refine Fq func148 ?_;have f:dig n≠[]:=fun h=>o (uv.1 h);refine Qj [0] (fun (g:Nat) z=>(3,MK g)::z) (fun g=>[]) (fun g=>g<=l.length/\∀ i,g<=i->limb l i=0) (fun g=>g) l.length ⟨Af _,fun i h=>wJ h⟩ ?_;rintro g ⟨e,p⟩;have a:(g=0\/limb l (g-1)≠0)->l.take g=dig n:=fun h=>by rw [<-q.val];exact qI q.lim e p h
 refine zi<|zr<|zz ?_;refine FE ?_ ?_<;>intro _ t
 .refine Do (g-1) ?_;refine Fi (zh Z Z Z (by simp) (y:=limb l (g-1)) (xN (by omega))) ?_;refine Fp ?_ ?_<;>intro d
  .have h1:limb l (g-1)=0:=by simpa using d
   refine Do (g-1) ?_;exact⟨g-1,⟨by omega,fun i hi=>by grind⟩,by omega,MM⟩
  .have h1:limb l (g-1)≠0:=by simpa using d
   refine Fi (xU Z Z (.inl ⟨Z,Z⟩) (.inr ⟨_,_,Z,Z⟩) (.inr ⟨_,_,Z,Z,Af _,e⟩) (by omega) e) ?_;refine aH Z Z Z (qK (l:=l.take g) GV (by grind)) Z Z Z ?_;rintro s H1 ⟨b,c,k,rfl,rfl⟩;refine zg ?_;exact zj ⟨_,_,.one (.tmp Z),Dd _,b,c,by grind,by grind,by rw [<-a (.inr h1)];rfl⟩
 .refine Fu ?_;refine Fi (xU Z Z (.inl ⟨Z,Z⟩) (.inr ⟨_,_,Z,Z⟩) (.inr ⟨_,_,Z,Z,Af _,e⟩) (by omega) e) ?_;refine aH Z Z Z (qK (l:=l.take g) GV (by grind)) Z Z Z ?_;grind
def zxQ {a:G7} {m k:Nat} [D:IsNat a m] (M:k<=65536) (I:a.length+10000<=cap) (z:m*2^k≠0):CallSpec prog G 241 [zD a,MK k] [] (fun s H'=>∃ b c,zX (some (b,c)) (dig (m*2^k)).length/\s=eqS (rowV (some (b,c)) (dig (m*2^k)).length)/\H'=[rowE (some (b,c)) 125 1 (dig (m*2^k)).length ((dig (m*2^k)).flatMap wB)]):=by
 unfold cap at I
 have e:k%32<32:=Be _ (by simp);refine Fq func241 ?_;refine Fi ((zb Z Z JG).sub (zI (n:=((k:Nat):Int)) (by omega))) ?_;refine Fi ((vl Z Z Z (by simp) (by simp) (wrap_i64 (by omega) (by omega))).sub (zI (n:=((k/32:Nat):Int)) (by rfl))) ?_;refine Fi ((vl Z Z Z (by simp) (by simp) (wrap_i64 (by omega) (by omega))).sub (zI (n:=((k/32:Nat):Int)) (by rfl))) ?_;refine zA ?_;refine Do (k/32+a.length+1) ?_;refine aG Z Z Z Z Z Z Z (by omega) (by omega) GH fun A p=>Fh ?_
 refine uf (fun i q c out=>⟨_,[(24,ML i),(23,MK a.length),(22,zD a),(6,ze .u32 (c:Nat)),(5,eqS (rowV q (k/32+i))),(1,ML k)],[rowE q 125 1 (k/32+i) (out.flatMap wB)],[],(0,false)⟩)
  (fun i q c out=>i<=a.length/\zX q (k/32+i)/\c<2^(k%32)/\wZ out/\out.length=k/32+i/\val out+4294967296^(k/32+i)*c=4294967296^(k/32)*(2^(k%32)*low a i)) (fun i q c out=>a.length-i)
  0 (some (A,k/32+a.length+1)) 0 (List.replicate (k/32) 0) ⟨BL _,p,CS C,ve _,CN,by rw [wi,uV,CM,CM,CM]⟩ MM ?_
 rintro i q c out ⟨hi,hq,E,j,hln,d⟩;have K:=iT e;refine Fh ?_;refine FP ?_ ?_<;>intro _ t
 .have hx:=yV D.lim i;obtain⟨H,w⟩:=l7 hx e E;obtain⟨v,u⟩:=kJ (x:=limb a i) (by omega) E;refine Fi (zh Z Z Z (by simp) (y:=limb a i) (xN (by omega))) ?_;refine Fi ((wt Z Z Z (by simp) (by simp)).sub (zI (n:=((k%32:Nat):Int)) (by rfl))) ?_;refine zo ((ZC Z Z Z (by omega) GA).sub (zI (n:=((2^(k%32):Nat):Int)) (by have:=gZ 1 (k%32);rw [CH] at this;refine (MW _ this).trans ?_;exact vt C C))) ?_;refine Fl Z Z (zco hx C) ?_;refine zo ((vg Z B Z Z).sub (zI (by rw [Vl (by omega) (by omega),v]))) ?_;refine Fi (xj [(limb a i*2^(k%32)+c)%4294967296] Z Z J Z B Z Z Z) ?_;refine FL 0 Z Z Z Z hq GU fun r h=>?_;refine Fi ((zC Z Z).sub (zI (by rw [u]))) ?_;refine zA ?_;refine Fh ?_
  refine⟨i+1,r,(limb a i*2^(k%32)+c)/4294967296,out++[(limb a i*2^(k%32)+c)%4294967296],⟨by omega,h,w,vV j (by omega),by grind,?_⟩,by omega,an zk Gv⟩;rw [uD,hln,xO,(C:k/32+(i+1)=k/32+i+1),xw];exact mZ (Ct _ _ _) d
 .have o:i=a.length:=by omega
  rw [o,vF (Af _),D.val] at d
  refine zK<|zg ?_;refine Fi (xj [c] Z Z J Z B Z Z Z) ?_;refine FL 0 Z Z Z Z hq GU fun F g=>?_;refine ae.ghost _ Z (yF 0 47 Z Z g (l:=out++[c]) (by simp [hln]) CB.symm yZ GF) ?_
  have:IsNat (out++[c]) (m*2^k):=⟨vV j (by omega),by rw [uD,hln,o,d,ub k,Ck m,Cj]⟩
  refine aH Z Z Z (zqZ GD z) Z Z Z ?_;rintro s H1 ⟨b,c,L,rfl,rfl⟩;refine zg ?_;exact zj ⟨_,[_],.one (.tmp Z),.refl _,b,c,L,Z,Z⟩
variable {at' n N g f k:Nat} {R b:G7}
abbrev Xc (bL bR cR N:Nat) (R b:List Nat):HL:=[⟨some bL,315,[eqS (rowV (some (bR,cR)) N),zD b],0⟩,rowE (some (bR,cR)) 125 1 N (R.flatMap wB)]
def zq0 {x y u:Nat} (hx:x<4294967296) (hy:y<4294967296) (a:u<=1):sb x y u%4294967296+y+u=x+4294967296*(sb x y u/9223372036854775808)/\sb x y u/9223372036854775808<=1:=by unfold sb;grind
def zct {l:G7} {a i z:Nat}:low ((l.set (a+i) z).drop a) i=low (l.drop a) i:=qN fun j b=>by rw [uo,uo,vi C]
def zkc {c:Nat} (a:R.length=N) (e:wZ R) (k:wZ b) (o:b.length=n+1) (l:at'+(n+1)<N) (j:limb b n≠0) (h:N<=cap):CallSpec prog G 342 [G9 c,ML at'] (Xc c g f N R b) (fun s H'=>s=ze .u64 (min ((limb R (at'+(n+1))*4294967296+limb R (at'+n))/limb b n) 4294967295:Nat)/\H'=Xc c g f N R b):=by
 subst a;unfold cap at h
 have h1:=yV e (at'+(n+1));have m:=yV e (at'+n);have p:=yV k n;obtain⟨w,d⟩:∃ w,w=limb R (at'+(n+1))*4294967296+limb R (at'+n):=⟨_,Z⟩;refine zs func342 ?_;refine zr<|zz ?_;apply zx;(iterate 4 refine zz ?_);refine Fi ((wI Z Z).sub (zI (C:((b.length:Nat):Int)=((n+1:Nat):Int)))) ?_;refine Fw 24 ?_;refine Do (at'+(n+1)) ?_;refine Fi (xG Z Z Z (by omega)) ?_;refine Fi (ua 1 Z Z Z C) ?_;refine zA ?_;refine Fi ((ZC Z Z Z (by simp) GG).sub (zI (n:=((4294967296*limb R (at'+(n+1)):Nat):Int)) ((xA GV GV).trans GV))) ?_;refine Do (at'+(n+1)) ?_;refine Do (at'+n) ?_;refine Fi (xG Z Z Z (by omega)) ?_;refine Fi (ua 1 Z Z Z C) ?_;refine zA ?_;refine Fi ((vg Z B Z Z).sub (zI (n:=((w:Nat):Int)) (by rw [Ws (by omega) (by omega),kK m,d,Ck]))) ?_;refine Do n ?_;refine Fi (zh Z Z Z (by simp) (y:=limb b n) (xN (by omega))) ?_;refine zA ?_;refine zo ((vl Z Z Z (by omega) (by omega) (by have:=Cu w (limb b n);rw [<-CO];exact xA (Da _) (by omega))).sub (zI (CO _ _).symm)) ?_;refine Fi ((VH Z Z Z).sub (zI (n:=((min (w/limb b n) 4294967295:Nat):Int)) (by omega))) ?_;refine zj ?_
 exact⟨_,_,.one (.tmp Z),Dd _,by grind,Z⟩
def zkd {t:Nat} (P:R.length=N) (W:wZ R) (U:wZ b) (hN:zX (some (g,f)) N) (hn:b.length=n) (a1:at'+n<N) (ht:t<4294967296) (Y:N<=cap):CallSpec prog G 343 [G9 k,ML at',ze .u64 (t:Nat)] (Xc k g f N R b) (fun s H'=>∃ out u,u<=1/\s=zp (decide (u=0))/\wZ out/\out.length=N/\(∀j,j<at'\/at'+(n+1)<=j->limb out j=limb R j)/\low (out.drop at') (n+1)+t*val b=low (R.drop at') (n+1)+Wa (n+1)*u/\H'=Xc k g f N out b):=by
 subst P;unfold cap at Y
 refine Fq func343 ?_;refine zU 16 V ?_;(iterate 10 refine zz ?_);refine Fi ((wI Z Z).sub (zI (C:((b.length:Nat):Int)=((n:Nat):Int)))) ?_;refine Do (at'+n) ?_;refine Do (at'+n+1) ?_;refine Fi ((zhq (lo:=at') (hi:=at'+n+1) Z Z hN Z Z Z Z (by omega) (by omega)).sub (show ∀I v,_->(eqS (.slice (some ⟨g,at',none⟩) (n+1) (f-at'))).den I v from fun I v h=>by grind)) ?_;refine Fi (Qs Z Z) ?_;refine uf (fun i d a out=>⟨_,[(32,ML i),(31,MK (n+1:Nat)),(9,ze .u64 (a:Nat)),(8,ze .u64 (d:Nat)),(7,eqS (.slice (some ⟨g,at',none⟩) (n+1) (f-at'))),(2,ze .u64 (t:Nat)),(0,G9 k)],Xc k g f R.length out b,[],(0,false)⟩)
  (fun i d a out=>i<=n+1/\d<4294967296/\a<=1/\(i=n+1->d=0)/\wZ out/\out.length=R.length/\(∀j,j<at'\/at'+i<=j->limb out j=limb R j)/\low (out.drop at') i+t*low b i=low (R.drop at') i+4294967296^i*(d+a)) (fun i d a out=>n+1-i)
  0 0 0 R ⟨by simp,by simp,by simp,fun _=>rfl,W,Z,fun _ _=>rfl,by rfl⟩ MM ?_
 rintro i d a out ⟨hi,O,o,h0,r,A,Q,e⟩;refine Fh ?_;refine zd ?_ ?_<;>intro _ F
 .have hp:=yV W (at'+i);have m:=yV U i;obtain⟨x,hx⟩:∃ x,x=limb b i:=⟨_,Z⟩;rw [<-hx] at m
  have X:=oc m ht O (C:0<4294967296);obtain⟨w,H⟩:∃ w,w=x*t+d:=⟨_,Z⟩;obtain⟨y,hy⟩:∃ y,y=limb R (at'+i):=⟨_,Z⟩;rw [<-hy] at hp
  refine zB<|zi<|zg ?_;refine yL (K:=fun S1=>aC S1 (⟨89,[(11,ze .u64 (x:Nat)),(10,ML i),(32,ML i),(31,MK (n+1:Nat)),(9,ze .u64 (a:Nat)),(8,ze .u64 (d:Nat)),(7,eqS (.slice (some ⟨g,at',none⟩) (n+1) (f-at'))),(2,ze .u64 (t:Nat)),(0,G9 k)],Xc k g f R.length out b,[],(0,false)⟩)) ?_ ?_
  .apply zr;(iterate 5 refine zz ?_);refine Fi ((wI Z Z).sub (zI (C:((b.length:Nat):Int)=((n:Nat):Int)))) ?_;refine Fo ?_ ?_<;>intro _ E
   .refine Fi (zh Z Z Z (by simp) (y:=limb b i) (xN (by omega))) ?_;refine zA ?_;refine zg ?_;exact aA (xm Z (MW (ze .u64) (by omega)) zk)
   .exact aA (xm Z (MW (ze .u64) (by rw [hx,wJ C];rfl)) zk)
  .intro S1 S;refine xq S<|zg ?_;refine zo (zb Z Z (zj4 C C)) ?_;refine zz ?_;refine zo ((xp Z Z Z).sub (zI (n:=0) (by omega))) ?_;refine Fi ((xp Z Z Z).sub (zI (by rw [CZ (by omega)]))) ?_;refine zo (zqN (c:=0) func428 Z Z Z Z Z Z Z Z (by simp)) ?_;refine zz ?_;refine zo ((xp Z Z Z).sub (zI (n:=((w:Nat):Int)) (by omega))) ?_;refine Fi ((xp Z Z Z).sub (zI (n:=0) (by omega))) ?_;refine Fi (yK (z:=0) Z Z Z (MW some (by rfl)) (xA (by simp) (by simp))) ?_;refine Fi ((ZC Z Z Z (by simp) GG).sub (zI (n:=0) J)) ?_;refine Fi ((wH Z Z Z C GG).sub (zI (Wu w))) ?_;refine Fi ((vg Z B Z Z).sub (zI ((Ws (x:=0) (by omega) (by omega)).trans (by rw [Nat.zero_or])))) ?_;refine Fi (uA (q:=at'+i) Z Z Z (by simp) (by omega) B) ?_
   refine Fi ((ua 1 Z Z Z (by omega)).sub (zI (n:=((y:Nat):Int)) (by grind))) ?_;refine zA ?_;refine zz ?_;refine Fi ((vg Z B Z Z).sub (zI ((Vg (y:=4294967295) (by omega) (by omega)).trans (by rw [Kp])))) ?_;refine Fi (ur Z Z Z Z) ?_;refine Fi ((ur Z Z Z Z).sub (zI (show _=((sb y (w%4294967296) a:Nat):Int) by rw [wP,wP];unfold sb;grind))) ?_;refine Fi (yO (z:=((sb y (w%4294967296) a%4294967296:Nat):Int)) Z Z wh) ?_;refine Fi ((wH Z Z Z C GG).sub (zI (zwX _))) ?_;refine zo (uA (q:=at'+i) Z Z Z (by simp) (by omega) B) ?_;refine ae.storeRow 1 Z Z Z Z Z C Z Z<|zg ?_;refine Do (i+1) ?_
   obtain⟨M,L⟩:=zq0 (y:=w%4294967296) hp (by omega) o;refine⟨i+1,w/4294967296,sb y (w%4294967296) a/9223372036854775808,out.set (at'+i) (sb y (w%4294967296) a%4294967296),⟨by omega,by omega,L,fun h=>?_,Zy r C,by rw [Cd];exact A,fun j hj=>by rw [vi C];exact Q j C,?_⟩,by omega,MM⟩
   .have:x=0:=by rw [hx,wJ (by omega)]
    grind
   .rw [xO,xO,xO,zct,uo,Xb (by omega),uo,xw,<-hx,<-hy];exact zow (y:=0) e (by omega) M Z
 .have D:i=n+1:=by omega
  have p:=h0 D;rw [D,p,Br,vF (l:=b) (by omega)] at e
  refine zK<|zr<|zz ?_;refine Fi ((zZ Z Z Z Z).sub (yz (c:=decide (a=0)) (by grind))) ?_;refine zj ?_
  exact⟨_,_,.one (.tmp Z),Dd _,out,a,o,Z,r,A,fun j hj=>Q j C,e,Z⟩
def zoB {e h:Nat} (r:R.length=N) (w:wZ R) (E:wZ b) (H:b.length=n) (F:at'+n<N) (A:N<=cap):CallSpec prog G 344 [G9 e,ML at'] (Xc e k h N R b) (fun s H'=>∃ out c,c<=1/\s=zp (decide (0<c))/\wZ out/\out.length=N/\(∀j,j<at'\/at'+(n+1)<=j->limb out j=limb R j)/\low (out.drop at') (n+1)+Wa (n+1)*c=low (R.drop at') (n+1)+val b/\H'=Xc e k h N out b):=by
 subst r;unfold cap at A
 refine zs func344 ?_;refine zg ?_;refine zi<|zr ?_;(iterate 4 refine zz ?_);refine Fi ((wI Z Z).sub (zI (C:((b.length:Nat):Int)=((n:Nat):Int)))) ?_;refine Do (n+1) ?_;refine uu (fun i a out=>⟨_,[(13,ML i),(12,MK (n+1:Nat)),(5,ze .u64 (a:Nat)),(1,ML at'),(0,G9 e)],Xc e k h R.length out b,[],(0,false)⟩)
  (fun i a out=>i<=n+1/\a<=1/\wZ out/\out.length=R.length/\(∀j,j<at'\/at'+i<=j->limb out j=limb R j)/\low (out.drop at') i+4294967296^i*a=low (R.drop at') i+low b i) (fun i a out=>n+1-i)
  0 0 R ⟨by simp,by simp,w,Z,fun _ _=>rfl,by rfl⟩ MM ?_
 rintro i a out ⟨hi,q,f,g,t,d⟩;refine Fh ?_;refine zd ?_ ?_<;>intro _ o
 .have hp:=yV w (at'+i);have p:=yV E i;obtain⟨x,hx⟩:∃ x,x=limb b i:=⟨_,Z⟩;rw [<-hx] at p
  obtain⟨y,hy⟩:∃ y,y=limb R (at'+i):=⟨_,Z⟩;rw [<-hy] at hp
  refine zB<|zi<|zg ?_;refine yL (K:=fun S1=>aC S1 (⟨60,[(5,ze .u64 (a+x:Nat)),(6,ML i),(13,ML i),(12,MK (n+1:Nat)),(1,ML at'),(0,G9 e)],Xc e k h R.length out b,[],(0,false)⟩)) ?_ ?_
  .apply zr;(iterate 5 refine zz ?_);refine Fi ((wI Z Z).sub (zI (C:((b.length:Nat):Int)=((n:Nat):Int)))) ?_;refine Fo ?_ ?_<;>intro _ m
   .refine zo (zh Z Z Z (by simp) (y:=limb b i) (xN (by omega))) ?_;refine Fi ((xP Z Z).sub (zI (n:=((x:Nat):Int)) (by omega))) ?_;refine zA ?_;refine Do (a+x) ?_;exact MM
   .exact aA (xm Z (MW (ze .u64) (by rw [hx,wJ C];rfl)) zk)
  .intro S1 v;refine xq v<|zg ?_;refine Do (at'+i) ?_;refine Fi (xG Z Z Z (by omega)) ?_
   refine Fi ((ua 1 Z Z Z (by omega)).sub (zI (n:=((y:Nat):Int)) (by grind))) ?_;refine zA ?_;refine Do (a+x+y) ?_;refine Do (at'+i) ?_;refine Fi (yO (z:=(((a+x+y)%4294967296:Nat):Int)) Z Z wh) ?_;refine zo (xG Z Z Z (by omega)) ?_;refine ae.storeRow 1 Z Z Z Z Z C Z Z<|zg ?_;refine Fi ((wH Z Z Z C GG).sub (zI (Wu _))) ?_;refine Do (i+1) ?_
   refine⟨i+1,(a+x+y)/4294967296,out.set (at'+i) ((a+x+y)%4294967296),⟨by omega,by omega,Zy f C,by rw [Cd];exact g,fun j D=>by rw [vi C];exact t j C,?_⟩,by omega,MM⟩;rw [xO,xO,xO,zct,uo,Xb (by omega),uo,xw,<-hx,<-hy];exact zox d
 .have u:i=n+1:=by omega
  rw [u,vF (l:=b) (by omega)] at d
  refine zK<|zr<|zz ?_;refine Fi ((zZ Z Z Z Z).sub (yz (c:=decide (0<a)) (decide_eq_decide.2 (by simp)))) ?_;refine zj ?_
  exact⟨_,_,.one (.tmp Z),Dd _,out,a,q,Z,f,g,fun j D=>t j C,d,Z⟩
variable {cnt n X D m:Nat} {a:List SV} {b out:G7}
def gE (X D cnt:Nat):List (List SV):=(List.range cnt).map fun k=>[ze .i64 (cnt-1-k:Nat),ze .u32 (X/D/Wa (cnt-1-k)%4294967296:Nat)]
def UK:(gE X D cnt).length=cnt:=by simp [gE]
def zhI {k:Nat} (h:k<cnt):(gE X D cnt)[k]? =some [MK (cnt-1-k:Nat),ze .u32 (X/D/Wa (cnt-1-k)%4294967296:Nat)]:=by
 simp only [gE,Ba,Cx h,AM]
def zq1 {k:Nat} (h:(gE X D cnt)[k]? =some a):k<cnt/\a=[MK (cnt-1-k:Nat),ze .u32 (X/D/Wa (cnt-1-k)%4294967296:Nat)]:=by
 have h1:k<cnt:=by have:=yJ h;rwa [UK] at this
 refine⟨h1,?_⟩;rw [zhI h1] at h;grind
def zuF (h:a∈gE X D cnt):a.length=2:=by
 obtain⟨i,_,rfl⟩:=Bc.1 h;rfl
def nF (h:n≠0):4294967296^((dig n).length-1)<=n:=by
 rcases Ab n (4294967296^((dig n).length-1)) with h1 | h1
 .have b:=zT h1;grind
 omega
def zmu (h:n≠0):limb (dig n) ((dig n).length-1)≠0/\limb (dig n) ((dig n).length-1)=n/4294967296^((dig n).length-1):=by
 have h1:=nF h;have d:(dig n).length≠0:=fun h0=>h (yH.1 h0);have hp:0<4294967296^((dig n).length-1):=CS J;have c:n/4294967296^((dig n).length-1)<4294967296:=by
  rw [Cl hp,Ck,<-xw,AP (C7 d)];exact xE (Af _)
 have b:=Nat.div_pos h1 hp;have a:limb (dig n) ((dig n).length-1)=n/4294967296^((dig n).length-1):=by
  rw [VQ (xe n),xu,CZ c]
 omega
def zoC {a:Nat} (s:cnt=(dig m).length) (f:X=(dig n).length) (c:n≠0) (o:n<=m) (l:a=32-Lib.bitLen (limb (dig n) (X-1))):
 a<=32/\(dig (m*2^a)).length<=cnt+1/\(dig (n*2^a)).length=X/\1<=X/\X<=cnt/\limb (dig (n*2^a)) (X-1)≠0/\m*2^a<n*2^a*Wa (cnt+1-X)/\n*2^a≠0/\m*2^a≠0:=by
 have hp:0<4294967296^(X-1):=CS J;have b:=C4 a;have t:a<=32:=by omega
 have d:1<=X:=by
  have G:(dig n).length≠0:=fun h0=>c (yH.1 h0);omega
 have p:m<4294967296^cnt:=xE (by omega);have e:4294967296^(X-1)<=n:=by rw [f];exact nF c
 have r:X<=cnt:=by
  rcases Ab cnt X with h | h
  .exfalso;have h1:4294967296^cnt<=4294967296^(X-1):=Cm J (by omega);omega
  .omega
 have g:2^a<=4294967296:=Cm J t;have F:(dig (m*2^a)).length<=cnt+1:=by
  refine zT ?_;rw [xw];exact Ah (C3 p b) (Cq _ g)
 obtain⟨x,hx⟩:∃ x,x=limb (dig n) (X-1):=⟨_,Z⟩;have j:x=n/4294967296^(X-1):=by rw [hx,f];exact (zmu c).2
 have i:x<4294967296:=by rw [hx];exact yV (xe n) _
 obtain⟨q,w,v⟩:=bitLen_spec 32 x i J;rw [<-hx] at l
 have y:n*2^a<4294967296^X:=by
  have E:n<(x+1)*4294967296^(X-1):=by rw [j];exact Nat.lt_mul_of_div_lt (Nat.lt_succ_self _) hp
  have D:(x+1)*2^a<=4294967296:=by
   have:2^Lib.bitLen x*2^a=4294967296:=by rw [<-Ct,(C:Lib.bitLen x+a=32)]
   rw [<-this];exact BK _ q
  have A:=C3 E b;refine Ah A ?_;rw [CW];refine Ag (BK _ D) ?_;rw [Ck,<-xw,AP d];exact Af _
 have e2:(dig (n*2^a)).length=X:=by
  refine Nat.le_antisymm (zT y) ?_;rcases Ab (dig (n*2^a)).length X with h | h
  .exfalso;have h1:n*2^a<4294967296^(X-1):=xE (by omega);have z:n<=n*2^a:=Bn _ b;omega
  .omega
 have u:=Cb c (Nat.ne_of_gt b);refine⟨t,F,e2,d,r,by have:=(zmu u).1;grind,?_,u,Cb (by omega) (Nat.ne_of_gt b)⟩;have:=zj8 (k:=a) p e (by omega);rw [(C:cnt+1-X=cnt-(X-1))];exact this
def zq2 {a:Nat} (_:wZ out) (f:out.length=cnt) (d:n*2^a≠0) (b:m*2^a<n*2^a*Wa cnt) (c:∀ j,j<cnt->limb out j=m*2^a/(n*2^a)/Wa j%4294967296):val out=m/n:=by
 have e:=Nat.mul_div_mul_right m n (C4 a);have g:m/n<4294967296^cnt:=by
  rw [<-e,Cl (C7 d),Ck,Ck (4294967296^cnt),Ck (2^a)];exact b
 have:val out=val (dig (m/n)):=Zh fun j=>by
  rcases Ab j cnt with h | h
  .rw [c j h,e,Ko];rfl
  .rw [wJ C,Ko,CT (Ah g (Cm J h))]
 rw [this,xu]
def zoD {R:G7} {L bR cR N:Nat} (hR:wZ R) (hb:wZ b) (hN:zX (some (bR,cR)) N) (b3:R.length=N) (hn:b.length=n+1) (a9:limb b n≠0) (b8:N=n+1+cnt) (hs:N<=cap) (hX:val R=X) (hD:val b=D) (b2:X<D*Wa cnt):nM prog G 341 [yo [G9 L]] (gE X D cnt) (Xc L bR cR N R b) (fun i H'=>∃ out,wZ out/\out.length=N/\(i=(cnt,false)->val out=X%D)/\H'=Xc L bR cR N out b):=by
 have W:=hs;unfold cap at hs
 refine kN func341 Z Z Z Z fun l E hy _=>zU 13 V<|zg ?_;refine zo (xd Z Z hN) ?_;(iterate 4 refine zz ?_);refine Fi ((wI Z Z).sub (zI (C:((b.length:Nat):Int)=((n+1:Nat):Int)))) ?_;refine Do cnt ?_;refine Fi (yK (z:=((cnt:Nat):Int)-1) Z Z Z (MW some (by omega)) (wrap_i64 (by omega) (by omega))) ?_
 refine xz (fun g out=>⟨_,[(3,MK (((g:Nat):Int)-1)),(0,yieldS l),(1,yo [G9 L])],Xc L bR cR N out b,[],(cnt-g,false)⟩)
  (fun g out=>g<=cnt/\wZ out/\out.length=N/\val out=X%(D*Wa g)) (fun g out=>g)
  cnt R ⟨Af _,hR,b3,by rw [hX,CZ b2]⟩ ⟨Z,zk,wq _,Z,B⟩ ?_
 rintro g out ⟨hg,F,a0,o⟩;refine Fh ?_;refine FQ ?_ ?_<;>intro _ b0
 .obtain⟨p,rfl⟩:∃ p,g=p+1:=⟨g-1,by omega⟩
  obtain⟨P,hP,t,c5,a8,Q,r⟩:=zhG F hb hn a9 hD o;obtain⟨q,hq⟩:∃ q,q=min ((limb out (p+(n+1))*4294967296+limb out (p+n))/limb b n) 4294967295:=⟨_,Z⟩;rw [<-hq] at a8
  have a4:q<4294967296:=by rw [hq];exact Cs (Nat.min_le_right _ _) J
  refine zB<|zi ?_;refine zN<|wO<|zr ?_;refine zz ?_;refine Fi ((zC Z Z).sub (zI (C:((p+1:Nat):Int)-1=((p:Nat):Int)))) ?_;refine ah [] _ [] Z Z Z Z (zkc a0 F hb hn (by omega) a9 W) Z Z Z ?_
  rintro s1 H1 ⟨rfl,rfl⟩;refine zo ((yt Z Z).sub (zI (n:=((q:Nat):Int)) (MW Int.ofNat hq.symm))) ?_;apply zM;apply zi;refine wN<|yL (K:=fun S1=>∃ a,wZ a/\a.length=N/\val a=X%(D*Wa p)/\aC S1 ⟨42,[(4,ze .u64 (P/D:Nat)),(3,MK (((p+1:Nat):Int)-1)),(0,yieldS l),(1,yo [G9 L])],Xc L bR cR N a b,[],(cnt-(p+1),false)⟩) ?_ ?_
  .apply zr;refine zz ?_;refine Fi ((zC Z Z).sub (zI (C:((p+1:Nat):Int)-1=((p:Nat):Int)))) ?_;refine ah [] _ [] Z Z Z Z (zkd a0 F hb hN hn (by omega) a4 W) Z Z Z ?_;rintro s1 H1 ⟨M,u1,b1,rfl,a5,a6,b4,A,rfl⟩;rw [<-hP,hD] at A
   replace A:low (M.drop p) (n+2)+q*D=P+Wa (n+2)*u1:=A;refine zg ?_;refine uu (fun w v a=>⟨_,[(5,zp (decide (v=0))),(4,ze .u64 (w:Nat)),(3,MK (((p+1:Nat):Int)-1)),(0,yieldS l),(1,yo [G9 L])],Xc L bR cR N a b,[],(cnt-(p+1),false)⟩)
    (fun w v a=>v<=1/\w<4294967296/\P/D<=w/\wZ a/\a.length=N/\(∀j,j<p\/p+(n+2)<=j->limb a j=limb out j)/\low (a.drop p) (n+2)+w*D=P+Wa (n+2)*v) (fun w v a=>w)
    q u1 M ⟨b1,a4,a8,a5,a6,b4,A⟩ MM ?_
   rintro w v a ⟨b9,c1,a3,d,k,a7,m⟩;refine Fh ?_;refine Fp ?_ ?_<;>intro I
   .have U:v=1:=by rcases Ab 0 v with h | h;omega;rw [(C:v=0)] at I;simp at I
    subst U;rw [Cr] at m
    have b6:low (a.drop p) (n+2)<Wa (n+2):=qJ (uC d p) _;have c0:=zqV (c:=1) t m b6 (Af _);obtain⟨q5,rfl⟩:∃ q5,w=q5+1:=⟨w-1,by omega⟩
    refine za ((q5:Nat):Int) ?_;refine zz ?_;apply zx;refine zz ?_;refine Fi ((zC Z Z).sub (zI (C:((p+1:Nat):Int)-1=((p:Nat):Int)))) ?_;refine ah [] _ [] Z Z Z Z (zoB k d hb hn (by omega) W) Z Z Z ?_;rintro s1 H1 ⟨e,c3,c4,rfl,s,O,H,f,rfl⟩;rw [hD] at f
    replace f:low (e.drop p) (n+2)+Wa (n+2)*c3=low (a.drop p) (n+2)+D:=f;rw [Bs,CH] at m
    replace H:∀ j,j<p\/p+(n+2)<=j->limb e j=limb out j:=fun j hj=>(H j hj).trans (a7 j hj);have Y:P/D<=q5:=by omega
    apply zM;refine FT ?_ ?_<;>intro a2
    .have a1:c3=1:=by have:=MO a2;omega
     rw [a1,Cr] at f
     replace f:low (e.drop p) (n+2)+q5*D=P:=by omega
     exact zK ⟨e,s,O,r e s H (fit t f Y).2,an (xm Z (MW (fun x:Nat=>ze .u64 x) (fit t f Y).1) zk) Z⟩
    .have a1:c3=0:=by have:=MP a2;omega
     rw [a1,CM,At] at f
     exact⟨q5,1,e,⟨Af _,by omega,Y,s,O,H,by rw [Cr];omega⟩,by omega,MM⟩
   .have U:v=0:=by simpa using I
    subst U;rw [CM,At] at m
    exact⟨a,d,k,r a d a7 (fit t m a3).2,an (xm Z (MW (fun x:Nat=>ze .u64 x) (fit t m a3).1) zk) Z⟩
  .rintro S1 ⟨a,d,k,S,b7⟩;refine xq b7<|zr ?_;have c2:P/D<4294967296:=by rw [Q];exact Be _ (by omega)
   refine zz ?_;refine Fi ((zC Z Z).sub (zI (C:((p+1:Nat):Int)-1=((p:Nat):Int)))) ?_;refine Fi (yO (z:=((P/D:Nat):Int)) Z Z (vt (by omega) (by omega))) ?_;refine ae.yield Z hy Z Z Z (by rw [zhI (by omega),(C:cnt-1-(cnt-(p+1))=p),<-Q]) (yU _) Z Z Z fun y=>?_
   refine zg ?_;refine Fp ?_ ?_<;>intro u
   .refine zj ⟨.inl Z,_,Dd _,⟨a,d,k,?_,Z⟩,.inr u⟩;intro h;have h1:(!y)=false:=MW Prod.snd h;rw [h1] at u;cases u
   .refine Fi (yK (z:=((p:Nat):Int)-1) Z Z Z (MW some (by omega)) (wrap_i64 (by omega) (by omega))) ?_;exact⟨p,a,⟨by omega,d,k,S⟩,by omega,⟨Z,zk,wq _,Z,by simp only;rw [u,(C:cnt-p=cnt-(p+1)+1)]⟩⟩
 .have b5:g=0:=by omega
  subst b5;rw [(FV:Wa 0=1),Cr] at o
  exact⟨.inr Z,_,Dd _,⟨out,F,a0,fun _=>o,Z⟩,.inl (by rw [UK];rfl)⟩
def zq3 {a:Nat}:G0 G 242 [G9 a] (wD 341 [yo [G9 a]]):=by
 refine Fq func242 ?_;exact zj zt
def Kr {a:G7} [hm:IsNat a m] [hn:IsNat b n] (hs:a.length+10000<=cap) (a3:b.length+10000<=cap):G0 G 149 [zD a,zD b] (yR [zD (dig (m/n)),zD (dig (if n=0 then 0 else m%n)),MK (if n=0 then 30 else 0)]):=by
 unfold cap at hs a3
 have a8:(dig m).length<=a.length:=zT (by rw [<-hm.val];exact wz hm.lim);have a7:(dig n).length<=b.length:=zT Gw;refine Fq func149 ?_;refine Fm fun b4=>?_;refine Fl Z Z (wG GH) ?_;refine Fl Z Z (wG GH) ?_;refine FQ ?_ ?_<;>intro _ L
 .have d:n=0:=yH.1 C;refine zr<|zw ?_;refine ae.ghost _ Z (XW (vz (l:=dig (m/n)) (uv.2 (by grind))))<|Fi ((yt Z Z).sub (vz (l:=dig (if n=0 then 0 else m%n)) (by simp_all))) ?_
  exact zj (zu (e:=by grind))
 .have d:n≠0:=fun h=>L (by rw [h,ay];rfl)
  refine Fk zht ?_;refine FQ ?_ ?_<;>intro _ g
  .have r:m<n:=by rcases Ab m n with h | h;exact h;unfold vK at g;rw [MY C] at g;split at g <;> omega
   refine zr<|zz ?_;refine zw ?_;refine ae.ghost _ Z (XW (vz (uv.2 (CT r))))<|Fi ((yt Z Z).sub (show ∀I v,(zD (dig m)).den I v->(zD (dig (if n=0 then 0 else m%n))).den I v from fun I v h=>by rw [MY d,CZ r];omega)) ?_
   exact zj (zu (e:=by grind))
  .have r:n<=m:=by rcases Ab m n with h | h;unfold vK at g;rw [MX h] at g;omega;exact h
   refine Fo ?_ ?_<;>intro _ a0
   .have O:n<4294967296:=by have:=xE (n:=n) (k:=1) C;rwa [Nat.pow_one] at this
    have a6:=Be m (C7 d);refine zo (zh Z Z Z C (y:=limb (dig n) 0) (xN C)) ?_;refine Fi ((xP Z Z).sub (zI (by rw [Ko,CG,CP,CZ O]))) ?_;refine zo (zb Z Z (zkb O GH)) ?_;(iterate 2 refine zz ?_);refine zo ((xp Z Z Z).sub (zI (by rw [MY d]))) ?_;refine Fi ((xp Z Z Z).sub (zI (n:=0) (by omega))) ?_;refine zA ?_;refine zo (zb Z Z (Ki C)) ?_;refine zz ?_;refine zw ?_;refine Fi ((yt Z Z).sub (show ∀I v,(zD (dig (m%n))).den I v->(zD (dig (if n=0 then 0 else m%n))).den I v from fun I v h=>by grind)) ?_;exact zj (zu (e:=by grind))
   .obtain⟨La,a5⟩:∃ La,La=(dig m).length:=⟨_,Z⟩;obtain⟨Lb,a4⟩:∃ Lb,Lb=(dig n).length:=⟨_,Z⟩;obtain⟨f,M⟩:∃ f,f=32-Lib.bitLen (limb (dig n) (Lb-1)):=⟨_,Z⟩;obtain⟨f1,f2,f3,f4,f5,f6,f7,f8,f9⟩:=zoC a5 a4 d r M;obtain⟨c,hc⟩:∃ c,c=La+1-(dig (m*2^f)).length:=⟨_,Z⟩;obtain⟨cnt,Q⟩:∃ cnt,cnt=La+1-Lb:=⟨_,Z⟩;rw [<-Q] at f7;have K:(dig (m*2^f)).length+c=La+1:=C;refine Do (Lb-1) ?_;refine Fi (zh Z Z Z C (y:=limb (dig n) (Lb-1)) (xN C)) ?_;refine Fi ((zb Z Z (zov (yV (xe n) _))).sub (zI (n:=((f:Nat):Int)) (by omega))) ?_;refine aH Z Z Z (zxQ C GH f9) Z Z Z ?_
    rintro s1 H1 ⟨bR,cR,N,rfl,rfl⟩;refine zg ?_;refine zo (zb Z Z (kI C GH)) ?_;refine zz ?_;refine ae.box Z Z Z Z Z Z fun X=>zg ?_;refine zoh [0,1,2,3,4,5,6,7,8,9,10,11,12,13,14,15,16,17] 14 _ V V Z (.cons_cons _ (.cons _ (.cons_cons _ .slnil)))<|FB ?_;refine FC (yK (z:=((La+1:Nat):Int)) Z Z Z (MW some C) (wrap_i64 C C)) ?_;refine FC (xd Z Z N) ?_;refine FC (yK (z:=((c:Nat):Int)) Z Z Z (MW some C) (wrap_i64 C C)) ?_;refine ab.nil<|bK 1 Z Z Z Z Z Z Z N (yX _) GK GK C fun q2 q=>⟨.cons_cons _ (.cons _ (.cons_cons _ .slnil)),?_⟩;obtain⟨W,U⟩:=q2;rw [zhw,<-CB,K];rw [K] at q
    refine Fh ?_;obtain⟨Rl,u⟩:∃ l,l=dig (m*2^f)++List.replicate c 0:=⟨_,Z⟩;rw [<-u];have F:wZ Rl:=by rw [u];exact JD (xe _) (ve _)
    have H:Rl.length=La+1:=by rw [u,Aw,CN,K]
    have E:val Rl=m*2^f:=by rw [u,YD,wi,xu,CM,At]
    refine zU 11 V<|zg ?_;refine Fi (xd Z Z q) ?_;refine Do cnt ?_;refine aG Z Z Z Z Z Z Z (Af _) C GH fun w R=>Fh ?_;refine Fl Z Z zq3 ?_;refine zH (vO (De (l₁:=Xc X W U (La+1) Rl (dig (n*2^f)))).symm)<|kg Z Z (zoD F (xe _) q H C f6 C GH E (xu _) f7) (fun ss h=>zuF h) J Z
     (fun k h i=>i=(0,false)/\k<=cnt/\∃ out,wZ out/\out.length=cnt/\(∀j,cnt-k<=j->j<cnt->limb out j=m*2^f/(n*2^f)/Wa j%4294967296)/\h=[rowE (some (w,cnt)) 125 1 cnt (out.flatMap wB),⟨some b4,42,[eqS (rowV (some (w,cnt)) cnt)],0⟩])
     (fun _ _ _=>False) ⟨Z,BL _,List.replicate cnt 0,ve _,CN,fun j h1 h2=>by omega,Z⟩ ?_ ?_ ?_
    .rintro l k ss h i hk ⟨rfl,_,out,s,t,Y,rfl⟩;obtain⟨a9,rfl⟩:=zq1 hk;obtain⟨p,hp⟩:∃ p,p=cnt-1-k:=⟨_,Z⟩;obtain⟨z,A⟩:∃ z,z=m*2^f/(n*2^f)/Wa p%4294967296:=⟨_,Z⟩;rw [<-hp,<-A];have a1:z<4294967296:=by rw [A];exact Be _ J
     refine Fh ?_;refine⟨Z,?_⟩;refine zg ?_;refine zo (xG Z Z Z C) ?_;refine ae.storeRow 0 Z Z Z Z Z C Z Z<|zM ⟨Z,C,out.set p z,Zy s a1,by grind,fun j h1 h2=>?_,Z⟩
     by_cases e:j=p
     .rw [e,Xb C,A]
     .rw [vi (fun h=>e h.symm)];grind
    .rintro h H2 i D ⟨rfl,_,out,s,t,Y,rfl⟩ ⟨R2,x,P,o,rfl⟩;rw [UK] at Y o
     replace o:=o Z;rw [Nat.mul_mod_mul_right] at o
     have a2:=zq2 s t f8 f7 fun j hj=>Y j C hj;have i1:IsNat out (m/n):=⟨s,a2⟩;have i2:IsNat R2 (m%n*2^f):=⟨x,o⟩;refine zH (zhr 1 0 0 Z Z Z q P Z yZ GK)<|zH (zhr 1 1 0 Z Z Z R t Z yZ GK)<|Fw 9 ?_;refine Fl Z Z (wG GH) ?_;refine Fl Z Z (wG GH) ?_;refine zo (zb Z Z (zou C (by unfold cap;have h9:(dig (m%n*2^f)).length<=R2.length:=zT (by rw [<-i2.val];exact wz x);omega))) ?_
     refine zM<|zw ?_;refine Fi ((yt Z Z).sub (show ∀I v,(zD (dig (m%n*2^f/2^f))).den I v->(zD (dig (if n=0 then 0 else m%n))).den I v from fun I v h=>by rw [MY d,<-Nat.mul_div_cancel (m%n) (C4 f)];omega)) ?_
     exact zj (zu (e:=by grind))
    simp
def zkf {x y:Nat} (hx:x<4294967296) (hy:y<4294967296):qG .and .u32 x y=((x &&& y:Nat):Int):=by
 have h:x &&& y<2^32:=Nat.and_lt_two_pow _ GN;have a:(BitVec.ofInt 32 (x:Int)).toNat=x:=by simp;omega
 have e2:(BitVec.ofInt 32 (y:Int)).toNat=y:=by simp;omega
 show IntKind.u32.wrap ((BitVec.ofInt 32 (x:Int) &&& BitVec.ofInt 32 (y:Int)).toNat:Nat)=_;rw [BitVec.toNat_and,a,e2,vt C (by omega)]
def p32 {s:Nat} (a:s<32):4294967296=2^s*(2*2^(31-s)):=by
 rw [<-Nat.pow_succ',<-Ct,(C:s+(31-s).succ=32)]
def zq4 {a:G7} (c:wZ a) (p:Nat):limb a (p/32)/2^(p%32)%2=val a/2^p%2:=by
 have b:p%32<32:=Be _ J;rw [VQ c,ub p,<-CQ];generalize val a/4294967296^(p/32)=y;rw [p32 b,C2,Nat.mod_mul_right_mod]
def zq5 {q:G7} (hq:wZ q) {Q p:Nat} (h:val q=Q*2^(p+1)):limb q (p/32)%2^(p%32+1)=0/\limb q (p/32)+2^(p%32)<4294967296:=by
 have d:p%32<32:=Be _ J;have hp:0<4294967296^(p/32):=CS J;have b:4294967296=2^(p%32+1)*2^(31-p%32):=by rw [<-Ct,(C:p%32+1+(31-p%32)=32)]
 have a:limb q (p/32)=2^(p%32+1)*(Q%2^(31-p%32)):=by
  rw [VQ hq,h,Ch,ub p,show Q*(4294967296^(p/32)*2^(p%32)*2)=4294967296^(p/32)*(2^(p%32+1)*Q) by grind,C8 _ hp,b,Nat.mul_mod_mul_left]
 refine⟨by simp_all,?_⟩;have h1:Q%2^(31-p%32)+1<=2^(31-p%32):=Be _ (C4 _);have c:=Cq (2^(p%32+1)) h1;grind
def zoE {X X' n bt:Nat} (a:0<n) (d:X'=2*X+bt) (f:bt<2):
 (2*(X%n)+bt<n->X'/n=2*(X/n)/\X'%n=2*(X%n)+bt)/\(n<=2*(X%n)+bt->X'/n=2*(X/n)+1/\X'%n=2*(X%n)+bt-n):=by
 have h1:=CY X n;have g:=Be X a;have c:X'=n*(2*(X/n))+(2*(X%n)+bt):=by rw [d,Nat.mul_left_comm];omega
 refine⟨fun h=>?_,fun h=>?_⟩
 .rw [c,Nat.mul_add_div a,Nat.mul_add_mod,CT h,CZ h];omega
 .have e:X'=n*(2*(X/n)+1)+(2*(X%n)+bt-n):=by rw [c,Ci n];omega
  have b:2*(X%n)+bt-n<n:=C;rw [e,Nat.mul_add_div a,Nat.mul_add_mod,CT b,CZ b];omega
def zq6 (m p:Nat):m/2^p=2*(m/2^(p+1))+m/2^p%2:=by
 rw [Ch,<-CQ];omega
def qQ {a b:G7} {m n:Nat} [M:IsNat a m] [hn:IsNat b n] (hs:a.length+10000<=cap) (w:b.length+10000<=cap):G0 G 140 [zD a,zD b] (yR [zD (dig (m/n)),zD (dig (if n=0 then 0 else m%n)),MK (if n=0 then 30 else 0)]):=by
 unfold cap at hs w
 have a2:(dig n).length<=b.length:=zT Gw;refine Fq func140 ?_;refine Fl Z Z (xV GH) ?_;refine FQ ?_ ?_<;>intro _ S
 .have d:n=0:=yH.1 (by omega);refine zr<|zo ((yt Z Z).sub (vz (l:=dig (m/n)) (uv.2 (by grind)))) ?_;refine Fi ((yt Z Z).sub (vz (l:=dig (if n=0 then 0 else m%n)) (by simp_all))) ?_
  exact zj (zu (e:=by grind))
 .have d:n≠0:=fun h=>S (by rw [h,ay];rfl)
  have L:=C7 d;have hL:(dig n).length≠0:=fun h=>d (yH.1 h);obtain⟨fr,c1⟩:∃ fr,fr=a.length+1-(dig n).length:=⟨_,Z⟩;have c2:fr<=a.length:=by omega
  have D:m/2^(32*fr)=val (a.drop fr):=by rw [show 2^(32*fr)=4294967296^fr from by rw [CX],<-M.val];exact qO M.lim fr
  have U:m/2^(32*fr)<n:=by
   rw [D];refine Ah (wz (uC M.lim fr)) (Ag (Cm J ?_) (nF d));rw [Cc];omega
  refine aG Z Z Z Z Z Z Z (Af _) (by omega) GH fun t a6=>zg ?_;refine Fl Z Z (xV GH) ?_;refine Fi (yK (z:=((a.length:Nat):Int)-(((dig n).length:Nat):Int)) Z Z Z (MW some (by rfl)) (wrap_i64 (by omega) (by omega))) ?_;refine zo (yK (z:=((a.length:Nat):Int)-(((dig n).length:Nat):Int)+1) Z Z Z (MW some (by rfl)) (wrap_i64 (by omega) (by omega))) ?_;refine zo ((Yb Z Z Z).sub (zI (n:=((fr:Nat):Int)) (by omega))) ?_;refine zg ?_;refine ae.buildRow Z Z Z Z Z Z J Z (.inl Z) Z Z fun c4 a5=>zg ?_;refine Fi ((xU (m:=0) Z Z (.inr ⟨_,_,Z,Z⟩) (.inl ⟨Z,Z,Z⟩) (.inl Z) (by omega) (Af _)).sub (show ∀I v,_->(zD (a.drop fr)).den I v from fun I v h=>by rw [B3] at h;exact h)) ?_;refine FL 0 Z Z Z Z a5 Z fun b7 Y=>?_;refine ae.ghost _ Z (yF 0 32 Z Z Y B Z yZ GF) ?_
  have i1:IsNat (a.drop fr) (m/2^(32*fr)):=⟨uC M.lim fr,D.symm⟩;refine Fl Z Z (xV GD) ?_;refine Do (32*fr) ?_;refine Fi (yK (z:=((32*fr:Nat):Int)-1) Z Z Z (MW some (by rfl)) (wrap_i64 (by omega) (by omega))) ?_;refine xz (fun g q=>⟨_,[(10,MK (((g:Nat):Int)-1)),(9,zD (dig (m/2^g%n))),(7,eqS (rowV (some (t,a.length)) a.length)),(1,zD b),(0,zD a)],[rowE (some (t,a.length)) 125 1 a.length (q.flatMap wB)],[],(0,false)⟩)
   (fun g q=>g<=32*fr/\wZ q/\q.length=a.length/\val q=m/2^g/n*2^g) (fun g q=>g)
   (32*fr) (List.replicate a.length 0) ⟨Af _,ve _,CN,by rw [wi,CT U,Ca]⟩ (an (aa Z (xm Z (MW (fun x=>zD (dig x)) (CZ U).symm) zk)) Z) ?_
  rintro g q ⟨hg,A,N,o⟩;refine Fh ?_;refine zd ?_ ?_<;>intro _ a8
  .obtain⟨p,rfl⟩:∃ p,g=p+1:=⟨g-1,by omega⟩
   have b1:p%32<32:=Be _ J;have c0:=iT b1;obtain⟨r,hr⟩:∃ r,r=m/2^(p+1)%n:=⟨_,Z⟩;rw [<-hr];have b2:r<n:=by rw [hr];exact Be _ L
   have W:=Ag (zT (Nat.lt_trans b2 (xE (Af _)))) a2;obtain⟨bt,P⟩:∃ bt,bt=m/2^p%2:=⟨_,Z⟩;have a3:bt<2:=by rw [P];exact Be _ J
   have s:=zoE (X':=m/2^p) L (by rw [P];exact zq6 m p) a3;rw [<-hr] at s
   have a9:p/32<a.length:=by omega
   have a4:=zq4 M.lim p;rw [M.val,<-P] at a4
   have c3:=yV M.lim (p/32);have b9:=yV A (p/32);obtain⟨b4,b3⟩:=zq5 A o;have b6:limb a (p/32)/2^(p%32)<=limb a (p/32):=Cu _ _;refine zB<|yL (K:=fun S1=>∃ R,wZ R/\R.length=a.length/\val R=m/2^p/n*2^p/\aC S1 ⟨85,[(9,zD (dig (m/2^p%n))),(10,MK (((p+1:Nat):Int)-1)),(7,eqS (rowV (some (t,a.length)) a.length)),(1,zD b),(0,zD a)],[rowE (some (t,a.length)) 125 1 a.length (R.flatMap wB)],[],(0,false)⟩) ?_ ?_
   .refine zg ?_;refine zo (zb Z Z (zhD (k:=1) (by simp) GH)) ?_;refine zg ?_;refine yL (K:=fun S1=>aC S1 (⟨85,[(9,zD (dig (2*r+bt))),(10,MK (((p+1:Nat):Int)-1)),(7,eqS (rowV (some (t,a.length)) a.length)),(1,zD b),(0,zD a)],[rowE (some (t,a.length)) 125 1 a.length (q.flatMap wB)],[],(0,false)⟩)) ?_ ?_
    .refine zr<|zz ?_;refine Fi ((zC Z Z).sub (zI (C:((p+1:Nat):Int)-1=((p:Nat):Int)))) ?_;refine Fi ((vl Z Z Z (by simp) (by simp) (wrap_i64 (by omega) (by omega))).sub (zI (n:=((p/32:Nat):Int)) (by rfl))) ?_;refine zo (zh Z Z Z (by omega) (y:=limb a (p/32)) (xN a9)) ?_;refine zz ?_;refine Fi ((zC Z Z).sub (zI (C:((p+1:Nat):Int)-1=((p:Nat):Int)))) ?_;refine Fi ((wt Z Z Z (by simp) (by simp)).sub (zI (n:=((p%32:Nat):Int)) (by rfl))) ?_;refine zA ?_;refine Fi ((wH Z Z Z C GA).sub (zI (gY _ _))) ?_;refine Fi ((vg Z B Z Z).sub (zI ((zkf (by omega) J).trans (by rw [Nat.and_one_is_mod,a4])))) ?_;refine FQ ?_ ?_<;>intro _ a7
     .apply zJ;have i2:Sz (dig (r*2^1)) (b.length+1):=⟨zT (by have h9:=xE W;omega)⟩
      refine zz ?_;refine Fi (xj [1] Z Z J Z B Z Z Z) ?_;refine Fl Z Z (XY GH) ?_;exact aA (xm Z (MW (fun x=>zD (dig x)) C) zk)
     .exact aA (xm Z (MW (fun x=>zD (dig x)) C) zk)
    .intro S1 Q;refine xq Q<|zg ?_;refine Fl Z Z (Vj (by have h9:(dig (2*r+bt)).length<=b.length+1:=zT (by have h9:=xE W;omega);unfold cap;omega)) ?_
     refine FQ ?_ ?_<;>intro _ u
     .have O:n<=2*r+bt:=by rcases Ab (2*r+bt) n with h | h;rw [MX h] at u;cases u;exact h
      obtain⟨H,w⟩:=s.2 O;have F:val (q.set (p/32) (limb q (p/32)+2^(p%32)))=m/2^p/n*2^p:=by
       have b0:=VP (l:=q) (j:=p/32) (limb q (p/32)+2^(p%32)) (by omega);rw [H,Bs,CH,Ck 2,Cj,<-Nat.pow_succ',<-o,ub p];rw [Ci] at b0;omega
      apply zr;(iterate 2 refine zz ?_);refine zM<|zJ<|zz ?_;refine Fi ((zC Z Z).sub (zI (C:((p+1:Nat):Int)-1=((p:Nat):Int)))) ?_;refine zo ((vl Z Z Z (by simp) (by simp) (wrap_i64 (by omega) (by omega))).sub (zI (n:=((p/32:Nat):Int)) (by rfl))) ?_;refine zz ?_;refine Fi ((zC Z Z).sub (zI (C:((p+1:Nat):Int)-1=((p:Nat):Int)))) ?_;refine Fi ((vl Z Z Z (by simp) (by simp) (wrap_i64 (by omega) (by omega))).sub (zI (n:=((p/32:Nat):Int)) (by rfl))) ?_;refine Fi (xG Z Z Z (by omega)) ?_;refine zo (ua 0 Z Z Z C) ?_;refine Fi ((zC Z Z).sub (zI (C:((p+1:Nat):Int)-1=((p:Nat):Int)))) ?_;refine Fi ((wt Z Z Z (by simp) (by simp)).sub (zI (n:=((p%32:Nat):Int)) (by rfl))) ?_;refine zA ?_;refine zo ((ZC Z Z Z (by omega) GA).sub (zI (n:=((2^(p%32):Nat):Int)) (by have:=gZ 1 (p%32);rw [CH] at this;refine (MW _ this).trans ?_;exact vt C C))) ?_
      refine Fi ((vg Z B Z Z).sub (zI (by rw [Vl (by omega) (by omega),zqR b4 (Nat.pow_lt_pow_right J (by omega))]))) ?_;refine zo (xG Z Z Z (by omega)) ?_;refine ae.storeRow 0 Z Z Z Z Z C Z Z<|zM ?_
      exact⟨q.set (p/32) (limb q (p/32)+2^(p%32)),Zy A b3,by grind,F,an (xm Z (MW (fun x=>zD (dig x)) w.symm) zk) Z⟩
     .have O:2*r+bt<n:=by rcases Ab (2*r+bt) n with h | h;exact h;rw [MY (by omega)] at u;exact M1 Z u
      obtain⟨H,w⟩:=s.1 O;have F:val q=m/2^p/n*2^p:=by rw [H,Ck 2,Cj,<-Nat.pow_succ',<-o]
      exact⟨q,A,N,F,an (xm Z (MW (fun x=>zD (dig x)) w.symm) zk) Z⟩
   .rintro S1 ⟨R,a0,a1,E,Q⟩;refine xq Q<|zg ?_;refine Fi (yK (z:=((p:Nat):Int)-1) Z Z Z (MW some (by simp)) (wrap_i64 (by omega) (by omega))) ?_
    exact⟨p,R,⟨by omega,a0,a1,E⟩,by simp,MM⟩
  .have b5:g=0:=by omega
   subst b5;rw [CG,CP,Cr] at o
   have i3:IsNat q (m/n):=⟨A,o⟩;refine zK<|Fs (yF 0 7 Z Z a6 N Z yZ GK) ?_;refine Fl Z Z (xV GH) ?_;refine zo (zb Z Z (xV (by unfold cap;have h8:(dig (m/2^0%n)).length<=b.length:=Ag (zT (Nat.lt_trans (Be _ L) (xE (Af _)))) a2;omega))) ?_
   refine zz ?_;refine Fi ((yt Z Z).sub (show ∀I v,(zD (dig (m/2^0%n))).den I v->(zD (dig (if n=0 then 0 else m%n))).den I v from fun I v h=>by grind)) ?_;exact zj (zu (e:=by grind))
variable {m n:Nat} {a b:G7}
def tz (m:Nat):Nat:=if h:m=0 then 0 else if m%2=1 then 0 else tz (m/2)+1
 termination_by m
 decreasing_by omega
def mM (h:m%2=1):tz m=0:=by
 unfold tz;grind
def zmv (a:m≠0) (h:m%2=0):tz m=tz (m/2)+1:=by
 rw [tz,M0 a,MY C]
def zq7 {u:Nat} (a:u%2=1):∀ t,tz (2^t*u)=t
 | 0=>by rw [CG,CH,mM a]
 | t+1=>by
  have b:2^t*u≠0:=Cb (Nat.ne_of_gt (C4 t)) C;have e:2^(t+1)*u=2*(2^t*u):=by rw [Ch];ac_rfl
  rw [e,zmv C (Nat.mul_mod_right _ _),C8 _ J,zq7 a t]
theorem zhJ:m≠0->∃ u,m=2^tz m*u/\u%2=1:=by
  induction m using Nat.strongRecOn with
  | ind m ih=>
    intro c
    by_cases h:m%2=1
    . exact⟨m,by rw [mM h,CG,CH],h⟩
    . obtain⟨u,b,a⟩:=ih (m/2) C C
      refine⟨u,?_,a⟩;rw [zmv c C,Ch,CW,<-b];omega
def g6 (N M both x y:Nat):Prop:=y≠0/\(x=0->y*2^both=Nat.gcd N M)/\(x≠0->∀ u v,u%2=1->v%2=1->x=2^tz x*u->y=2^tz y*v->2^both*Nat.gcd u v=Nat.gcd N M)
def zkh {N:Nat} (a:N≠0) (b:m≠0):g6 N m (min (tz N) (tz m)) N m:=
 ⟨b,fun h=>M1 h a,fun _ u v hu hv h1 h2=>by
  have:=zmt hu hv (tz N) (tz m)
  grind⟩
def zoG {N c x y u v:Nat} (h:g6 N m c x y) (hx:x≠0) (i:u%2=1) (g:v%2=1) (h1:x=2^tz x*u) (j:y=2^tz y*v):
 (v<=u->g6 N m c (u-v) v)/\(u<=v->g6 N m c (v-u) u):=by
 have e:=h.2.2 hx u v i g h1 j;have f:∀ a b,a%2=1->b%2=1->b<=a->2^c*Nat.gcd a b=Nat.gcd N m->g6 N m c (a-b) b:=fun a b ha hb d e=>by
  refine⟨C,fun k=>?_,fun k u2 v2 hu2 hv2 e1 e2=>?_⟩
  .grind
  .rw [mM hb,CG,CH] at e2;rw [<-e,<-e2,C6 u2,<-Kq hb (tz (a-b)),<-e1,C6,Nat.gcd_sub_self_left d]
 grind
def zez {x:Nat} (h:x≠0):∃ u,u%2=1/\x=2^tz x*u/\x/2^tz x=u/\u<=x:=by
 obtain⟨u,h1,b⟩:=zhJ h;have hp:=C4 (tz x);have a:x/2^tz x=u:=by rw [show x/2^tz x=2^tz x*u/2^tz x from MW (· / 2^tz x) h1,C8 _ hp]
 exact⟨u,b,h1,a,by rw [<-a];exact Cu _ _⟩
def zAo {k:Nat} (b:m≠0) (h:m<2^k):tz m<k:=by
 obtain⟨u,h1,e⟩:=zhJ b;rcases Ab (tz m) k with a | a
 .omega
 .exfalso;have d:2^k<=2^tz m:=Cm J a;have c:2^tz m<=m:=by
   have:2^tz m*1<=2^tz m*u:=Cq _ C;omega
  omega
def zq8 (_:wZ a) {i j:Nat} (c:∀ t,t<i->limb a t=0) (g:limb a i%2^j=0) (f:limb a i/2^j%2=1) (b:j<32):tz (val a)=32*i+j:=by
 have h1:low a i=0:=by
  have:low a i=low [] i:=qN fun t ht=>by rw [c t ht,uU]
  rw [this];exact vF (BL _)
 have e:limb a i=2^j*(limb a i/2^j):=by have:=CY (limb a i) (2^j);omega
 have d:val a=2^(32*i+j)*(limb a i/2^j+2*(2^(31-j)*val (a.drop (i+1)))):=by
  rw [Wx a i,h1,Br,Zp,Ct,CX,Cj,Ci (2^j),<-e,<-Cj 2,<-Cj (2^j),<-p32 b]
 rw [d];exact zq7 C _
def zoH [ao G] {a b:Nat} (f:a<18446744073709551616) (m:b<18446744073709551616):G0 G 425 [ze .u64 (a:Nat),ze .u64 (b:Nat)] (ze .u64 (Nat.gcd a b:Nat)):=by
 refine zs func425 ?_;refine Fh ?_;refine wO<|zi<|zr<|zz ?_;refine FE ?_ ?_<;>intro _ o
 .refine Ft ?_;refine Fi ((vg Z B Z Z).sub (zI (n:=((Nat.gcd a b:Nat):Int)) (by rw [Ws f m,(C:a=0),Nat.zero_or,Cv]))) ?_;exact Hj
 .refine Fo ?_ ?_<;>intro _ v
  .refine Fi ((vg Z B Z Z).sub (zI (n:=((Nat.gcd a b:Nat):Int)) (by rw [Ws f m,(C:b=0),Nat.or_zero,Df]))) ?_;exact Hj
  .have e:a≠0:=by omega
   have E:b≠0:=by omega
   obtain⟨j,q⟩:=zqX e E f m;obtain⟨_,_,L⟩:=YE e f;obtain⟨_,_,D⟩:=YE (fun h=>e (Nat.or_eq_zero_iff.1 h).1) (Cw (n:=64) f m);obtain⟨k,F⟩:∃ k,k=Lib.ctz 64 (a ||| b):=⟨_,Z⟩
   rw [<-F] at j D
   have I:=Cs (Nat.gcd_le_left b (C7 e)) f;obtain⟨s,i⟩:∃ x,x=a/2^Lib.ctz 64 a:=⟨_,Z⟩;rw [<-i] at j q
   have hx1:s<=a:=by rw [i];exact Cu _ _
   refine Fi ((vg Z B Z Z).sub (zI (Ws f m))) ?_;refine Fi ((zb Z Z (qM (Cw (n:=64) f m))).sub (zI (n:=((k:Nat):Int)) (by omega))) ?_;refine Fk (qM f) ?_;refine Fi ((wH Z Z Z (by omega) GA).sub (zI (n:=((s:Nat):Int)) ((gY _ _).trans (by rw [i])))) ?_;refine zi<|wN<|Fh ?_
   refine Xt [5] (fun x y z=>(1,ze .u64 (y:Nat))::(0,ze .u64 (x:Nat))::z) (fun x y=>[]) (fun x y=>x%2=1/\x<18446744073709551616/\y<18446744073709551616/\Nat.gcd a b=2^k*Nat.gcd x y) (fun x y=>x+y) s b ⟨q,by omega,m,j⟩ ?_;rintro x y ⟨p,A,g,c⟩;refine Fh ?_;refine Fo ?_ ?_<;>intro _ u
   .have d:y≠0:=by omega
    obtain⟨l,r⟩:=zoy p d g;obtain⟨_,_,K⟩:=YE d g;obtain⟨z,w⟩:∃ z,z=y/2^Lib.ctz 64 y:=⟨_,Z⟩;rw [<-w] at l r
    have H:z<=y:=by rw [w];exact Cu _ _
    refine Fk (qM g) ?_;refine Fi ((wH Z Z Z (by simp) GA).sub (zI (n:=((z:Nat):Int)) ((gY _ _).trans (by omega)))) ?_;refine Fo ?_ ?_<;>intro _ t
    .refine Do (z-x) ?_;exact⟨x,z-x,⟨p,A,by omega,by rw [c,<-l,Nat.gcd_sub_self_right C]⟩,by omega,MM⟩
    .refine Do (x-z) ?_;exact⟨z,x-z,⟨r,by omega,by omega,by rw [c,<-l,Nat.gcd_sub_self_right C,C6]⟩,by omega,MM⟩
   .have d:y=0:=by omega
    rw [d,Df,Ck] at c
    refine Fi ((ZC Z Z Z (by simp) GA).sub (zI (n:=((Nat.gcd a b:Nat):Int)) (by rw [gZ,<-c];exact xA C C))) ?_;exact Hj
def zq9 [ao G] [p:IsNat a m] [hn:IsNat b n] (r:a.length+b.length+10000<=cap):G0 G 337 [zD a,zD b] (zD (dig (Nat.gcd m n))):=by
 unfold cap at r
 have t:(dig m).length<=a.length:=zT (by rw [<-p.val];exact wz p.lim);have s:(dig n).length<=b.length:=zT Gw;refine Fq func337 ?_;refine Fl Z Z (wG GH) ?_;refine Fl Z Z (wG GH) ?_;refine Xt [] (fun x y z=>(1,zD (dig y))::(0,zD (dig x))::z) (fun x y=>[]) (fun x y=>(dig x).length<=a.length+b.length/\(dig y).length<=a.length+b.length/\Nat.gcd x y=Nat.gcd m n) (fun x y=>y) m n ⟨C,C,Z⟩ ?_;rintro x y ⟨q,k,c⟩;refine Fh ?_;refine Fo ?_ ?_<;>intro _ i
 .have f:y≠0:=fun h=>by rw [h,ay] at i;grind
  have j:=C7 f;have l:=Be x j;refine Fk JF ?_;refine zf JF ?_;refine zg ?_;refine yL (K:=fun S1=>aC S1 (⟨47,[(1,zD (dig y)),(0,zD (dig x))],[],[],(0,false)⟩)) ?_ ?_
  .refine zr<|FF ?_ ?_<;>intro d
   .refine FT ?_ ?_<;>intro g
    .refine zr<|zo ((zC Z Z).sub (zI (MX (MO d)))) ?_;refine Fi ((zC Z Z).sub (zI (MX (MO g)))) ?_;refine Fk (zoH (MO d) (MO g)) ?_;refine Fk (Ki (Cs (Nat.gcd_le_right x j) (MO g))) ?_;exact zj (zu (e:=by grind))
    .exact MM
   .refine Fu ?_;exact MM
  .intro S1 o;refine xq o<|zg ?_;refine zo (zb Z Z (Kr GH GH)) ?_;(iterate 2 refine zz ?_);refine Fi ((xp Z Z Z).sub (show ∀I v,(zD (dig (if y=0 then 0 else x%y))).den I v->(zD (dig (x%y))).den I v from fun I v h=>by grind)) ?_
   exact⟨y,x%y,⟨k,Ag (zT (Nat.lt_trans l (xE (Af _)))) k,by rw [C6,<-Nat.gcd_rec,C6,c]⟩,l,MM⟩
 .have f:y=0:=yH.1 C;rw [f,Df] at c
  exact zj (zu (e:=by grind))
def zhK {g:G7} [e:IsNat a m] [d:IsNat g n] (c:a.length+10000<=cap) (b:g.length+10000<=cap):G0 G 426 [zD a,yo [zD g]] (zD (dig (m/n))):=by
 refine Fq func426 ?_;refine Fk (Kr c b) ?_;exact Hj
def zuG {g:G7}:G0 G 338 [zD g] (wD 426 [yo [zD g]]):=by
 refine Fq func338 ?_;exact Hj
def zhL [ao G] [g:IsNat a m] [hn:IsNat b n] (f:a.length+b.length+10000<=cap):G0 G 235 [zD a,zD b] (yR [zD (dig (m/Nat.gcd m n)),zD (dig (n/Nat.gcd m n))]):=by
 have i:(dig (Nat.gcd m n)).length<=a.length+b.length:=by
  rcases Bm m with h | h
  .rw [h,Cv];exact Ag (zT Gw) (Nat.le_add_left _ _)
  .exact Ag (zT (Cs (Nat.gcd_le_left n h) (by rw [<-g.val];exact wz g.lim))) (Dg _ _)
 have e:=f;unfold cap at f
 refine Fq func235 ?_;refine Fk (zq9 e) ?_;refine FQ ?_ ?_<;>intro _ d
 .have c:Nat.gcd m n=0:=yH.1 C;refine zr<|zo ((yt Z Z).sub (vz (l:=dig (m/Nat.gcd m n)) (by simp_all))) ?_;refine Fi ((yt Z Z).sub (vz (l:=dig (n/Nat.gcd m n)) (by simp_all))) ?_
  exact Hj
 .refine Fk zuG ?_;refine Fi (yY Z Z Z (zhK GH GH)) ?_;refine Fi (yY Z Z Z (zhK GH GH)) ?_;exact Hj
def zhM {a b:Nat} (l:a<18446744073709551616) (k:b<18446744073709551616):G0 G 144 [ze .u64 (a:Nat),ze .u64 (b:Nat)] (ze .u64 (Nat.gcd a b:Nat)):=by
 refine Fq func144 ?_;refine Xt [] (fun x y z=>(1,ze .u64 (y:Nat))::(0,ze .u64 (x:Nat))::z) (fun x y=>[]) (fun x y=>x<18446744073709551616/\y<18446744073709551616/\Nat.gcd x y=Nat.gcd a b) (fun x y=>y) a b ⟨l,k,Z⟩ ?_;rintro x y ⟨j,f,c⟩;refine Fh ?_;refine Fo ?_ ?_<;>intro _ i
 .have d:0<y:=C;have h:=Be x d;refine wW 6 V<|zg ?_;refine Fi ((wt Z Z Z C C).sub (zI (Dc _ _).symm)) ?_;exact⟨y,x%y,⟨f,C,by rw [C6,<-Nat.gcd_rec,C6,c]⟩,h,MM⟩
 .have g:y=0:=C;rw [g,Df] at c
  exact zj (zu (e:=by grind))
def QA [l:IsNat a m] (H:m≠0) (v:a.length<=cap):G0 G 231 [zD a] (MK (tz m:Nat)):=by
 unfold cap at v
 refine zs func231 ?_;refine zg ?_;refine yL (K:=fun S1=>∃ i,i<a.length/\limb a i≠0/\(∀t,t<i->limb a t=0)/\aC S1 ⟨34,[(3,MK (32*i:Nat)),(0,zD a)],[],[],(0,false)⟩) ?_ ?_
 .refine zg ?_;refine Qj [0] (fun (i:Nat) z=>(4,ML i)::(3,MK (32*i:Nat))::z) (fun i=>[]) (fun i=>i<=a.length/\∀ t,t<i->limb a t=0) (fun i=>a.length-i) 0 ⟨BL _,fun t h=>by omega⟩ ?_;rintro i ⟨hi,c⟩;have b:(i=a.length\/limb a i≠0)->i<a.length/\limb a i≠0:=fun h=>by
   rcases h with h | h
   .exfalso;apply H;rw [<-l.val];have:val a=val []:=Zh fun t=>by rcases Ab t i with h1 | h1;rw [c t h1,uU];rw [wJ (by omega),uU]
    exact this
   .refine⟨?_,h⟩;rcases Ab i a.length with h1 | h1;exact h1;exact M1 (wJ h1) h
  refine zi<|zr ?_;(iterate 3 refine zz ?_);refine FE ?_ ?_<;>intro _ d
  .refine Fi (zh Z Z Z (by simp) (y:=limb a i) (xN (by omega))) ?_;refine Fo ?_ ?_<;>intro _ p
   .refine Do (32*(i+1)) ?_;refine Do (i+1) ?_;exact⟨i+1,⟨by omega,fun t ht=>by grind⟩,by omega,MM⟩
   .exact⟨i,(b (.inr C)).1,(b (.inr C)).2,c,MM⟩
  .refine Fu ?_;omega
 .rintro S1 ⟨i,s,r,c,u⟩;refine xq u ?_;have k:=yV l.lim i;refine Fh ?_;refine Fi ((vl Z Z Z (by omega) (by simp) (wrap_i64 (by simp) (by omega))).sub (zI (n:=((i:Nat):Int)) (by simp))) ?_;refine Fi (zh Z Z Z (by simp) (y:=limb a i) (xN s)) ?_;refine xz (fun j w=>⟨_,[(5,ze .u32 (w:Nat)),(3,MK (32*i+j:Nat))],[],[],(0,false)⟩) (fun j w=>w=limb a i/2^j/\j<32/\limb a i%2^j=0/\w≠0/\w<4294967296) (fun j w=>32-j) 0 (limb a i) ⟨by omega,J,by omega,r,k⟩ (aA (aa Z (aa Z trivial))) ?_;rintro j w ⟨q,E,f,D,A⟩;refine Fh ?_;refine Fi ((wt Z Z Z (by simp) (by simp)).sub (zI (n:=((w%2:Nat):Int)) (by rfl))) ?_;refine Fo ?_ ?_<;>intro _ o
  .have g:w/2=limb a i/2^(j+1):=by rw [Ch,<-CQ,q]
   refine Do (32*i+(j+1)) ?_;refine Fi ((vl Z Z Z (by simp) (by simp) (vt (by omega) (by omega))).sub (zI (n:=((w/2:Nat):Int)) (by rfl))) ?_;refine⟨j+1,w/2,⟨g,?_,?_,by omega,by omega⟩,by omega,MM⟩
   .grind
   .have h1:=CY (limb a i) (2^j);rw [f,At,<-q] at h1
    have F:limb a i=2^(j+1)*(w/2):=by rw [Ch,Cj,Nat.mul_div_cancel' (Nat.dvd_of_mod_eq_zero (by omega))];exact h1.symm
    rw [F,Nat.mul_mod_right]
  .exact zj (zu (e:=MW (fun x:Nat=>MK x) (by rw [<-l.val,zq8 l.lim c f (by omega) E])))
def zoI [Q:IsNat a m] [hn:IsNat b n] (X:32*max a.length b.length+1000<=65536):G0 G 145 [zD a,zD b] (zD (dig (Nat.gcd m n))):=by
 have H:(dig m).length<=a.length:=zT (by rw [<-Q.val];exact wz Q.lim);have F:(dig n).length<=b.length:=zT Gw;have p:∀ x,x≠0->(dig x).length<=max a.length b.length->tz x<=65536:=fun x h0 h=>by
  have h1:=xE h;rw [(FV:(4294967296:Nat)=2^32),<-CX] at h1
  have:=zAo h0 h1;omega
 have g:∀ x y,x<=y->(dig y).length<=max a.length b.length->(dig x).length<=max a.length b.length:=fun x y h h1=>zT (Cs h (xE h1));refine Fq func145 ?_;refine Fl Z Z (xV GH) ?_;refine zo (zb Z Z (xV GH)) ?_;refine zg ?_;refine zi<|zr ?_;(iterate 2 refine zz ?_);refine FE ?_ ?_<;>intro _ i
 .refine Ft ?_;have S:Sz (dig m) a.length:=⟨H⟩;have R:Sz (dig n) b.length:=⟨F⟩;refine Fl Z Z (XY GH) ?_;exact zj (zu (e:=by rw [show m=0 from yH.1 C,Cv,Br]))
 .refine Fo ?_ ?_<;>intro _ o
  .have S:Sz (dig m) a.length:=⟨H⟩;have R:Sz (dig n) b.length:=⟨F⟩;refine Fl Z Z (XY GH) ?_;exact zj (zu (e:=by rw [show n=0 from yH.1 C,Df,At]))
  .have q:m≠0:=fun h=>by rw [h,ay] at i;grind
   have E:n≠0:=fun h=>by rw [h,ay] at o;grind
   refine Fl Z Z (QA q GH) ?_;refine zo (zb Z Z (QA E GH)) ?_;refine Fi ((VH Z Z Z).sub (zI (n:=((min (tz m) (tz n):Nat):Int)) C)) ?_;refine Xt [5] (fun x y z=>(1,zD (dig y))::(0,zD (dig x))::z) (fun x y=>[]) (fun x y=>(dig x).length<=max a.length b.length/\(dig y).length<=max a.length b.length/\g6 m n (min (tz m) (tz n)) x y) (fun x y=>x+y) m n ⟨C,C,zkh q E⟩ ?_;rintro x y ⟨k,j,c⟩;refine Fh ?_;refine Fo ?_ ?_<;>intro _ l
   .have f:x≠0:=fun h=>by rw [h,ay] at l;grind
    obtain⟨u,P,O,N,t⟩:=zez f;obtain⟨v,M,L,K,r⟩:=zez c.1;obtain⟨D,A⟩:=zoG c f P M O L;refine Fl Z Z (QA f GH) ?_;refine Fi ((zb Z Z (zcp (p x f k) GH)).sub (show ∀I w,(zD (dig (x/2^tz x))).den I w->(zD (dig u)).den I w from fun I w h=>by grind)) ?_;refine Fl Z Z (QA c.1 GH) ?_;refine Fi ((zb Z Z (zcp (p y c.1 j) GH)).sub (show ∀I w,(zD (dig (y/2^tz y))).den I w->(zD (dig v)).den I w from fun I w h=>by grind)) ?_;refine Fk zes ?_;refine Fo ?_ ?_<;>intro _ d
    .have s:u<v:=by rcases Ab u v with h | h;exact h;unfold vK at d;rw [MY C] at d;split at d <;> omega
     refine Fl Z Z (Vj (by have:=g v y r j;unfold cap;omega)) ?_;exact⟨v-u,u,⟨g _ y C j,g _ x t k,A C⟩,C,MM⟩
    .have s:v<=u:=by rcases Ab u v with h | h;unfold vK at d;rw [MX h] at d;omega;exact h
     refine Fl Z Z (Vj (by have:=g u x t k;unfold cap;omega)) ?_;exact⟨u-v,v,⟨g _ x C k,g _ y r j,D s⟩,C,MM⟩
   .have f:x=0:=yH.1 C;have W:=c.2.1 f;have U:=p m q C;refine Fl Z Z (zhD C GH) ?_;exact zj (zu (e:=by grind))
end Go.Proofs
