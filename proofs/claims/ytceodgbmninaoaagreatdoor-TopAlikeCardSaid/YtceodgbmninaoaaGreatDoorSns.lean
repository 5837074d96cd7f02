/- Integers: sint. -/
import Derived.Test.YtceodgbmninaoaaGreatDoorSnk
import Derived.Test.YtceodgbmninaoaaGreatDoorSv1
set_option linter.all false
namespace Go.Proofs
open Go Go.Sv Num Tryz
variable {G:Imm}
variable {α:Type} {xs:List (Bool×G7)} {k j i:Nat} {z x:Int} {b c:Bool} {l m:G7} {cs a:List SV} {I:Imm}
def zhZ {P:Program} {G:Imm} {f:FuncId} {args:List SV} {e:Nat} (h:CallSpec P G f args [] (fun s H'=>∃ b,s=G9 b/\H'=[⟨some b,e,cs,0⟩])):zm P G f args (yo cs):=by
 refine⟨h.enters,fun I W vs h1 y w=>(h.main I W vs h1 y w).mono fun ed W' ⟨v,I',s,H',he,⟨b,hs,hH⟩,hv,hm,hh,hf⟩=>?_⟩;subst hs;subst hH;have u:=(hh.mem ⟨some b,e,cs,0⟩ B).some Z;obtain⟨z,c,q,o,m,l⟩:=u;simp only [At] at q o m l;have j:c.toList.take cs.length=c.toList:=BC (by grind)
 rw [j] at m l;have g:=aZ (c:=c) z
 refine⟨v,I'.with b c,_,[],he,⟨Z,Z⟩,⟨b,0,hv,c,by simp [Imm.with],fun i s hi=>?_⟩,⟨Imm.le_trans hm.glob g,fun k d a=>?_⟩,⟨by simp [bs],fun p hp=>by grind⟩,?_⟩
 .obtain⟨x,hx,t⟩:=l.get hi;refine⟨x,by grind,s.mono _ _ _ g t,m x (AE hx)⟩
 .unfold Imm.with at a
  split at a
  .grind
  .exact hm.mem _ _ a
 .refine⟨hf.os,hf.tape,hf.output,Imm.le_trans hf.imm g,hf.size,fun k a r=>hf.old k a r,fun k a hk'=>?_,fun k a=>by grind⟩;unfold Imm.with at hk'
  split at hk'
  .rename_i n;subst n;exact hf.own _ (by simp [bs])
  .exact hf.new k a hk'
abbrev vI (z:Int):List SV:=[zp (decide (z<0)),zD (dig z.natAbs)]
class Bz (z:Int) (k:outParam Nat):Prop where
 h:z.natAbs<4294967296^k
class IsZ (b:Bool) (l:G7) (z:outParam Int) (k:outParam Nat):Prop where
 lim:wZ l
 val:Zd b (Num.val l)=z
 len:l.length<=k
def Bz.len (h:Bz z k):(dig z.natAbs).length<=k:=zT h.h
instance isZ_can {z:Int} {k:Nat} [h:Bz z k]:IsZ (decide (z<0)) (dig z.natAbs) z k:=⟨xe _,by rw [xu,uq],h.len⟩
theorem IsZ.nat (h:IsZ b l z k):IsNat l z.natAbs:=⟨h.lim,by rw [<-h.val,uY]⟩
theorem IsZ.bz (h:IsZ b l z k):Bz z k:=⟨by
 rw [<-h.val,uY];exact Ah (wz h.lim) (Cm J h.len)⟩
def IsZ.can (h:IsZ b l z k):vI z=[zp (b&&decide (z.natAbs≠0)),zD (dig z.natAbs)]:=by
 have h1:=zmr b (Num.val l);rw [h.val] at h1
 have a:z.natAbs=Num.val l:=by rw [<-h.val,uY]
 grind
instance isZ_not {b:Bool} {l:G7} {z:Int} {k:Nat} [h:IsZ b l z k]:IsZ (!b) l (-z) k:=⟨h.lim,by rw [zuE,h.val],h.len⟩
theorem jh (h:wZ l):IsZ b l (Zd b (Num.val l)) l.length:=⟨h,Z,Af _⟩
instance bz_neg {z:Int} {k:Nat} [h:Bz z k]:Bz (-z) k:=⟨by rw [DC];exact h.h⟩
instance bz_add {x y:Int} {k l:Nat} [h:Bz x k] [h':Bz y l]:Bz (x+y) (k+l+1):=⟨Cs (DD x y) (je h.h h'.h)⟩
instance bz_sub {x y:Int} {k l:Nat} [h:Bz x k] [h':Bz y l]:Bz (x-y) (k+l+1):=⟨Cs (Int.natAbs_sub_le x y) (je h.h h'.h)⟩
instance bz_mul {x y:Int} {k l:Nat} [h:Bz x k] [h':Bz y l]:Bz (x*y) (k+l):=⟨by
 rw [DE,Ct];exact DF h.h h'.h⟩
instance bz_zero:Bz 0 0:=⟨J⟩
instance bz_one:Bz 1 1:=⟨J⟩
instance bz_nat {n:Nat} {k:Nat} [h:Bd n k]:Bz (n:Int) k:=⟨h.h⟩
theorem Un {l:Nat} (h:Bz z k) (a:k<=l):Bz z l:=⟨Ah h.h (Cm J a)⟩
instance isZ_whole {l:G7} {n k:Nat} [h:IsNat l n] [a:Sz l k]:IsZ false l (n:Int) k:=⟨h.lim,by rw [h.val];rfl,a.h⟩
abbrev zc (p:Bool×List Nat):List SV:=[zp p.1,zD p.2]
def zv (p:Bool×G7):Int:=Zd p.1 (Num.val p.2)
def uZ {β:Type} (f:β->α->β) (a:β) {l:List α} {x:α} (h:l[i]? =some x):(l.take (i+1)).foldl f a=f ((l.take i).foldl f a) x:=by
 rw [Cz,h];simp
def eb (xs:List (Bool×G7)) (i:Nat):Nat:=((xs.take i).map fun p=>p.2.length+1).sum
def Xe {p:Bool×G7} (h:xs[i]? =some p):eb xs (i+1)=eb xs i+(p.2.length+1):=Vh (fun p:Bool×G7=>p.2.length+1) h
def UO (xs:List (Bool×G7)) (i:Nat):eb xs i<=eb xs xs.length:=by
 have:=Wv (fun p:Bool×G7=>p.2.length+1) xs i;unfold eb;grind
def gD (xs:List (Bool×G7)):List (List SV):=xs.map fun p=>[yo (vI (zv p))]
def UP:(gD xs).length=xs.length:=by simp [gD]
def zh0 (h:(gD xs)[i]? =some a):∃ p,xs[i]? =some p/\a=[yo (vI (zv p))]:=by
 simp only [gD,Ba,DB] at h
 grind
def zmA (h:a∈gD xs):a.length=1:=by
 obtain⟨i,_,rfl⟩:=Bc.1 h;rfl
def XE {st:Nat} {f:α->List SV} (l:List α) {v:Value} (h:(zR st id (l.map f)).den I v):(zR st f l).den I v:=by
 obtain⟨a,cap,d,h1,e,c⟩:=h;simp only [BR] at d h1 e
 refine⟨a,cap,d,h1,e,?_⟩;simp_all
def zAq:[zp false,zD []]=vI 0:=by
 show _=[zp (decide ((0:Int)<0)),zD (dig (0:Int).natAbs)];rw [(FV:(0:Int).natAbs=0),ay];rfl
def zuN {ds:List SV} (h:cJ cs ds) (I:Imm) (v:Value) (a:(zl cs).den I v):(zl ds).den I v:=by
 obtain⟨xs,a,b,h1⟩:=a;exact⟨xs,a,h.dens b,h1⟩
def zrp (I:Imm) (v:Value) (h:(zl [eqS (.bool false),G8]).den I v):(zl (vI 0)).den I v:=by
 rw [<-zAq];exact zuN (cs:=[eqS (.bool false),G8]) (ds:=[zp false,zD []]) ⟨fun _ _ h=>h,vz Z,trivial⟩ I v h
def Wc {d:Nat} [h:IsZ b l z k] (f:k<=cap:=by decide):CallSpec prog G 424 [G9 d] [⟨some d,399,[zp b,zD l],0⟩] (fun s H'=>s=G9 d/\H'=[⟨some d,399,vI z,0⟩]):=by
 have g:=h.nat;have e:=h.len;have c:=h.can;refine Fq func424 ?_;refine zo (zb Z Z (wG C)) ?_;(iterate 3 refine zz ?_);refine zw ?_;apply zx;(iterate 5 refine zz ?_);refine FG (zQ 0 Z Z Z Z) ?_ ?_<;>intro a
 .exact zj ⟨_,[_],.one (.tmp Z),Dd _,Z,by rw [c,a,C5];exact MW (fun x:Bool=>[(⟨some d,399,[zp x,zD (dig z.natAbs)],0⟩:HE)]) (decide_eq_decide.2 (by have:=yH (n:=z.natAbs);omega))⟩
 .exact zj ⟨_,[_],.one (.tmp Z),Dd _,Z,by rw [c,a];rfl⟩
def nA [h:IsZ b l z k] (c:k<=cap:=by decide):CallSpec prog G 336 [zl [zp b,zD l]] [] (fun s H'=>∃ a,s=G9 a/\H'=[⟨some a,399,vI z,0⟩]):=by
 refine zs func336 ?_;apply zr;(iterate 2 refine zz ?_);apply zx;(iterate 2 refine zz ?_);refine ae.box Z Z Z Z Z Z fun a=>aE 0 Z Z Z Z (Wc c) Z Z Z ?_;rintro s1 H1 ⟨rfl,rfl⟩;refine zg ?_;exact zj ⟨_,[_],.one (.tmp Z),Dd _,a,Z,Z⟩
def oj [h:IsZ b l z k] (a:k<=cap:=by decide):G0 G 336 [zl [zp b,zD l]] (yo (vI z)):=zhZ (nA a)
def JI [h:IsZ b l z k] (a:k<=cap:=by decide):G0 G 234 [zl [zp b,zD l]] (zl (vI z)):=by
 refine Fq func234 ?_;refine Fm fun b2=>?_;refine Fl Z Z (oj a) ?_;exact zj zt
def zkv (d:(dig z.natAbs).length<=cap):G0 G 468 [yo (vI z)] (MK z.sign):=by
 unfold cap at d
 have f:=yH (n:=z.natAbs);obtain⟨i,hi⟩:∃ i,i=min (dig z.natAbs).length 1:=⟨_,Z⟩;have c:i=0\/i=1:=by omega
 refine Fq func468 ?_;refine yT fun g=>?_;refine zw ?_;apply zx;(iterate 6 refine zz ?_);refine Fi ((VH Z Z Z).sub (zI (n:=((i:Nat):Int)) (by omega))) ?_;refine Fp ?_ ?_<;>intro a
 .have b:=MO a;refine zo (Xa (i:=2) Z Z Z J Z) ?_;refine Fi ((zQ 0 Z Z Z Z).sub (zI (n:=z.sign) (by grind))) ?_;exact zj zt
 .have b:=MP a;refine zo (Xa (q:=i) Z Z Z (by omega) (by omega)) ?_;refine Fi (zQ (s:=MK z.sign) 0 Z Z Z (by rcases c with e | e;rw [(C:z=0),e];rfl;rw [DH (by omega),e];rfl)) ?_;exact zj zt
def zcD [h:IsZ b l z k] (a:k<=cap:=by decide):G0 G 397 [zl [zp b,zD l]] (MK z.sign):=by
 have c:=h.bz.len;refine Fq func397 ?_;refine Fk (oj a) ?_;refine Fl Z Z (zkv C) ?_;exact zj zt
def zkw {y:Int} {m:Nat} [hx:Bz x k] [hy:Bz y j] (r:k+j+10<=cap:=by decide):CallSpec prog G 482 [G9 m,yo (vI y)] [⟨some m,399,vI x,0⟩] (fun s H'=>s=yR []/\H'=[⟨some m,399,vI (x+y),0⟩]):=by
 unfold cap at r
 have q:=hx.len;have p:=hy.len;have v:Bd x.natAbs k:=⟨hx.h⟩;have u:Bd y.natAbs j:=⟨hy.h⟩;have l:=zT (je hx.h hy.h);have i:(dig (x.natAbs-y.natAbs)).length<=k:=zT (Cs (Nat.sub_le _ _) hx.h);have g:(dig (y.natAbs-x.natAbs)).length<=j:=zT (Cs (Nat.sub_le _ _) hy.h);refine Fq func482 ?_;refine Fw 11 ?_;refine Fi (zaM Z Z Z aP) ?_;refine Fp ?_ ?_<;>intro d
 .refine Fw 16 ?_;refine Fl Z Z (Vi GH) ?_;have b:=MU.1 d;have n:IsZ (decide (x<0)) (dig (x.natAbs+y.natAbs)) (x+y) (k+j+1):=⟨xe _,by rw [xu];unfold Zd;grind,l⟩
  refine aE 0 Z Z Z Z (Wc GH) Z Z Z ?_;rintro s1 H1 ⟨rfl,rfl⟩;exact zM<|zj ⟨_,[_],.none,Dd _,Z,Z⟩
 .have b:=MT.1 d;have o:x<0↔¬ y<0:=by by_cases h1:x<0 <;> by_cases t:y<0 <;> simp [h1,t] at b ⊢
  refine Fw 16 ?_;refine Fl Z Z (od GH) ?_;refine Fo ?_ ?_<;>intro _ a
  .have f:x.natAbs<y.natAbs:=by rcases Ab x.natAbs y.natAbs with h | h;exact h;rw [MY C] at a;exact M1 Z a
   refine Fw 15 ?_;refine Fl Z Z (od GH) ?_;have n:IsZ (decide (y<0)) (dig (y.natAbs-x.natAbs)) (x+y) j:=⟨xe _,by rw [xu];unfold Zd;grind,g⟩
   refine aE 0 Z Z Z Z (Wc GH) Z Z Z ?_;rintro s1 H1 ⟨rfl,rfl⟩;exact zM ⟨_,[_],.none,Dd _,Z,Z⟩
  .have f:y.natAbs<=x.natAbs:=by rcases Ab x.natAbs y.natAbs with h | h;rw [MX h] at a;cases a;exact h
   have n:IsZ (decide (x<0)) (dig (x.natAbs-y.natAbs)) (x+y) k:=⟨xe _,by rw [xu];unfold Zd;grind,i⟩
   refine aE 0 Z Z Z Z (Wc GH) Z Z Z ?_;rintro s1 H1 ⟨rfl,rfl⟩;exact zM ⟨_,[_],.none,Dd _,Z,Z⟩
def zkx {y:Int} {b:Nat} [hx:Bz x k] [hy:Bz y j] (c:8*(k+j)+100<=cap:=by decide):CallSpec prog G 400 [G9 b,yo (vI y)] [⟨some b,399,vI x,0⟩] (fun s H'=>s=yR []/\H'=[⟨some b,399,vI (x*y),0⟩]):=by
 have a:=c;unfold cap at c
 have f:Bd x.natAbs k:=⟨hx.h⟩;have e:Bd y.natAbs j:=⟨hy.h⟩;have d:IsZ (!(decide (x<0)==decide (y<0))) (dig (x.natAbs*y.natAbs)) (x*y) (k+j):=⟨xe _,by rw [xu];exact (zms _ _ _ _).trans (by rw [uq,uq]),zT (by have:=(bz_mul (x:=x) (y:=y)).h;rwa [DE] at this)⟩
 refine Fq func400 ?_;refine UG 27 _ V Z (.cons _ .slnil)<|FB ?_;refine FC (Uy Z Z Z aP) ?_;refine FC (zb Z Z (Kn a)) ?_;refine ab.nil<|aU.store 0 Z Z Z Z Z Z Z Z (.cons _ .slnil)<|zg ?_;refine aE 0 Z Z Z Z (Wc GH) Z Z Z ?_;rintro s1 H1 ⟨rfl,rfl⟩;exact zM ⟨_,[_],.none,Dd _,Z,Z⟩
def zcE (j:∀ p∈xs,wZ p.2) (i:∀ p∈xs,p.2.length<=cap):xc prog G 469 [yo [zR 2 zc xs]] (gD xs):=by
 refine xM func469 Z Z Z Z fun l E hy=>Fh ?_;refine uM 5 Z fun f=>?_;unfold yE at f;refine xi (fun g=>⟨_,[(7,ML g),(6,MK xs.length),(5,zR 2 zc xs),(0,yieldS l),(1,yo [zR 2 zc xs])],[],[],(g,false)⟩) (fun g=>g<=xs.length) (fun g=>xs.length-g) 0 (BL _) MM ?_;intro g m;refine Fh ?_;refine Fo ?_ ?_<;>intro _ h
 .obtain⟨⟨b,d⟩,hp⟩:=FU xs g;have c:=AE hp;have k:IsZ b d (zv (b,d)) d.length:=jh (j _ c);have e:=i _ c;refine Fh ?_;refine Fm fun n=>?_;refine Fk (oj e) ?_;refine ae.yield Z hy Z Z Z (by simp only [gD,Ba,hp];rfl) (yU _) Z Z Z fun y=>zg ?_;refine xK ?_ ?_<;>intro a
  .exact zj ⟨.inl Z,.inr a⟩
  .refine zB<|Fs (zF (BZ _)) ?_;refine Do (g+1) ?_;exact⟨g+1,(by omega:g+1<=xs.length),by omega,Z,zk,wq _,Z,by grind⟩
 .exact⟨.inr Z,.inl (by rw [UP,(C:g=xs.length)])⟩
def zeG:G0 G 399 [zR 2 zc xs] (wD 469 [yo [zR 2 zc xs]]):=by
 refine Fq func399 ?_;exact zj zt
def oi {n:Int} (h1: -9223372036854775808<=n) (b:n<=9223372036854775807):G0 G 215 [MK n] (zl (vI n)):=by
 refine Fq func215 ?_;refine Fm fun b2=>?_;refine Fo ?_ ?_<;>intro _ a
 .refine Fi (yO (z:=18446744073709551616+n) Z Z GQ) ?_;refine Fi ((mW Z Z).sub (zI (n:=((n.natAbs:Nat):Int)) GQ)) ?_;refine Fl Z Z (Ki C) ?_;exact zj (zu (e:=by rw [show vI n=[zp true,zD (dig n.natAbs)] by grind];rfl))
 .refine Fi (yO (z:=((n.natAbs:Nat):Int)) Z Z GQ) ?_;refine Fl Z Z (Ki C) ?_;exact zj (zu (e:=by rw [show vI n=[zp false,zD (dig n.natAbs)] by grind];rfl))
def zoR (o:∀ p∈xs,wZ p.2) (u:eb xs xs.length+1000<=cap):G0 G 420 [zR 2 zc xs] (zl (vI (xs.foldl (fun z p=>z+zv p) 0))):=by
 unfold cap at u
 have n:∀ p∈xs,p.2.length<=cap:=fun p hp=>by
  obtain⟨i,hi⟩:=Dr hp;have h1:=Xe hi;have A:=UO xs (i+1);unfold cap;omega
 refine Fq func420 ?_;refine yT fun b2=>?_;refine zx<|Fi ((yQ Z Z Z).sub zrp) ?_;refine aH Z Z Z nA Z Z Z ?_;rintro s1 H1 ⟨q,rfl,rfl⟩;refine Fm fun x=>?_;refine Fk zeG ?_;refine uN Z Z (zcE o n) (fun r h=>zmA h) J Z
  (fun k h i=>i=(0,false)/\k<=xs.length/\Bz ((xs.take k).foldl (fun z p=>z+zv p) 0) (eb xs k+1)/\h=[⟨some x,400,[G9 q],0⟩,⟨some q,399,vI ((xs.take k).foldl (fun z p=>z+zv p) 0),0⟩,⟨some b2,44,[eqS (.bool false),G8],0⟩])
  (fun _ _ _=>False) ⟨Z,BL _,by rw [Di];exact Un (by show Bz 0 1;exact Un inferInstance J) C,Z⟩ ?_ ?_ ?_
 .rintro l k r h i w ⟨rfl,_,d,rfl⟩;obtain⟨p,hp,rfl⟩:=zh0 w;have v:=yJ hp;obtain⟨j,f⟩:∃ j,j=(xs.take k).foldl (fun z p=>z+zv p) 0:=⟨_,Z⟩;have a:=uZ (fun z p=>z+zv p) 0 hp;have m:=Xe hp;have t:=UO xs (k+1);rw [<-f] at d a ⊢
  have s:Bz (zv p) p.2.length:=(jh (o p (AE hp))).bz;refine Fh ?_;refine⟨Z,?_⟩;refine zg ?_;refine aE 1 Z Z Z Z (zkw GH) Z Z Z ?_;rintro s1 H1 ⟨rfl,rfl⟩;refine zM ⟨Z,C,?_,by rw [a];rfl⟩;rw [a,m];exact Un bz_add C
 .rintro h i D ⟨rfl,_,d,rfl⟩;rw [UP,B3];refine zg ?_;exact zj zt
 simp
def JJ {y:Int} [hx:IsZ b l x k] [hy:IsZ c m y j] (d:k+j+1100<=cap:=by decide):G0 G 420 [zR 2 id [[zp b,zD l],[zp c,zD m]]] (zl (vI (x+y))):=by
 have h:=zoR (G:=G) (xs:=[(b,l),(c,m)]) F4 F0;have e:[(b,l),(c,m)].foldl (fun z p=>z+zv p) 0=x+y:=by show 0+Zd b (val l)+Zd c (val m)=_;rw [hx.val,hy.val,Int.zero_add]
 rw [e] at h
 exact h.args ⟨fun I v a=>XE [(b,l),(c,m)] a,trivial⟩
def zoS (q:∀ p∈xs,wZ p.2) (v:20*eb xs xs.length+1000<=cap):G0 G 297 [zR 2 zc xs] (zl (vI (xs.foldl (fun z p=>z*zv p) 1))):=by
 unfold cap at v
 have o:∀ p∈xs,p.2.length<=cap:=fun p hp=>by
  obtain⟨i,hi⟩:=Dr hp;have h1:=Xe hi;have E:=UO xs (i+1);unfold cap;omega
 refine Fq func297 ?_;refine Fm fun b2=>?_;refine Fl Z Z (oi J J) ?_;refine aH Z Z Z nA Z Z Z ?_;rintro s1 H1 ⟨r,rfl,rfl⟩;refine Fm fun y=>?_;refine Fk zeG ?_;refine uN Z Z (zcE q o) (fun s h=>zmA h) J Z
  (fun k h i=>i=(0,false)/\k<=xs.length/\Bz ((xs.take k).foldl (fun z p=>z*zv p) 1) (eb xs k+1)/\h=[⟨some y,400,[G9 r],0⟩,⟨some r,399,vI ((xs.take k).foldl (fun z p=>z*zv p) 1),0⟩,⟨some b2,44,[eqS (.bool false),G8],0⟩])
  (fun _ _ _=>False) ⟨Z,BL _,by rw [Di];exact Un (by show Bz 1 1;exact Un inferInstance J) C,Z⟩ ?_ ?_ ?_
 .rintro l k s h i x ⟨rfl,_,d,rfl⟩;obtain⟨p,hp,rfl⟩:=zh0 x;have w:=yJ hp;obtain⟨j,f⟩:∃ j,j=(xs.take k).foldl (fun z p=>z*zv p) 1:=⟨_,Z⟩;have a:=uZ (fun z p=>z*zv p) 1 hp;have m:=Xe hp;have u:=UO xs (k+1);rw [<-f] at d a ⊢
  have t:Bz (zv p) p.2.length:=(jh (q p (AE hp))).bz;refine Fh ?_;refine⟨Z,?_⟩;refine zg ?_;refine aE 1 Z Z Z Z (zkx GH) Z Z Z ?_;rintro s1 H1 ⟨rfl,rfl⟩;refine zM ⟨Z,C,?_,by rw [a];rfl⟩;rw [a,m];exact Un bz_mul C
 .rintro h i D ⟨rfl,_,d,rfl⟩;rw [UP,B3];refine zg ?_;exact zj zt
 simp
def YF {y:Int} [hx:IsZ b l x k] [hy:IsZ c m y j] (d:20*(k+j)+1100<=cap:=by decide):G0 G 297 [zR 2 id [[zp b,zD l],[zp c,zD m]]] (zl (vI (x*y))):=by
 have h:=zoS (G:=G) (xs:=[(b,l),(c,m)]) F4 F0;have e:[(b,l),(c,m)].foldl (fun z p=>z*zv p) 1=x*y:=by show 1*Zd b (val l)*Zd c (val m)=_;rw [hx.val,hy.val,Int.one_mul]
 rw [e] at h
 exact h.args ⟨fun I v a=>XE [(b,l),(c,m)] a,trivial⟩
def zeH [h:IsZ b l z k] (a:k<=cap:=by decide):G0 G 418 [zl [zp b,zD l]] (zl (vI (-z))):=by
 refine zs func418 ?_;refine zr<|ae.box Z Z Z Z Z Z fun c=>Fm fun b2=>?_;refine Fl Z Z (JI a) ?_;exact zj zt
def zoT {y:Int} [hx:IsZ b l x k] [hy:IsZ c m y j] (a:k+j+1100<=cap:=by decide):G0 G 398 [zl [zp b,zD l],zl [zp c,zD m]] (zl (vI (x-y))):=by
 have d:=hy.bz;refine Fq func398 ?_;refine Fm fun f=>?_;refine Fw 5 ?_;refine Fl Z Z (zeH C) ?_;refine Fi ((zb Z Z (JJ a)).sub (show ∀I v,(zl (vI (x+ -y))).den I v->(zl (vI (x-y))).den I v from fun I v h=>by assumption)) ?_
 exact zj zt
def zoU {y:Int} [hx:IsZ b l x k] [hy:IsZ c m y j] (a:k+j+1100<=cap:=by decide):G0 G 296 [zl [zp b,zD l],zl [zp c,zD m]] (MK (x-y).sign):=by
 have e:=hx.bz;have d:=hy.bz;refine Fq func296 ?_;refine Fk (zoT a) ?_;refine Fl Z Z (zcD C) ?_;exact zj zt
variable {b c:Bool} {k j:Nat} {x y:Int} {l m:G7} {xs:List (Bool×G7)}
def zky {E:aD} {r:Option Nat} {n:Nat} {g:Ha} {b:Option Nat} {e:Nat} {h:HL} {d:G7} {i:Nat×Bool}:aF G E r ⟨n,g,⟨b,e,[eqS (.bool false),G8],k⟩::h,d,i⟩ ⟨n,g,⟨b,e,vI 0,k⟩::h,d,i⟩:=
 JB ⟨Z,Z,Z,Z,fun I xs a=>by
  rw [<-zAq]
  exact cJ.dens (l:=[eqS (.bool false),G8]) ⟨fun _ _ h=>h,vz Z,trivial⟩ a,wq h⟩
def vw {z:Int} [h:IsZ b l z k] (f:k<=cap:=by decide):G0 G 66 [zl [zp b,zD l]] (zl (vI z)):=by
 have g:=h.nat;have d:=h.len;have c:=h.can;refine Fq func66 ?_;refine Fm fun b2=>?_;refine zo (zb Z Z (xV C)) ?_;refine zz ?_;refine zx<|zz ?_;refine FG (xP Z Z) ?_ ?_<;>intro a
 .exact zj (zu (e:=by rw [c,a,C5];exact MW (fun x:Bool=>zl [zp x,zD (dig z.natAbs)]) (decide_eq_decide.2 (by have:=yH (n:=z.natAbs);omega))))
 .exact zj (zu (e:=by rw [c,a];rfl))
def UQ {z:Int} [h:IsZ b l z k] (f:k<=cap:=by decide):G0 G 39 [zl [zp b,zD l]] (MK z.sign):=by
 have g:=yH (n:=z.natAbs);refine zs func39 ?_;refine zr<|ae.box Z Z Z Z Z Z fun i=>zg ?_;refine Fl Z Z (vw f) ?_;refine Fo ?_ ?_<;>intro _ d
 .have c:z=0:=C;exact zj (zu (e:=by grind))
 .have c:z≠0:=fun h=>d (by omega)
  refine Fp ?_ ?_<;>intro a
  .exact zj (zu (e:=by grind))
  .exact zj (zu (e:=by grind))
def qY {n:Int} (h1: -9223372036854775808<=n) (b:n<=9223372036854775807):G0 G 94 [MK n] (zl (vI n)):=by
 refine Fq func94 ?_;refine Fm fun b2=>?_;refine Fo ?_ ?_<;>intro _ a
 .refine Fi (yK (z:=n+1) Z Z Z (MW some C) (wrap_i64 C C)) ?_;refine Fi ((mW Z Z).sub (zI (n:= -(n+1)) ((wrap_i64 C C).trans C))) ?_;refine Fi (yO Z Z (xA C C)) ?_;refine Do n.natAbs ?_;refine Fl Z Z (Kk C) ?_;exact zj (zu (e:=by rw [show vI n=[zp true,zD (dig n.natAbs)] by grind];rfl))
 .refine Fi (yO (z:=((n.natAbs:Nat):Int)) Z Z GQ) ?_;refine Fl Z Z (Kk C) ?_;exact zj (zu (e:=by rw [show vI n=[zp false,zD (dig n.natAbs)] by grind];rfl))
def zcG {z:Int} [h:IsZ b l z k] (a:k<=cap:=by decide):G0 G 100 [zl [zp b,zD l]] (zl (vI (-z))):=by
 refine Fq func100 ?_;refine Fm fun b2=>?_;refine Fl Z Z (vw a) ?_;exact zj zt
def zkz [hx:IsZ b l x k] [hy:IsZ c m y j] (z:k+j+100<=cap:=by decide):G0 G 230 [zl [zp b,zD l],zl [zp c,zD m]] (zl (vI (x+y))):=by
 unfold cap at z
 have q:=hx.nat;have o:=hy.nat;have r:=hx.len;have p:=hy.len;have D:Sz l k:=⟨r⟩;have A:Sz m j:=⟨p⟩;have i:=hx.bz;have f:=hy.bz;have g:Zd b x.natAbs=x:=by have h1:=hx.val;rwa [q.val] at h1
 have e:Zd c y.natAbs=y:=by have h1:=hy.val;rwa [o.val] at h1
 have v:=zT (je i.h f.h);have u:(dig (x.natAbs-y.natAbs)).length<=k:=zT (Cs (Nat.sub_le _ _) i.h);have t:(dig (y.natAbs-x.natAbs)).length<=j:=zT (Cs (Nat.sub_le _ _) f.h);unfold Zd at g e
 refine Fq func230 ?_;refine Fm fun E=>?_;refine Fi (zaM Z Z Z aP) ?_;refine Fp ?_ ?_<;>intro d
 .have n:=MU.1 d;have w:IsZ b (dig (x.natAbs+y.natAbs)) (x+y) (k+j+1):=⟨xe _,by rw [xu];unfold Zd;grind,v⟩
  refine Fw 10 ?_;refine Fl Z Z (XY GH) ?_;refine Fl Z Z (vw GH) ?_;exact zj zt
 .have n:=MT.1 d;refine Fl Z Z (Vj GH) ?_;refine Fo ?_ ?_<;>intro _ a
  .have s:y.natAbs<=x.natAbs:=by rcases Ab x.natAbs y.natAbs with h | h;rw [MX h] at a;cases a;exact h
   have w:IsZ b (dig (x.natAbs-y.natAbs)) (x+y) k:=⟨xe _,by rw [xu];unfold Zd;grind,u⟩
   refine Fl Z Z (vw GH) ?_;exact zj zt
  .have s:x.natAbs<y.natAbs:=by rcases Ab x.natAbs y.natAbs with h | h;exact h;rw [MY C] at a;exact M1 Z a
   have w:IsZ c (dig (y.natAbs-x.natAbs)) (x+y) j:=⟨xe _,by rw [xu];unfold Zd;grind,t⟩
   refine Fl Z Z (Vj GH) ?_;refine Fl Z Z (vw GH) ?_;exact zj zt
def zkA (v:∀ p∈xs,wZ p.2) (u:eb xs xs.length+1000<=cap):G0 G 141 [zR 2 zc xs] (zl (vI (xs.foldl (fun z p=>z+zv p) 0))):=by
 unfold cap at u
 have n:∀ p∈xs,p.2.length<=cap:=fun p hp=>by
  obtain⟨i,hi⟩:=Dr hp;have h1:=Xe hi;have x:=UO xs (i+1);unfold cap;omega
 refine Fq func141 ?_;refine Fm fun b2=>?_;refine yT fun w=>?_;refine zM<|zi<|zr<|ae.ghost _ Z zky<|Fh ?_;refine uM 0 Z fun o=>?_;unfold yE at o;refine Xt [3,2,0] (fun (i:Nat) (a:Int) z=>(4,ML i)::z) (fun i a=>[⟨some w,44,vI a,0⟩,⟨some b2,44,[eqS (.bool false),G8],0⟩]) (fun i a=>i<=xs.length/\a=(xs.take i).foldl (fun z p=>z+zv p) 0/\Bz a (eb xs i+1)) (fun i a=>xs.length-i) 0 0 ⟨BL _,Z,Un (show Bz 0 1 from Un inferInstance J) C⟩ ?_;rintro i a ⟨hi,c,j⟩;refine Fh ?_;refine Fo ?_ ?_<;>intro _ q
 .obtain⟨⟨b,m⟩,hp⟩:=FU xs i;have f:=AE hp;have s:IsZ b m (zv (b,m)) m.length:=jh (v _ f);have r:=s.bz;have d:=n _ f;have k:=Xe hp;have t:=UO xs (i+1);simp only at k d
  refine wW 7 V<|Fh ?_;refine Fk (vw d) ?_;refine Fl Z Z (zkz GH) ?_;refine zA ?_;refine zg ?_;exact⟨i+1,a+zv (b,m),⟨C,by rw [c,uZ (fun z p=>z+zv p) 0 hp],Un (bz_add) C⟩,C,MM⟩
 .have g:i=xs.length:=C;rw [g,B3] at c
  rw [g] at j
  refine Fl Z Z (vw GH) ?_;exact zj (zu (e:=by rw [c];rfl))
def zaZ [hx:IsZ b l x k] [hy:IsZ c m y j] (d:k+j+1100<=cap:=by decide):G0 G 141 [zR 2 id [[zp b,zD l],[zp c,zD m]]] (zl (vI (x+y))):=by
 have h:=zkA (G:=G) (xs:=[(b,l),(c,m)]) F4 F0;have e:[(b,l),(c,m)].foldl (fun z p=>z+zv p) 0=x+y:=by show 0+Zd b (val l)+Zd c (val m)=_;rw [hx.val,hy.val,Int.zero_add]
 rw [e] at h
 exact h.args ⟨fun I v a=>XE [(b,l),(c,m)] a,trivial⟩
def zcH [hx:IsZ b l x k] [hy:IsZ c m y j] (a:k+j+1100<=cap:=by decide):G0 G 227 [zl [zp b,zD l],zl [zp c,zD m]] (zl (vI (x-y))):=by
 have d:=hy.bz;refine Fq func227 ?_;refine Fm fun f=>?_;refine Fw 5 ?_;refine Fl Z Z (zcG C) ?_;refine Fi ((zb Z Z (zaZ a)).sub (show ∀I v,(zl (vI (x+ -y))).den I v->(zl (vI (x-y))).den I v from fun I v h=>by assumption)) ?_
 exact zj zt
def zkB (hl:∀ p∈xs,wZ p.2) (hs:20*eb xs xs.length+1000<=cap):G0 G 98 [zR 2 zc xs] (zl (vI (xs.foldl (fun z p=>z*zv p) 1))):=by
 unfold cap at hs
 have hps:∀ p∈xs,p.2.length<=cap:=fun p hp=>by
  obtain⟨i,hi⟩:=Dr hp;have h1:=Xe hi;have h2:=UO xs (i+1);unfold cap;omega
 refine zs func98 ?_;refine zr<|Fm fun b2=>?_;refine zo (zb rfl rfl (qY (by decide) (by decide))) ?_;refine Fm fun b3=>?_;refine uM 0 Z fun la=>?_
 unfold yE at la;refine xz (fun (i:Nat) (acc:Int)=>⟨_,[(4,ML i),(3,G9 b3),(2,G9 b2),(0,zR 2 zc xs)],[⟨some b3,44,vI acc,0⟩,⟨some b2,44,[eqS (.bool false),G8],0⟩],[],(0,false)⟩)
  (fun i acc=>i<=xs.length/\acc=(xs.take i).foldl (fun z p=>z*zv p) 1/\Bz acc (eb xs i+1)) (fun i acc=>xs.length-i)
  0 1 ⟨BL _,rfl,Un (show Bz 1 1 from Un inferInstance (by decide)) (by omega)⟩ MM ?_
 rintro i acc ⟨hi,hacc,hbz⟩;refine Fh ?_;refine xK ?_ ?_<;>intro h9
 .have k9:=MO h9;obtain⟨⟨b,m⟩,hp⟩:=FU xs i;have hpm:=AE hp;have i1:IsZ b m (zv (b,m)) m.length:=jh (hl _ hpm);have i2:=i1.bz;have hsl:=hps _ hpm;have hs1:=Xe hp;have hs2:=UO xs (i+1);simp only at hs1 hsl
  have i5:=i1.nat;have hln:=hbz.len;have hx:Zd b (zv (b,m)).natAbs=zv (b,m):=by show _=Zd b (val m);rw [i5.val.symm]
  have i3:IsZ (!(decide (acc<0)==b)) (dig (acc.natAbs*(zv (b,m)).natAbs)) (acc*zv (b,m)) (eb xs i+1+m.length):=⟨xe _,by rw [xu];exact (zms _ _ _ _).trans (by rw [uq,hx]),zT (by have:=(bz_mul (h:=hbz) (h':=i2)).h;rwa [DE] at this)⟩
  refine zB<|zi<|zN<|wW 18 V<|zg ?_;refine zo (zh rfl rfl rfl (by omega) hp) ?_;refine Fi ((AX (yo [zp b,zD m])<|yC rfl rfl rfl)) ?_;refine zo (Uy Z Z Z aP) ?_;refine zg ?_;refine zo (zh rfl rfl rfl (by omega) hp) ?_;refine Fi ((AX (yo [zD m])<|yC rfl rfl rfl)) ?_;refine Fi (zb rfl rfl (Vk (by unfold cap;omega))) ?_;refine Fi (zb rfl rfl (vw (by unfold cap;omega))) ?_;refine zA ?_;refine Fh ?_
  exact⟨i+1,acc*zv (b,m),⟨by omega,by rw [hacc,uZ (fun z p=>z*zv p) 1 hp],Un (bz_mul) (by omega)⟩,by omega,MM⟩
 .have k9:=MP h9;have hie:i=xs.length:=by omega
  rw [hie,B3] at hacc
  refine zK<|zr<|zg ?_;exact zj ⟨_,[],.one (.agg 1 inferInstance Z Z Z Z),BZ _,by rw [hacc];rfl,Z⟩
def ZM [hx:IsZ b l x k] [hy:IsZ c m y j] (d:20*(k+j)+1100<=cap:=by decide):G0 G 98 [zR 2 id [[zp b,zD l],[zp c,zD m]]] (zl (vI (x*y))):=by
 have h:=zkB (G:=G) (xs:=[(b,l),(c,m)]) F4 F0;have e:[(b,l),(c,m)].foldl (fun z p=>z*zv p) 1=x*y:=by show 1*Zd b (val l)*Zd c (val m)=_;rw [hx.val,hy.val,Int.one_mul]
 rw [e] at h
 exact h.args ⟨fun I v a=>XE [(b,l),(c,m)] a,trivial⟩
variable {k j i:Nat} {q p:Rat} {xs:List (G5)} {b c:Bool} {l d m e:G7} {z:Int} {a:List SV}
abbrev zP (q:Rat):List SV:=[zp (decide (q.num<0)),zD (dig q.num.natAbs),zD (dig q.den)]
class Bq (q:Rat) (k:outParam Nat):Prop where
 num:q.num.natAbs<4294967296^k
 den:q.den<4294967296^k
class IsQ (b:Bool) (l d:G7) (q:outParam Rat) (k:outParam Nat):Prop where
 lim:wZ l
 limd:wZ d
 val:mkRat (Zd b (Num.val l)) (Num.val d)=q
 len:l.length<=k
 lend:d.length<=k
 pos:0<k
theorem Bq.bz (h:Bq q k):Bz q.num k:=⟨h.num⟩
theorem Bq.bd (h:Bq q k):Bd q.den k:=⟨h.den⟩
def Bq.pos (h:Bq q k):0<k:=by
 rcases Bm k with e | e
 .have h1:=h.den;rw [e,CG] at h1;exact M1 q.den_pos C
 omega
def Bq.lens (h:Bq q k):(dig q.num.natAbs).length<=k/\(dig q.den).length<=k:=⟨zT h.num,zT h.den⟩
instance isQ_can {q:Rat} {k:Nat} [h:Bq q k]:IsQ (decide (q.num<0)) (dig q.num.natAbs) (dig q.den) q k:=
 ⟨xe _,xe _,by rw [xu,xu,uq,Dy],h.lens.1,h.lens.2,h.pos⟩
def bQ {d:Nat} (c:d≠0):(mkRat z d).num.natAbs<=z.natAbs/\(mkRat z d).den<=d:=by
 have h1:=zew (b:=decide (z<0)) (a:=z.natAbs) c;have e:=qP (b:=decide (z<0)) (a:=z.natAbs) c;rw [uq] at h1 e
 exact⟨by rw [h1];exact Cu _ _,by rw [e];exact Cu _ _⟩
theorem Wd {d:Nat} (a:z.natAbs<4294967296^k) (b:d<4294967296^k) (f:0<k):Bq (mkRat z d) k:=by
 rcases Bm d with e | e
 .rw [e,DI];exact⟨CS J,Nat.one_lt_pow C J⟩
 .obtain⟨h1,c⟩:=bQ (z:=z) (d:=d) C;exact⟨Cs h1 a,Cs c b⟩
theorem IsQ.bq (h:IsQ b l d q k):Bq q k:=by
 rw [<-h.val];exact Wd (by rw [uY];exact Ah (wz h.lim) (Cm J h.len)) (Ah (wz h.limd) (Cm J h.lend)) h.pos
theorem xb {l:Nat} (h:Bq q k) (a:k<=l):Bq q l:=⟨Ah h.num (Cm J a),Ah h.den (Cm J a)⟩
def ku {x y:Nat} (h:x<4294967296^k) (h':y<4294967296^k):x+y<4294967296^(k+1):=by
 omega
def Vn (hp:Bq p k) (hq:Bq q j):(p.num*(q.den:Int)).natAbs<4294967296^(k+j)/\(q.num*(p.den:Int)).natAbs<4294967296^(k+j)/\p.den*q.den<4294967296^(k+j):=by
 rw [DE,DE,Ct,Dz,Dz];exact⟨DF hp.num hq.den,by rw [Ck (4294967296^k)];exact DF hq.num hp.den,DF hp.den hq.den⟩
instance bq_add {p q:Rat} {k j:Nat} [hp:Bq p k] [hq:Bq q j]:Bq (p+q) (k+j+1):=by
 obtain⟨h1,b,a⟩:=Vn hp hq;rw [Rat.add_def'];exact Wd (Cs (DD _ _) (ku h1 b)) (Ah a (Cm J C)) C
instance bq_sub {p q:Rat} {k j:Nat} [hp:Bq p k] [hq:Bq q j]:Bq (p-q) (k+j+1):=by
 obtain⟨h1,b,a⟩:=Vn hp hq;rw [Rat.sub_def'];exact Wd (Cs (Int.natAbs_sub_le _ _) (ku h1 b)) (Ah a (Cm J C)) C
instance bq_mul {p q:Rat} {k j:Nat} [hp:Bq p k] [hq:Bq q j]:Bq (p*q) (k+j):=by
 rw [DJ];exact Wd (by rw [DE,Ct];exact DF hp.num hq.num) (Vn hp hq).2.2 (by have:=hp.pos;omega)
instance bq_neg {q:Rat} {k:Nat} [h:Bq q k]:Bq (-q) k:=⟨by rw [Rat.neg_num,DC];exact h.num,h.den⟩
instance bq_zero:Bq 0 1:=⟨J,J⟩
instance bq_one:Bq 1 1:=⟨J,J⟩
def kG:dig 1=[1]:=by rw [Xy J,(FV:1/4294967296=0),ay]
def zuO {d:Nat} (c:d≠0):zP (mkRat z d)=[zp (decide (z<0)),zD (dig (z.natAbs/Nat.gcd z.natAbs d)),zD (dig (d/Nat.gcd z.natAbs d))]:=by
 have h1:=zew (b:=decide (z<0)) (a:=z.natAbs) c;have f:=qP (b:=decide (z<0)) (a:=z.natAbs) c;have e:=zex (b:=decide (z<0)) (a:=z.natAbs) c;rw [uq] at h1 f e
 grind
theorem kB {d:Nat} (a:z.natAbs<4294967296^k) (c:d<4294967296^k) (b:0<k) (hq:mkRat z d=q):IsQ (decide (z<0)) (dig z.natAbs) (dig d) q k:=
 ⟨xe _,xe _,by rw [xu,xu,uq,hq],zT a,zT c,b⟩
abbrev qc (p:Bool×List Nat×List Nat):List SV:=[zp p.1,zD p.2.1,zD p.2.2]
def qv (p:G5):Rat:=mkRat (Zd p.1 (Num.val p.2.1)) (Num.val p.2.2)
def qsz (p:G5):Nat:=max p.2.1.length p.2.2.length+1
theorem jg (h:wZ l) (h':wZ d):IsQ b l d (qv (b,l,d)) (qsz (b,l,d)):=⟨h,h',Z,by unfold qsz;grind,by unfold qsz;grind,by unfold qsz;simp⟩
def el (xs:List (G5)) (i:Nat):Nat:=((xs.take i).map fun p=>qsz p+1).sum
def Vo {p:G5} (h:xs[i]? =some p):el xs (i+1)=el xs i+(qsz p+1):=Vh (fun p:G5=>qsz p+1) h
def qZ (xs:List (G5)) (i:Nat):el xs i<=el xs xs.length:=by
 have:=Wv (fun p:G5=>qsz p+1) xs i;unfold el;grind
def gG (xs:List (G5)):List (List SV):=xs.map fun p=>[yo (zP (qv p))]
def UR:(gG xs).length=xs.length:=by simp [gG]
def zh1 (h:(gG xs)[i]? =some a):∃ p,xs[i]? =some p/\a=[yo (zP (qv p))]:=by
 simp only [gG,Ba,DB] at h
 grind
def zmB (h:a∈gG xs):a.length=1:=by
 obtain⟨i,_,rfl⟩:=Bc.1 h;rfl
def oh:(p.num*(q.den:Int)-q.num*(p.den:Int)).sign=vK p q:=by
 unfold vK;by_cases h1:p<q
 .rw [MX h1];have:=(Rat.lt_iff p q).1 h1;grind
 .rw [MY h1];by_cases a:q<p
  .rw [MX a];have:=(Rat.lt_iff q p).1 a;grind
  grind
def WB:G0 G 298 [zD l] (zl [zp false,zD l]):=by
 refine Fq func298 ?_;refine Fm fun b2=>?_;exact zj zt
def wK {n:Int} (h1: -9223372036854775808<=n) (a:n<=9223372036854775807) (hq:(n:Rat)=q:=by rfl):G0 G 130 [MK n] (zl (zP q)):=by
 refine Fq func130 ?_;refine Fm fun b2=>?_;refine zf (oi h1 a) ?_;refine Fi (xj [1] Z Z J Z B Z Z Z) ?_;exact zj (zu (e:=by rw [<-hq];show _=zl [zp (decide (n<0)),zD (dig n.natAbs),zD (dig 1)];rw [kG];rfl))
def YG [ao G] [h:IsQ b l d q k] (r:2*k+11000<=cap:=by decide):CallSpec prog G 146 [G9 j] [⟨some j,156,[zp b,zD l,zD d],0⟩] (fun s H'=>s=zp (decide (val d≠0))/\H'=[⟨some j,156,zP q,0⟩]):=by
 have e:=h.len;have i:=h.lend;have f:=h.val;have p:=uW h.limd;have m:IsZ b l (Zd b (val l)) k:=⟨h.lim,Z,e⟩;have o:=m.bz.len;obtain⟨z,g⟩:∃ z,z=Zd b (val l):=⟨_,Z⟩;rw [<-g] at f o m
 refine Fq func146 ?_;refine Fl Z Z (wG C) ?_;refine Fo ?_ ?_<;>intro _ c
 .have a:val d=0:=yH.1 C;rw [a,DI] at f
  refine Fl Z Z (wK (n:=0) (q:=q) J J (by omega)) ?_;refine zj ?_;exact⟨_,[_],.one (.tmp Z),Dd _,MW zp (MS (by omega)).symm,Z⟩
 .have a:val d≠0:=fun h0=>c (by rw [h0,ay];rfl)
  refine Fl Z Z (JI C) ?_;refine UG 21 _ V Z (.cons _ .slnil)<|FB ?_;refine FC (zb Z Z (zhL C)) ?_;refine ab.nil<|aU.store 0 Z Z Z Z Z Z Z Z (.cons _ .slnil)<|zg ?_;exact zj ⟨_,[_],.one (.tmp Z),Dd _,MW zp (MR a).symm,by rw [<-f,zuO a];rfl⟩
def nK [ao G] [h:IsQ b l d q k] (c:2*k+11000<=cap:=by decide):CallSpec prog G 101 [zl [zp b,zD l,zD d]] [] (fun s H'=>∃ a,s=G9 a/\H'=[⟨some a,156,zP q,0⟩]):=by
 refine zs func101 ?_;apply zr;(iterate 2 refine zz ?_);apply zx;(iterate 2 refine zz ?_);refine ae.box Z Z Z Z Z Z fun a=>zg ?_;refine aE 0 Z Z Z Z (YG c) Z Z Z ?_;rintro s1 H1 ⟨rfl,rfl⟩;refine zg ?_;exact zj ⟨_,[_],.one (.tmp Z),Dd _,a,Z,Z⟩
def Yg [ao G] [h:IsQ b l d q k] (a:2*k+11000<=cap:=by decide):G0 G 101 [zl [zp b,zD l,zD d]] (yo (zP q)):=zhZ (nK a)
def wT [ao G] [h:IsQ b l d q k] (a:2*k+11000<=cap:=by decide):G0 G 68 [zl [zp b,zD l,zD d]] (zl (zP q)):=by
 refine Fq func68 ?_;refine Fm fun b2=>?_;refine Fl Z Z (Yg a) ?_;exact zj zt
def QE [ao G] [h:IsQ b l d q k] (a:2*k+11000<=cap:=by decide):G0 G 326 [zl [zp b,zD l,zD d]] (zl (zP (-q))):=by
 have c:=h.bq.bz;refine Fq func326 ?_;refine Fm fun b2=>?_;refine aH Z Z Z (nK a) Z Z Z ?_;rintro s1 H1 ⟨e,rfl,rfl⟩;refine zg ?_;refine Fl Z Z (zeH C) ?_;exact zj zt
def xo [ao G] [hx:IsQ b l d p k] [hy:IsQ c m e q j] (o:100*(k+j)+20000<=cap:=by decide):G0 G 195 [zl [zp b,zD l,zD d],zl [zp c,zD m,zD e]] (MK (vK p q)):=by
 have f:=hx.bq;have a:=hy.bq;have n:=f.bz;have i:=f.bd;have h:=a.bz;have g:=a.bd;refine Fq func195 ?_;refine Fw 6 ?_;refine Fl Z Z (Yg C) ?_;refine Fl Z Z (Yg C) ?_;refine Fw 28 ?_;refine Fk WB ?_;refine Fl Z Z (YF C) ?_;refine Fk WB ?_;refine Fl Z Z (YF C) ?_;refine Fi ((zb Z Z (zoU C)).sub (zI oh)) ?_;exact zj zt
def zkD [ao G] {a:Nat} [hx:Bq p k] [hy:Bq q j] (l:100*(k+j)+15000<=cap:=by decide):CallSpec prog G 328 [G9 a,yo (zP q)] [⟨some a,156,zP p,0⟩] (fun s H'=>s=yR []/\H'=[⟨some a,156,zP (p+q),0⟩]):=by
 have i:=hx.bz;have h:=hx.bd;have g:=hy.bz;have f:=hy.bd;obtain⟨d,c,b⟩:=Vn hx hy;have e:=kB (Cs (DD _ _) (ku d c)) (Ah b (Cm J C)) C (Rat.add_def' p q).symm;refine Fq func328 ?_;refine Fw 32 ?_;refine Fk WB ?_;refine Fl Z Z (YF C) ?_;refine Fk WB ?_;refine Fl Z Z (YF C) ?_;refine Fl Z Z (JJ C) ?_;refine Fw 15 ?_;refine Fl Z Z (Kn C) ?_;refine aE 0 Z Z Z Z (YG C) Z Z Z ?_;rintro s1 H1 ⟨rfl,rfl⟩;exact zM ⟨_,[_],.none,Dd _,Z,Z⟩
def zkE [ao G] {a:Nat} [hx:Bq p k] [hy:Bq q j] (g:100*(k+j)+15000<=cap:=by decide):CallSpec prog G 480 [G9 a,yo (zP q)] [⟨some a,156,zP p,0⟩] (fun s H'=>s=yR []/\H'=[⟨some a,156,zP (p*q),0⟩]):=by
 have f:=hx.bz;have e:=hx.bd;have d:=hy.bz;have c:=hy.bd;have b:=kB (by rw [DE,Ct];exact DF hx.num hy.num) (Vn hx hy).2.2 (by have:=hx.pos;omega) (DJ p q).symm;refine Fq func480 ?_;refine UG 28 _ V Z (.cons _ .slnil)<|FB ?_;refine FC (zG Z Z Z Z) ?_;refine FC (zb Z Z (YF C)) ?_;refine FC (zb Z Z (Kn C)) ?_;refine ab.nil<|aU.store 0 Z Z Z Z Z Z Z Z (.cons _ .slnil)<|zg ?_;refine aE 0 Z Z Z Z (YG C) Z Z Z ?_;rintro s1 H1 ⟨rfl,rfl⟩;exact zM ⟨_,[_],.none,Dd _,Z,Z⟩
def zcK [ao G] (h:∀ p∈xs,wZ p.2.1/\wZ p.2.2) (k:∀ p∈xs,2*qsz p+11000<=cap):xc prog G 419 [yo [zR 3 qc xs]] (gG xs):=by
 refine xM func419 Z Z Z Z fun l E hy=>Fh ?_;refine uM 5 Z fun i=>?_;unfold yE at i;refine xi (fun g=>⟨_,[(7,ML g),(6,MK xs.length),(5,zR 3 qc xs),(0,yieldS l),(1,yo [zR 3 qc xs])],[],[],(g,false)⟩) (fun g=>g<=xs.length) (fun g=>xs.length-g) 0 (BL _) MM ?_;intro g n;refine Fh ?_;refine Fo ?_ ?_<;>intro _ j
 .obtain⟨⟨b,d,e⟩,hp⟩:=FU xs g;have a:(b,d,e)∈xs:=AE hp;have m:IsQ b d e (qv (b,d,e)) (qsz (b,d,e)):=jg (h _ a).1 (h _ a).2;have f:=k _ a;refine Fh ?_;refine Fm fun o=>?_;refine Fk (Yg f) ?_;refine ae.yield Z hy Z Z Z (by simp only [gG,Ba,hp];rfl) (yU _) Z Z Z fun y=>zg ?_;refine xK ?_ ?_<;>intro c
  .exact zj ⟨.inl Z,.inr c⟩
  .refine zB<|Fs (zF (BZ _)) ?_;refine Do (g+1) ?_;exact⟨g+1,(by omega:g+1<=xs.length),by omega,Z,zk,wq _,Z,by grind⟩
 .exact⟨.inr Z,.inl (by rw [UR,(C:g=xs.length)])⟩
def zeJ:G0 G 327 [zR 3 qc xs] (wD 419 [yo [zR 3 qc xs]]):=by
 refine Fq func327 ?_;exact zj zt
def zoV [ao G] (s:∀ p∈xs,wZ p.2.1/\wZ p.2.2) (x:100*el xs xs.length+18000<=cap+400):G0 G 219 [zR 3 qc xs] (zl (zP (xs.foldl (fun z p=>z+qv p) 0))):=by
 unfold cap at x
 have r:∀ p∈xs,2*qsz p+11000<=cap:=fun p hp=>by
  obtain⟨i,hi⟩:=Dr hp;have h1:=Vo hi;have H:=qZ xs (i+1);unfold cap;omega
 refine Fq func219 ?_;refine Fm fun b2=>?_;refine zo (zb Z Z (wK (q:=0) J J)) ?_;refine zz ?_;refine ae.box Z Z Z Z Z Z fun t=>Fm fun E=>?_;refine Fk zeJ ?_;refine uN Z Z (zcK s r) (fun u h=>zmB h) J Z
  (fun k h i=>i=(0,false)/\k<=xs.length/\Bq ((xs.take k).foldl (fun z p=>z+qv p) 0) (el xs k+1)/\h=[⟨some E,157,[G9 t],0⟩,⟨some t,156,zP ((xs.take k).foldl (fun z p=>z+qv p) 0),0⟩,⟨some b2,46,[eqS (.bool false),G8,G8],0⟩])
  (fun _ _ _=>False) ⟨Z,BL _,by rw [Di];exact xb (show Bq 0 1 from inferInstance) C,Z⟩ ?_ ?_ ?_
 .rintro l k u h i A ⟨rfl,_,d,rfl⟩;obtain⟨p,hp,rfl⟩:=zh1 A;have y:=yJ hp;obtain⟨m,g⟩:∃ m,m=(xs.take k).foldl (fun z p=>z+qv p) 0:=⟨_,Z⟩;have a:=uZ (fun z p=>z+qv p) 0 hp;have o:=Vo hp;have w:=qZ xs (k+1);rw [<-g] at d a ⊢
  have f:=AE hp;have v:Bq (qv p) (qsz p):=(jg (s p f).1 (s p f).2).bq;refine Fh ?_;refine⟨Z,?_⟩;refine zg ?_;refine aE 1 Z Z Z Z (zkD GH) Z Z Z ?_;rintro s1 H1 ⟨rfl,rfl⟩;refine zM ⟨Z,C,?_,by rw [a];rfl⟩;rw [a,o];exact xb bq_add C
 .rintro h i D ⟨rfl,_,d,rfl⟩;rw [UR,B3];refine zg ?_;exact zj zt
 simp
def vM [ao G] [hx:IsQ b l d p k] [hy:IsQ c m e q j] (g:100*(k+j)+20000<=cap:=by decide):G0 G 219 [zR 3 id [[zp b,zD l,zD d],[zp c,zD m,zD e]]] (zl (zP (p+q))):=by
 have h:=zoV (G:=G) (xs:=[(b,l,d),(c,m,e)]) F2 FW;have f:[(b,l,d),(c,m,e)].foldl (fun z p=>z+qv p) 0=p+q:=by show 0+mkRat (Zd b (val l)) (val d)+mkRat (Zd c (val m)) (val e)=_;rw [hx.val,hy.val,Rat.zero_add]
 rw [f] at h
 exact h.args ⟨fun I v a=>XE [(b,l,d),(c,m,e)] a,trivial⟩
def zoW [ao G] (s:∀ p∈xs,wZ p.2.1/\wZ p.2.2) (x:100*el xs xs.length+18000<=cap+400):G0 G 411 [zR 3 qc xs] (zl (zP (xs.foldl (fun z p=>z*qv p) 1))):=by
 unfold cap at x
 have r:∀ p∈xs,2*qsz p+11000<=cap:=fun p hp=>by
  obtain⟨i,hi⟩:=Dr hp;have h1:=Vo hi;have H:=qZ xs (i+1);unfold cap;omega
 refine Fq func411 ?_;refine Fm fun b2=>?_;refine zo (zb Z Z (wK (q:=1) J J)) ?_;refine zz ?_;refine ae.box Z Z Z Z Z Z fun t=>Fm fun E=>?_;refine Fk zeJ ?_;refine uN Z Z (zcK s r) (fun u h=>zmB h) J Z
  (fun k h i=>i=(0,false)/\k<=xs.length/\Bq ((xs.take k).foldl (fun z p=>z*qv p) 1) (el xs k+1)/\h=[⟨some E,157,[G9 t],0⟩,⟨some t,156,zP ((xs.take k).foldl (fun z p=>z*qv p) 1),0⟩,⟨some b2,46,[eqS (.bool false),G8,G8],0⟩])
  (fun _ _ _=>False) ⟨Z,BL _,by rw [Di];exact xb (show Bq 1 1 from inferInstance) C,Z⟩ ?_ ?_ ?_
 .rintro l k u h i A ⟨rfl,_,d,rfl⟩;obtain⟨p,hp,rfl⟩:=zh1 A;have y:=yJ hp;obtain⟨m,g⟩:∃ m,m=(xs.take k).foldl (fun z p=>z*qv p) 1:=⟨_,Z⟩;have a:=uZ (fun z p=>z*qv p) 1 hp;have o:=Vo hp;have w:=qZ xs (k+1);rw [<-g] at d a ⊢
  have f:=AE hp;have v:Bq (qv p) (qsz p):=(jg (s p f).1 (s p f).2).bq;refine Fh ?_;refine⟨Z,?_⟩;refine zg ?_;refine aE 1 Z Z Z Z (zkE GH) Z Z Z ?_;rintro s1 H1 ⟨rfl,rfl⟩;refine zM ⟨Z,C,?_,by rw [a];rfl⟩;rw [a,o];exact xb bq_mul C
 .rintro h i D ⟨rfl,_,d,rfl⟩;rw [UR,B3];refine zg ?_;exact zj zt
 simp
def We [ao G] [hx:IsQ b l d p k] [hy:IsQ c m e q j] (g:100*(k+j)+20000<=cap:=by decide):G0 G 411 [zR 3 id [[zp b,zD l,zD d],[zp c,zD m,zD e]]] (zl (zP (p*q))):=by
 have h:=zoW (G:=G) (xs:=[(b,l,d),(c,m,e)]) F2 FW;have f:[(b,l,d),(c,m,e)].foldl (fun z p=>z*qv p) 1=p*q:=by show 1*mkRat (Zd b (val l)) (val d)*mkRat (Zd c (val m)) (val e)=_;rw [hx.val,hy.val,Rat.one_mul]
 rw [f] at h
 exact h.args ⟨fun I v a=>XE [(b,l,d),(c,m,e)] a,trivial⟩
def uH [ao G] [hx:IsQ b l d p k] [hy:IsQ c m e q j] (a:100*(k+j)+20000<=cap:=by decide):G0 G 218 [zl [zp b,zD l,zD d],zl [zp c,zD m,zD e]] (zl (zP (p-q))):=by
 have f:=hy.bq;refine Fq func218 ?_;refine Fm fun i=>?_;refine Fw 5 ?_;refine Fl Z Z (QE C) ?_;refine Fi ((zb Z Z (vM a)).sub (show ∀I v,(zl (zP (p+ -q))).den I v->(zl (zP (p-q))).den I v from fun I v h=>by grind)) ?_
 exact zj zt
end Go.Proofs
namespace Go.Proofs
open Go Go.Sv Num Tryz
variable {G:Imm}
variable {q p:Rat} {b c:Bool} {k j:Nat} {l d m e:G7} {xs:List (G5)} {n:Int}
def Vp:(vK p q==0)=decide (p=q):=by
 unfold vK;grind
def zh2:q.num.sign=vK q 0:=by
 rw [<-oh];simp
def zkF {z:Int} {d:Nat} (f:d≠0):(mkRat z d).num.sign=z.sign:=by
 have c:=zex (b:=decide (z<0)) (a:=z.natAbs) f;have i:(mkRat z d).num=0↔z=0:=by
  rw [Rat.num_eq_zero];exact Rat.mkRat_eq_zero f
 rw [uq] at c
 grind
def zxS (q:Rat):q⁻¹=mkRat (Zd (decide (q.num<0)) q.den) q.num.natAbs:=by
 rw [Rat.inv_def];obtain⟨n,a⟩:∃ n,n=q.num:=⟨_,Z⟩;rw [<-a];rcases Int.lt_or_le n 0 with h | h
 .obtain⟨m,rfl⟩:∃ m:Nat,n= -(m:Int):=⟨n.natAbs,C⟩;rw [Rat.divInt_neg',Rat.divInt_ofNat,MR h,DC,Dz];rfl
 .obtain⟨m,rfl⟩:∃ m:Nat,n=(m:Int):=⟨n.natAbs,C⟩;rfl
def mQ (p q:Rat):mkRat (p.num*Zd (decide (q.num<0)) q.den) (p.den*q.num.natAbs)=p/q:=by
 rw [Rat.div_def,zxS q,<-Rat.mkRat_mul_mkRat,Dy]
instance bq_div {p q:Rat} {k j:Nat} [hp:Bq p k] [hq:Bq q j]:Bq (p/q) (k+j):=by
 rw [<-mQ];exact Wd (by rw [DE,uY,Ct];exact DF hp.num hq.den) (by rw [Ct];exact DF hp.den hq.num) (by have:=hp.pos;omega)
theorem IsQ.z (h:IsQ b l d q k):IsZ b l (Zd b (Num.val l)) k:=⟨h.lim,Z,h.len⟩
def VW:G0 G 142 [zD l] (zl [zp false,zD l]):=by
 refine Fq func142 ?_;refine Fm fun b2=>?_;exact Hj
def ZN (h1: -9223372036854775808<=n) (a:n<=9223372036854775807) (hq:(n:Rat)=q:=by rfl):G0 G 60 [MK n] (zl (zP q)):=by
 refine Fq func60 ?_;refine Fm fun b2=>?_;refine zf (qY h1 a) ?_;exact Ix
def Vq {z:Int} {n:Nat} [h:IsZ b l z k] [F:IsNat d n] [M:Sz d j] (Q:64*max k j+2000<=131072:=by decide):G0 G 97 [zl [zp b,zD l],zD d] (yR [zl (zP (mkRat z n)),MK (if n=0 then 30 else 0)]):=by
 have r:=M.h;have R:=h.bz.len;refine zs func97 ?_;refine zr<|ae.box Z Z Z Z Z Z fun b2=>Fm fun H=>?_;refine Fl Z Z (xV GH) ?_;refine FP ?_ ?_<;>intro _ s
 .have c:n=0:=yH.1 C;refine Fl Z Z (ZN (q:=mkRat z n) J J (by rw [c,DI];rfl)) ?_;exact zj (zu (e:=by rw [MX c];rfl))
 .have c:n≠0:=fun h0=>s (by rw [h0,ay];rfl)
  have t:=C7 c;obtain⟨x,hx⟩:∃ x,x=z.natAbs:=⟨_,Z⟩;obtain⟨g,u⟩:∃ g,g=Nat.gcd x n:=⟨_,Z⟩;have O:0<g:=by rw [u];exact Nat.gcd_pos_of_pos_right _ t
  have p:=Qz (b:=decide (z<0)) (a:=z.natAbs) c;have m:=qP (b:=decide (z<0)) (a:=z.natAbs) c;rw [uq,<-hx,<-u] at p m
  obtain⟨q,hq⟩:∃ q,q=mkRat z n:=⟨_,Z⟩;rw [<-hq] at p m ⊢
  have A:x/g<=x:=Cu _ _;have L:n/g<=n:=Cu _ _;have y:x<4294967296^k:=by rw [hx];exact h.bz.h
  have P:IsZ (decide (z<0)) (dig (x/g)) q.num k:=⟨xe _,by rw [xu,p],zT (Cs A y)⟩
  refine zg ?_;refine Fl Z Z (vw GH) ?_;refine Fl Z Z (zaT GH) ?_;refine zo (zb Z Z (zaT GH)) ?_;refine zg ?_;refine yL (K:=fun S1=>aC S1 (⟨82,[(5,MK 0),(4,G9 H),(2,G9 b2),(1,zD d)],[⟨some H,46,[eqS (.bool false),G8,G8],0⟩,⟨some b2,44,vI z,0⟩],[],(0,false)⟩)) ?_ ?_
  .refine zr<|FF ?_ ?_<;>intro o
   .refine FT ?_ ?_<;>intro w
    .have f:x<18446744073709551616:=by rw [hx];exact MO o
     have i:=MO w;refine zr<|zo ((zC Z Z).sub (zI (by rw [<-hx,MX f]))) ?_;refine Fi ((zC Z Z).sub (zI (MX i))) ?_;refine Fi ((zb Z Z (zhM f i)).sub (zI (n:=((g:Nat):Int)) (by omega))) ?_;refine zU 13 V ?_;(iterate 2 refine zz ?_);refine Fi ((zC Z Z).sub (zI (by rw [<-hx,MX f]))) ?_;refine Fi ((vl Z Z Z C C (by have:=Cu x g;rw [<-CO];exact xA (Da _) C)).sub (zI (CO _ _).symm)) ?_;refine Fl Z Z (Kk C) ?_;refine zo (zb Z Z (vw GH)) ?_;refine Fi ((zC Z Z).sub (zI (MX i))) ?_;refine Fi ((vl Z Z Z C C (by have:=Cu n g;rw [<-CO];exact xA (Da _) C)).sub (zI (CO _ _).symm)) ?_;refine Fl Z Z (Kk C) ?_
     exact zj (zu (e:=by rw [MY c,<-m];rfl))
    .exact MM
   .refine Fu ?_;exact MM
  .intro S1 D;refine xq D<|zg ?_;refine Fi ((zb Z Z (zoI C)).sub (show ∀I v,(zD (dig (Nat.gcd z.natAbs n))).den I v->(zD (dig g)).den I v from fun I v h=>by grind)) ?_
   have N:(dig g).length<=j:=zT (Cs (by rw [u];exact Nat.gcd_le_right _ t) (by have h1:=wz F.lim;rw [F.val] at h1;exact Ah h1 (Cm J r)));refine zo (zb Z Z (qQ GH GH)) ?_;refine zz ?_;refine Fi ((xp Z Z Z).sub (show ∀I v,(zD (dig (z.natAbs/g))).den I v->(zD (dig (x/g))).den I v from fun I v h=>by grind)) ?_;refine Fl Z Z (qQ GH GH) ?_;refine Fl Z Z (vw GH) ?_;exact zj (zu (e:=by rw [MY c,<-m];rfl))
def zkH [h:IsQ b l d q k] (f:64*k+2000<=131072:=by decide):G0 G 97 [zl [zp b,zD l],zD d] (yR [zl (zP q),MK (if val d=0 then 30 else 0)]):=by
 have e:=h.z;have c:=uW h.limd;have a:Sz d k:=⟨h.lend⟩;have:=Vq (G:=G) (b:=b) (l:=l) (d:=d) C;rw [h.val] at this;omega
def vH [h:IsQ b l d q k] (a:64*k+2000<=131072:=by decide):G0 G 91 [zl [zp b,zD l,zD d]] (zl (zP q)):=by
 refine Fq func91 ?_;refine Fm fun b2=>?_;refine Fk (zkH a) ?_;refine Fm fun c=>?_;exact Hj
def US [h:IsQ b l d q k] (m:64*k+2000<=131072:=by decide):G0 G 19 [zl [zp b,zD l,zD d]] (MK (vK q 0)):=by
 have j:=h.z;have i:=uW h.limd;have f:=h.lend;have c:=h.val;rw [<-zh2];refine Fq func19 ?_;refine Fl Z Z (xV GH) ?_;refine Fo ?_ ?_<;>intro _ g
 .have a:val d=0:=yH.1 C;rw [a,DI] at c
  exact zj (zu (e:=by rw [<-c];rfl))
 .have a:val d≠0:=fun h0=>g (by rw [h0,ay];rfl)
  refine Fi ((zb Z Z (UQ GH)).sub (zI (n:=q.num.sign) (by rw [<-c,zkF a]))) ?_;exact Hj
def zkI [hx:Bq p k] [hy:Bq q j] (m:64*(k+j)+2100<=131072:=by decide):G0 G 96 [zl (zP p),zl (zP q)] (zl (zP (p+q))):=by
 have l:=hx.bz;have i:=hx.bd;have h:=hy.bz;have g:=hy.bd;obtain⟨d,c,n⟩:=Vn hx hy;have f:Bz (p.num*(q.den:Int)+q.num*(p.den:Int)) (k+j+1):=⟨Cs (DD _ _) (ku d c)⟩;have b:=hx.lens;have a:=hy.lens;refine Fq func96 ?_;refine Fm fun r=>?_;refine Zq 25 V Z Z<|FB ?_;refine FD (zG Z Z Z Z) ?_;refine FD (zb Z Z VW) ?_;refine FD (zb Z Z (ZM GH)) ?_;refine FD (zG Z Z Z Z) ?_;refine FD (zb Z Z VW) ?_;refine FD (zb Z Z (ZM GH)) ?_;refine FD (zb Z Z (zaZ GH)) ?_;refine FD (zb Z Z (Vk GH)) ?_;refine FD (zb Z Z (Vq C)) ?_;refine ab.nil<|aI Z Z Z Z Z Z Z Z GL Z Z Z fun o=>zg ?_;exact zj (zu (e:=by rw [Rat.add_def'];rfl))
def zkJ [h:IsQ b l d q k] (a:64*k+2000<=131072:=by decide):G0 G 65 [zl [zp b,zD l,zD d]] (zl (zP (-q))):=by
 have c:=h.bq.bz;refine zs func65 ?_;refine zr<|ae.box Z Z Z Z Z Z fun e=>Fm fun b2=>?_;refine Fl Z Z (vH a) ?_;refine Fw 6 ?_;refine Fl Z Z (zcG GH) ?_;exact zj zt
def zkK (j:∀ p∈xs,wZ p.2.1/\wZ p.2.2) (w:64*el xs xs.length+3000<=131072):G0 G 61 [zR 3 qc xs] (zl (zP (xs.foldl (fun z p=>z+qv p) 0))):=by
 refine Fq func61 ?_;refine Fm fun b2=>?_;refine Fl Z Z (ZN (q:=0) J J) ?_;refine Fm fun v=>?_;refine uM 0 Z fun k=>?_;unfold yE at k;refine Xt [3,2,0] (fun (i:Nat) (a:Rat) z=>(4,ML i)::z) (fun i a=>[⟨some v,46,zP a,0⟩,⟨some b2,46,[eqS (.bool false),G8,G8],0⟩]) (fun i a=>i<=xs.length/\a=(xs.take i).foldl (fun z p=>z+qv p) 0/\Bq a (el xs i+1)) (fun i a=>xs.length-i) 0 0 ⟨BL _,Z,xb (show Bq 0 1 from inferInstance) C⟩ ?_;rintro i a ⟨hi,c,h⟩;refine Fh ?_;refine Fo ?_ ?_<;>intro _ o
 .obtain⟨⟨b,m,d⟩,hp⟩:=FU xs i;have f:(b,m,d)∈xs:=AE hp;have s:IsQ b m d (qv (b,m,d)) (qsz (b,m,d)):=jg (j _ f).1 (j _ f).2;have r:=s.bq;have u:=Vo hp;have t:=qZ xs (i+1);refine wW 7 V<|Fh ?_;refine Fl Z Z (vH C) ?_;refine Fl Z Z (zkI C) ?_;refine zA ?_;refine zg ?_;exact⟨i+1,a+qv (b,m,d),⟨C,by rw [c,uZ (fun z p=>z+qv p) 0 hp],xb (bq_add) C⟩,C,MM⟩
 .have g:i=xs.length:=C;rw [g,B3] at c
  exact zj (zu (e:=by rw [c];rfl))
def WC [hx:IsQ b l d p k] [hy:IsQ c m e q j] (a:64*(k+j)+4000<=131072:=by decide):G0 G 61 [zR 3 id [[zp b,zD l,zD d],[zp c,zD m,zD e]]] (zl (zP (p+q))):=by
 have h:=zkK (G:=G) (xs:=[(b,l,d),(c,m,e)]) F2 FW;have ee:[(b,l,d),(c,m,e)].foldl (fun z p=>z+qv p) 0=p+q:=by show 0+mkRat (Zd b (val l)) (val d)+mkRat (Zd c (val m)) (val e)=_;rw [hx.val,hy.val,Rat.zero_add]
 exact Ih
def zkL (t:∀ p∈xs,wZ p.2.1/\wZ p.2.2) (M:64*el xs xs.length+3000<=131072):G0 G 62 [zR 3 qc xs] (zl (zP (xs.foldl (fun z p=>z*qv p) 1))):=by
 refine Fq func62 ?_;refine Fm fun b2=>?_;refine Fl Z Z (ZN (q:=1) J J) ?_;refine Fm fun A=>?_;refine uM 0 Z fun u=>?_;unfold yE at u;refine Xt [3,2,0] (fun (i:Nat) (a:Rat) z=>(4,ML i)::z) (fun i a=>[⟨some A,46,zP a,0⟩,⟨some b2,46,[eqS (.bool false),G8,G8],0⟩]) (fun i a=>i<=xs.length/\a=(xs.take i).foldl (fun z p=>z*qv p) 1/\Bq a (el xs i+1)) (fun i a=>xs.length-i) 0 1 ⟨BL _,Z,xb (show Bq 1 1 from inferInstance) C⟩ ?_;rintro i a ⟨hi,c,f⟩;refine Fh ?_;refine Fo ?_ ?_<;>intro _ o
 .obtain⟨⟨b,m,d⟩,hp⟩:=FU xs i;have k:(b,m,d)∈xs:=AE hp;have s:IsQ b m d (qv (b,m,d)) (qsz (b,m,d)):=jg (t _ k).1 (t _ k).2;have g:=s.bq;have y:=Vo hp;have w:=qZ xs (i+1);obtain⟨x,j⟩:∃ x,x=qv (b,m,d):=⟨_,Z⟩;rw [<-j] at s g;have L:=f.bz;have K:=f.bd;have H:=g.bz;have F:=g.bd;have E:=f.lens;have D:=g.lens;refine Fh ?_;refine Fl Z Z (vH C) ?_;refine Fm fun N=>?_;refine zfL 15 _ V Z (.cons_cons _ (.cons _ (.cons_cons _ .slnil)))<|FB ?_;refine FC (zE 1 Z Z Z Z Z) ?_;refine FC (zb Z Z (ZM GH)) ?_;refine FC (zb Z Z (Vk GH)) ?_;refine ab.one (zb Z Z (Vq C)) Z Z Z V<|ab.one (zC Z Z) Z Z Z V<|FC ((xp Z Z Z).sub (show ∀I v,(zl (zP (mkRat (a.num*x.num) (a.den*x.den)))).den I v->(zl (zP (a*x))).den I v from fun I v h=>by rw [DJ];omega)) ?_;refine ab.nil<|aU.store 1 Z Z Z Z Z Z Z Z (.cons_cons _ (.cons _ (.cons_cons _ .slnil)))<|zM<|Fv ?_;refine zA ?_;refine zg ?_
  exact⟨i+1,a*x,⟨C,by rw [c,j,uZ (fun z p=>z*qv p) 1 hp],xb (bq_mul) C⟩,C,MM⟩
 .have r:i=xs.length:=C;rw [r,B3] at c
  exact zj (zu (e:=by rw [c];rfl))
def ZO [hx:IsQ b l d p k] [hy:IsQ c m e q j] (a:64*(k+j)+4000<=131072:=by decide):G0 G 62 [zR 3 id [[zp b,zD l,zD d],[zp c,zD m,zD e]]] (zl (zP (p*q))):=by
 have h:=zkL (G:=G) (xs:=[(b,l,d),(c,m,e)]) F2 FW;have ee:[(b,l,d),(c,m,e)].foldl (fun z p=>z*qv p) 1=p*q:=by show 1*mkRat (Zd b (val l)) (val d)*mkRat (Zd c (val m)) (val e)=_;rw [hx.val,hy.val,Rat.one_mul]
 exact Ih
def JK [hx:IsQ b l d p k] [hy:IsQ c m e q j] (a:64*(k+j)+4000<=131072:=by decide):G0 G 330 [zl [zp b,zD l,zD d],zl [zp c,zD m,zD e]] (zl (zP (p-q))):=by
 have f:=hy.bq;refine Fq func330 ?_;refine Fm fun i=>?_;refine Fw 5 ?_;refine Fl Z Z (zkJ C) ?_;refine Fi ((zb Z Z (WC a)).sub (show ∀I v,(zl (zP (p+ -q))).den I v->(zl (zP (p-q))).den I v from fun I v h=>by grind)) ?_
 exact Hj
def zcL [hx:IsQ b l d p k] [hy:IsQ c m e q j] (o:64*(k+j)+4000<=131072:=by decide):G0 G 223 [zl [zp b,zD l,zD d],zl [zp c,zD m,zD e]] (MK (vK p q)):=by
 have f:=hx.bq;have a:=hy.bq;have n:=f.bz;have i:=f.bd;have h:=a.bz;have g:=a.bd;refine zs func223 ?_;refine zr<|ae.box Z Z Z Z Z Z fun b2=>ae.box Z Z Z Z Z Z fun r=>zg ?_;refine Fw 4 ?_;refine Fl Z Z (vH C) ?_;refine Fl Z Z (vH C) ?_;refine Fw 17 ?_;refine Fk VW ?_;refine Fl Z Z (ZM GH) ?_;refine Fk VW ?_;refine Fl Z Z (ZM GH) ?_;refine Fl Z Z (zcH GH) ?_;refine Fi ((zb Z Z (UQ GH)).sub (zI oh)) ?_;exact Hj
def zkM [hx:IsQ b l d p k] [hy:IsQ c m e q j] (v:64*(k+j)+4000<=131072:=by decide):G0 G 63 [zl [zp b,zD l,zD d],zl [zp c,zD m,zD e]] (yR [zl (zP (p/q)),MK (if q=0 then 30 else 0)]):=by
 have f:=hx.bq;have a:=hy.bq;have u:=f.bz;have t:=f.bd;have o:Bd q.num.natAbs j:=⟨a.num⟩;have g:IsZ (decide (q.num<0)) (dig q.den) (Zd (decide (q.num<0)) q.den) j:=⟨xe _,by rw [xu],a.lens.2⟩
 have n:=g.bz;have i:=f.lens;have h:=a.lens;refine zs func63 ?_;refine zr<|ae.box Z Z Z Z Z Z fun b2=>ae.box Z Z Z Z Z Z fun x=>Fm fun w=>?_;refine zU 4 V<|zg ?_;refine Fl Z Z (vH C) ?_;refine Fl Z Z (vH C) ?_;refine Fw 19 ?_;refine Fi (zE 2 Z Z Z Z Z) ?_;refine Fl Z Z (ZM GH) ?_;refine Fl Z Z (Vk GH) ?_;refine zo (zb Z Z (Vq C)) ?_;exact HM
variable {b2 c2 g k:Bool} {x1 y1 x2 y2:Rat} {k1 c k2 b:Nat} {l1 l2 d2 a m2 e2 d e:G7} {f:FuncId} {s:SV}
def Zs (I:Imm) (v:Value) (h:(eqS (.func (.func f) #[] #[])).den I v):(wD f []).den I v:=⟨[],h,aq⟩
abbrev JL (x y:Rat):List SV:=[zp (decide (x.num<0)),zD (dig x.num.natAbs),zD (dig x.den),zp (decide (y.num<0)),zD (dig y.num.natAbs),zD (dig y.den)]
def fc (x y:Rat):Rat:=if x<y then y-x else x-y
instance bq_dist {p q:Rat} {k j:Nat} [hp:Bq p k] [hq:Bq q j]:Bq (fc p q) (k+j+1):=by
 unfold fc;split
 .rw [Ao k j];exact bq_sub
 .exact bq_sub
def fp (x y u v:Rat):Int:=if vK x u=0 then vK y v else vK x u
def uw {p q:Rat}:vK p q=0↔p=q:=by
 have:=Vp (p:=p) (q:=q);grind
def oT {x y u v:Rat}:(fp x y u v==0)=decide (x=u/\y=v):=by
 unfold fp;by_cases h:vK x u=0
 .rw [MX h,Vp];exact decide_eq_decide.2 ⟨fun h1=>⟨uw.1 h,h1⟩,fun h1=>h1.2⟩
 .rw [MY h,MT.2 h];exact (MS fun h1=>h (uw.2 h1.1)).symm
def zh3 (x:Rat):0-x= -x:=by grind
abbrev pc (p:(Bool×List Nat×List Nat)×(Bool×List Nat×List Nat)):List SV:=[zp p.1.1,zD p.1.2.1,zD p.1.2.2,zp p.2.1,zD p.2.2.1,zD p.2.2.2]
abbrev zL (p:Rat×Rat):List SV:=JL p.1 p.2
def pv (p:(G5)×(G5)):Rat×Rat:=(qv p.1,qv p.2)
abbrev wL (k:Nat) (p:(Bool×List Nat×List Nat)×(Bool×List Nat×List Nat)):Prop:=(wZ p.1.2.1/\wZ p.1.2.2/\p.1.2.1.length<=k/\p.1.2.2.length<=k)/\wZ p.2.2.1/\wZ p.2.2.2/\p.2.2.1.length<=k/\p.2.2.2.length<=k
theorem xH {b:Bool} {l:G7} {k:Nat} (h:wZ l/\wZ d/\l.length<=k/\d.length<=k) (a:0<k):IsQ b l d (qv (b,l,d)) k:=⟨h.1,h.2.1,Z,h.2.2.1,h.2.2.2,a⟩
def uI:∀ l:G2,(l.flatMap zL).length=l.length*6
 | []=>rfl
 | x::l=>by rw [BM,Aw,uI l];grind
def UT {n m:Int} {p q:Rat} (h1: -9223372036854775808<=n) (c:n<=9223372036854775807) (b: -9223372036854775808<=m) (a:m<=9223372036854775807) (hp:(n:Rat)=p:=by rfl) (hq:(m:Rat)=q:=by rfl):G0 G 188 [MK n,MK m] (zl (JL p q)):=by
 refine Fq func188 ?_;refine Fm fun d=>?_;refine Fk (wK h1 c hp) ?_;refine Fk (wK b a hq) ?_;exact Hj
def zh4:G0 G 289 [eqS (.func (.func f) #[] #[])] (wD 381 [yo [eqS (.func (.func f) #[] #[])]]):=by
 refine Fq func289 ?_;exact Hj
def QF {b:Bool} {r:Rat} (h:G0 G f [zR 3 id [[zp b,zD l1,zD a],[zp b2,zD l2,zD d2]]] (zl (zP r))):G0 G 381 [zl [zp b,zD l1,zD a],zl [zp b2,zD l2,zD d2],yo [eqS (.func (.func f) #[] #[])]] (zl (zP r)):=by
 refine Fq func381 ?_;refine yT fun c=>?_;refine zx<|Fi ((xP Z Z).sub Zs) ?_;refine Fi (yY Z Z Z h) ?_;exact Hj
def VX [One s]:G0 G 216 [s] (wD 325 [yo [s]]):=by
 refine Fq func216 ?_;exact Hj
def WD {caps:List SV} {i h:Bool} {g c:G7} {b a:Rat} (d:∀ I v,s.den I v->(wD f caps).den I v) (h1:G0 G f ([zl [zp i,zD l1,zD g],zl [zp b2,zD l2,zD d2]]++caps) (zl (zP b))) (j:G0 G f ([zl [zp h,zD c,zD e],zl [zp c2,zD m2,zD e2]]++caps) (zl (zP a))):G0 G 325 [zl [zp i,zD l1,zD g,zp h,zD c,zD e],zl [zp b2,zD l2,zD d2,zp c2,zD m2,zD e2],yo [s]] (zl (JL b a)):=by
 refine Fq func325 ?_;refine Fm fun k=>?_;refine zU 13 V<|Fi ((xP Z Z).sub d) ?_;refine zo (yY Z Z Z h1) ?_;refine Fi ((xP Z Z).sub d) ?_;refine Fi (yY Z Z Z j) ?_;exact Hj
def zeK [ao G] {f:Bool} [hx1:IsQ g l1 e x1 k1] [hy1:IsQ f a d y1 c] [hx2:IsQ b2 l2 d2 x2 k2] [hy2:IsQ c2 m2 e2 y2 b] (i:100*(k1+c+k2+b)+21000<=cap:=by decide):G0 G 190 [zl [zp g,zD l1,zD e,zp f,zD a,zD d],zl [zp b2,zD l2,zD d2,zp c2,zD m2,zD e2]] (zl (JL (x1+x2) (y1+y2))):=by
 refine Fq func190 ?_;refine Fm fun j=>?_;refine Fw 5 ?_;refine Fk zh4 ?_;refine Fk VX ?_;refine Fi (yY Z Z Z (WD (fun _ _ h=>h) (QF (vM C)) (QF (vM C)))) ?_;exact Hj
def XQ [ao G] {f:Bool} [hx1:IsQ g l1 e x1 k1] [hy1:IsQ f a d y1 c] [hx2:IsQ b2 l2 d2 x2 k2] [hy2:IsQ c2 m2 e2 y2 b] (h:100*(k1+c+k2+b)+21000<=cap:=by decide):G0 G 189 [zl [zp g,zD l1,zD e,zp f,zD a,zD d],zl [zp b2,zD l2,zD d2,zp c2,zD m2,zD e2]] (zl (JL (x1-x2) (y1-y2))):=by
 refine Fq func189 ?_;refine Fm fun i=>?_;refine Fw 4 ?_;refine Fk VX ?_;refine Fi (yY Z Z Z (WD Zs (uH C) (uH C))) ?_;exact Hj
def zoX [ao G] {f e:Bool} {c:G7} [hx1:IsQ f l1 d x1 k1] [hy1:IsQ e a c y1 b] (g:100*(k1+b)+21500<=cap:=by decide):G0 G 286 [zl [zp f,zD l1,zD d,zp e,zD a,zD c]] (zl (JL (-x1) (-y1))):=by
 refine Fq func286 ?_;refine Fm fun b2=>?_;refine Fw 3 ?_;refine Fl Z Z (UT (p:=0) (q:=0) J J J J) ?_;refine Fi ((zb Z Z (XQ C)).sub (show ∀I v,(zl (JL (0-x1) (0-y1))).den I v->(zl (JL (-x1) (-y1))).den I v from fun I v h=>by rw [<-zh3,<-zh3];omega)) ?_
 exact Hj
def zh5 [ao G] {f:Bool} [hx1:IsQ g l1 e x1 k1] [hy1:IsQ f a d y1 c] {bt:Bool} {lt:G7} {t:Rat} [ht:IsQ bt lt l2 t b] (i:100*(k1+c+2*b)+21000<=cap:=by decide):G0 G 504 [zl [zp g,zD l1,zD e,zp f,zD a,zD d],zl [zp bt,zD lt,zD l2]] (zl (JL (x1*t) (y1*t))):=by
 refine Fq func504 ?_;refine Fm fun j=>?_;refine Fw 7 ?_;refine Fk zh4 ?_;refine Fk VX ?_;refine Fi (yY Z Z Z (WD (fun _ _ h=>h) (QF (We C)) (QF (We C)))) ?_;exact Hj
def zh6 [ao G] {l:Bool} {j i:G7} {d:Nat} [hx1:IsQ l l1 j x1 k1] [hy1:IsQ k a i y1 d] [hx2:IsQ b2 l2 d2 x2 k2] [hy2:IsQ c2 m2 e2 y2 c] {bt:Bool} {lt dt:G7} {t:Rat} [ht:IsQ bt lt dt t b] (n:200*(k1+d+k2+c+2*b)+22000<=cap:=by decide):G0 G 456 [zl [zp l,zD l1,zD j,zp k,zD a,zD i],zl [zp b2,zD l2,zD d2,zp c2,zD m2,zD e2],zl [zp bt,zD lt,zD dt]] (zl (JL (x1+(x2-x1)*t) (y1+(y2-y1)*t))):=by
 have h:=hx1.bq;have f:=hy1.bq;have g:=hx2.bq;have e:=hy2.bq;have m:=ht.bq;refine Fq func456 ?_;refine Fm fun o=>?_;refine Fw 7 ?_;refine Fl Z Z (XQ C) ?_;refine Fl Z Z (zh5 C) ?_;refine Fl Z Z (zeK C) ?_;exact Hj
def UU [ao G] {j:Bool} {i h:G7} [hx1:IsQ k l1 i x1 k1] [hy1:IsQ j a h y1 c] [hx2:IsQ b2 l2 d2 x2 k2] [hy2:IsQ c2 m2 e2 y2 b] (l:100*(k1+c+k2+b)+21000<=cap:=by decide):G0 G 452 [zl [zp k,zD l1,zD i,zp j,zD a,zD h],zl [zp b2,zD l2,zD d2,zp c2,zD m2,zD e2]] (zl (zP (x1*y2-y1*x2))):=by
 have g:=hx1.bq;have e:=hy1.bq;have f:=hx2.bq;have d:=hy2.bq;refine Fq func452 ?_;refine Fm fun m=>?_;refine Fw 13 ?_;refine Fl Z Z (We C) ?_;refine Fl Z Z (We C) ?_;refine Fl Z Z (uH C) ?_;exact Hj
def zeL [ao G] {d:Bool} {c:G7} [hx1:IsQ d l1 c x1 k1] [hx2:IsQ b2 l2 d2 x2 k2] (f:100*(k1+k2)+20000<=cap:=by decide):G0 G 217 [zl [zp d,zD l1,zD c],zl [zp b2,zD l2,zD d2]] (zl (zP (fc x1 x2))):=by
 refine zs func217 ?_;refine zr<|ae.box Z Z Z Z Z Z fun b2=>ae.box Z Z Z Z Z Z fun i=>yT fun g=>?_;refine zM<|zi<|zr<|Fi (zE 2 Z Z Z Z Z) ?_;refine Fk (xo f) ?_;refine zd ?_ ?_<;>intro _ b
 .have a:x1<x2:=by unfold vK at b;by_cases h:x1<x2;exact h;rw [MY h] at b;split at b <;> omega
  refine zJ<|zz ?_;refine zo (zE 2 Z Z Z Z Z) ?_;(iterate 2 refine zw ?_);refine zx<|Fi (zE 2 Z Z Z Z Z) ?_;refine Fl Z Z (uH C) ?_;exact zj (zu (e:=by unfold fc;rw [MX a];rfl))
 .have a:¬ x1<x2:=fun h=>by unfold vK at b;grind
  refine zB<|zr<|Fi (zE 2 Z Z Z Z Z) ?_;refine Fl Z Z (uH C) ?_;exact zj (zu (e:=by unfold fc;rw [MY a];rfl))
def zeM [ao G] {j:Bool} {i h:G7} [hx1:IsQ k l1 i x1 k1] [hy1:IsQ j a h y1 c] [hx2:IsQ b2 l2 d2 x2 k2] [hy2:IsQ c2 m2 e2 y2 b] (l:100*(k1+c+k2+b)+22000<=cap:=by decide):G0 G 131 [zl [zp k,zD l1,zD i,zp j,zD a,zD h],zl [zp b2,zD l2,zD d2,zp c2,zD m2,zD e2]] (zl (zP (fc x1 x2+fc y1 y2))):=by
 have g:=hx1.bq;have e:=hy1.bq;have f:=hx2.bq;have d:=hy2.bq;refine Fq func131 ?_;refine Fm fun n=>?_;refine Zq 4 V Z Z<|ag (zb Z Z VX) Z Z Z ?_;(iterate 2 refine ag (zG Z Z Z Z) Z Z Z ?_);refine FD (yY Z Z Z (WD Zs (zeL C) (zeL C))) ?_;refine ab.nil<|aI Z Z Z Z Z Z Z Z GL Z Z Z fun m=>Fh ?_;refine Fl Z Z (vM C) ?_;exact Hj
def oS [ao G] {i h:Bool} {g b f:G7} {d:Nat} [hx1:IsQ i l1 g x1 k1] [hy1:IsQ h b f y1 d] [hx2:IsQ b2 l2 d2 x2 k2] [hy2:IsQ c2 m2 e2 y2 c] (j:100*(k1+d+k2+c)+21000<=cap:=by decide):G0 G 270 [zl [zp i,zD l1,zD g,zp h,zD b,zD f],zl [zp b2,zD l2,zD d2,zp c2,zD m2,zD e2]] (MK (fp x1 y1 x2 y2)):=by
 refine Fq func270 ?_;refine Fl Z Z (xo C) ?_;refine Fo ?_ ?_<;>intro _ a
 .exact zj (zu (e:=by unfold fp;grind))
 .refine Fl Z Z (xo C) ?_;exact zj (zu (e:=by unfold fp;grind))
def zcM [ao G] {f:Bool} [hx1:IsQ g l1 e x1 k1] [hy1:IsQ f a d y1 c] [hx2:IsQ b2 l2 d2 x2 k2] [hy2:IsQ c2 m2 e2 y2 b] (h:100*(k1+c+k2+b)+21000<=cap:=by decide):G0 G 176 [zl [zp g,zD l1,zD e,zp f,zD a,zD d],zl [zp b2,zD l2,zD d2,zp c2,zD m2,zD e2]] (zp (decide (x1=x2/\y1=y2))):=by
 refine Fq func176 ?_;refine zf (oS h) ?_;refine Fi ((zZ Z Z Z Z).sub (yz oT)) ?_;exact Hj
def JM [ao G] {xs:List ((G5)×(G5))} {k:Nat} (s:0<k) (u:∀ p∈xs,wL k p) (r:2*k+11000<=cap) (j:xs.length<=cap):G0 G 78 [zR 6 pc xs] (zR 6 zL (xs.map pv)):=by
 unfold cap at j
 refine zs func78 ?_;refine Fh ?_;refine zH (yI 48 6)<|Xt [6,5] (fun (i:Nat) (q:G3) z=>(7,ML i)::(2,eqS (rowV q i))::z) (fun i q=>[rowE q 48 6 i (((xs.take i).map pv).flatMap zL)]) (fun i q=>i<=xs.length/\zX q i) (fun i q=>xs.length-i) 0 none ⟨BL _,Z⟩ ?_;rintro i q ⟨hi,hq⟩;refine Fh ?_;refine FP ?_ ?_<;>intro _ t
 .obtain⟨⟨⟨b,l,d⟩,⟨c,m,e⟩⟩,hp⟩:=FU xs i;have g:=u _ (AE hp);have w:IsQ b l d (qv (b,l,d)) k:=xH g.1 s;have v:IsQ c m e (qv (c,m,e)) k:=xH g.2 s;have n:(xs.take (i+1)).map pv=(xs.take i).map pv++[(qv (b,l,d),qv (c,m,e))]:=by rw [Cz,hp];simp [pv]
  refine Fh ?_;refine Fm fun x=>?_;refine wW 9 V<|zg ?_;refine Fk (wT r) ?_;refine Fk (wT r) ?_;refine FL 1 Z Z Z Z hq (by rw [uI];grind) fun h a=>?_;refine zz ?_;refine zM<|Fv ?_;refine Do (i+1) ?_
  exact⟨i+1,h,⟨C,a⟩,C,MN (by rw [n,CB];rfl)⟩
 .have o:i=xs.length:=C;subst o;refine zK<|Fs (yF 0 2 Z Z hq B Z GX GK) ?_;exact zj (zu (e:=by simp))
end Go.Proofs
