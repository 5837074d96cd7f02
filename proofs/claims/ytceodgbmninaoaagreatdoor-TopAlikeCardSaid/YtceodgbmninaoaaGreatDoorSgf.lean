/- Polygons: their edges, each two of these, whether they are. -/
import Derived.Test.YtceodgbmninaoaaGreatDoorSnx
import Derived.Test.YtceodgbmninaoaaGreatDoorSv1
import Derived.Test.YtceodgbmninaoaaGreatDoorSsc
set_option linter.all false
namespace Go.Sv
open Go Go.RowKit
def zrC {P:Program} {G:Imm} {H:HL} {o:Oper} {g:Ha} {st ft k:Nat} {j:Array Field} {f:Field} {x:Operand} {cs:List SV} {s:SV} [ak P ft] (m:P.underlying st=some (.struct j)) (hf:j[k]? =some f) (e:f.type=ft) (hop:o.op= .field st x k) (hx:yW g x=some (zl cs)) (p:cs[f.offset]? =some s):OpOK P G H o g s:=
 yy GW fun I W a _ _ n=>by
  obtain⟨xs,l,c,h1⟩:=n.get GB hx;obtain⟨d,i,u⟩:=ak.h (P:=P) (t:=ft);have r:(isAgg ft).run P W= .ok false W:=by
   unfold isAgg;simp only [Sem.run_bind,run_underlying i,Result.andThen_ok];cases d <;> simp_all
  obtain⟨y,hy,b⟩:=c.get p;have q:xs.toArray[f.offset]? =some y:=by simp [hy]
  refine⟨y,?_,b⟩;simp only [execOp,hop,l,Instr.field,Sem.run_bind,run_underlying m,Result.andThen_ok,hf,asAgg,Sem.run_pure,part,e,r,q,if_false,Bool.false_eq_true]
instance {l:Nat}:One (yieldS l):=⟨YP Z⟩
end Go.Sv
namespace Num
open Go Go.Proofs
def dP (n a b:Nat):List (Nat×Nat):=((List.range a).flatMap fun i=>((List.range n).filter fun j=>decide (i<j)).map fun j=>(i,j))++((List.range b).filter fun j=>decide (a<j)).map fun j=>(a,j)
def KL (n a b:Nat):dP n a (b+1)=if a<b then dP n a b++[(a,b)] else dP n a b:=by
 unfold dP;rw [Co,DQ,Cp,<-Bw];grind
def zih (n a:Nat):dP n a n=dP n (a+1) 0:=by
 unfold dP;rw [Co,CB,List.flatMap_singleton];simp
def zmG (n:Nat):dP n n 0=eG n:=by unfold dP eG;simp
def zu0 {n a b:Nat} (e:a<n) (c:b<=n):dP n a b <+: eG n:=by
 have h1:∀ d,b+d=n->dP n a b <+: dP n a n:=fun d=>by
  induction d generalizing b with
  | zero=>grind
  | succ d ih=>
   intro h;refine List.IsPrefix.trans ?_ (ih (b:=b+1) (by omega) (by omega));rw [KL];grind
 refine (h1 (n-b) C).trans ?_;rw [zih,<-zmG];obtain⟨m,rfl⟩:∃ m,n=a+1+m:=⟨n-(a+1),by omega⟩
 unfold dP;rw [List.range_add,CB];simp
def zu1 {α:Type} {a b:List α} {x:α} (h:a++[x] <+: b):b[a.length]? =some x:=by
 obtain⟨c,rfl⟩:=h;simp
def zo4 {n:Nat} (h:n<2):eG n=[]:=by
 have:n=0\/n=1:=C;rcases this with rfl | rfl <;> rfl
end Num
namespace Go.Proofs
open Go Go.Sv Num Tryz
variable {G:Imm}
variable {xs:List RawP} {i k:Nat} {c:List SV}
abbrev ra (xs:List RawP) (i:Nat):RawP:=xs.getD i default
abbrev rb (xs:List RawP) (i:Nat):RawP:=xs.getD ((i+1)%xs.length) default
abbrev en (xs:List RawP) (i:Nat):List SV:=ze .i64 (i:Nat)::(pc (ra xs i)++pc (rb xs i))
def edN (xs:List RawP) (k:Nat):Nat:=if xs.length<2 then 0 else k
def gm (xs:List RawP):List (List SV):=(List.range (edN xs xs.length)).map fun i=>[zl (en xs i)]
def Uc (xs:List RawP):(gm xs).length=edN xs xs.length:=by simp [gm]
def zmJ (h:i<xs.length) (a:¬ xs.length<2):(gm xs)[i]? =some [zl (en xs i)]:=by simp [gm,edN,h,a]
def zmK (h:(gm xs)[i]? =some c):i<xs.length/\¬ xs.length<2/\c=[zl (en xs i)]:=by
 have a:=yJ h;rw [Uc] at a
 unfold edN at a
 by_cases b:xs.length<2
 .grind
 .rw [MY b] at a
  rw [zmJ a b] at h
  grind
def zrD {a:List SV} (h:a∈gm xs):a.length=1:=by
 simp only [gm,Bc] at h
 grind
def fN (xs:List RawP):List (List SV):=(eG xs.length).map fun x=>[zl (en xs x.1),zl (en xs x.2)]
def zcX (xs:List RawP):(fN xs).length=(eG xs.length).length:=by simp [fN]
def zu3 {a b:Nat} (h1:a<b) (c:b<xs.length):(fN xs)[(dP xs.length a b).length]? =some [zl (en xs a),zl (en xs b)]:=by
 have h:=zu0 (n:=xs.length) (a:=a) (b:=b+1) C C;rw [KL,MX h1] at h
 unfold fN;rw [Ba,zu1 h];rfl
def zu4 (h:(fN xs)[k]? =some c):∃ a b,(eG xs.length)[k]? =some (a,b)/\a<b/\b<xs.length/\c=[zl (en xs a),zl (en xs b)]:=by
 simp only [fN,Ba,DB] at h
 obtain⟨⟨a,b⟩,h1,d⟩:=h;have:=li.1 (AE h1);grind
def zxW {a:List SV} (h:a∈fN xs):a.length=2:=by
 simp only [fN,Bc] at h
 grind
abbrev xR (xs:List RawP):List V2:=xs.map pv
def JP (h:i<xs.length):vc (xR xs) i=pv (ra xs i):=by
 unfold vc;rw [BR,CZ h,Ay,Ba,vx h];rfl
def KM (h:i<xs.length):vc (xR xs) (i+1)=pv (rb xs i):=by
 have a:(i+1)%xs.length<xs.length:=Be _ C;unfold vc;grind
def zii:cJ [eqS (.bool false),G8,G8,eqS (.bool false),G8,G8] (pc default):=⟨fun _ _ h=>h,vz Z,vz Z,fun _ _ h=>h,vz Z,vz Z,trivial⟩
abbrev zcY (xs:List RawP) (i:Nat):Prop:=¬ xs.length<2/\i<xs.length
def zAz [ao G] {p q:RawP} (a:0<k) (hp:wL k p) (hq:wL k q) (g:400*k+21000<=cap):G0 G 176 [zl (pc p),zl (pc q)] (zp (decide (pv p=pv q))):=by
 have f:=xH (b:=p.1.1) hp.1 a;have e:=xH (b:=p.2.1) hp.2 a;have d:=xH (b:=q.1.1) hq.1 a;have c:=xH (b:=q.2.1) hq.2 a;have h:G0 G 176 [zl (pc p),zl (pc q)] (zp (decide ((pv p).1=(pv q).1/\(pv p).2=(pv q).2))):=zcM C;rw [decide_eq_decide.2 (show pv p=pv q↔_ from Prod.ext_iff)];exact h
def Jb (xs:List RawP) (k:Nat):Bool:=decide (3<=xs.length)&&((eG xs.length).take k).all (zcS (xR xs))
def zo6 (xs:List RawP):Jb xs 0=decide (3<=xs.length):=by unfold Jb;simp
def zo7 {x:Nat×Nat} (h:(eG xs.length)[k]? =some x):Jb xs (k+1)=(Jb xs k&&zcS (xR xs) x):=by
 unfold Jb;rw [Cz,h];grind
def zrE (xs:List RawP):Jb xs (eG xs.length).length=ZW (xR xs):=by unfold Jb ZW;simp
def zkY (h:Jb xs k=false):ZW (xR xs)=false:=by
 unfold Jb at h;unfold ZW;grind
def zij {a b:Nat} (d:a<xs.length) (c:b<xs.length):zcS (xR xs) (a,b)=(!decide (pv (ra xs a)=pv (ra xs b))&&decide ((qB (wk (pv (ra xs a)) (pv (rb xs a))) (wk (pv (ra xs b)) (pv (rb xs b)))).1=KI xs.length a b)):=by
 unfold zcS kin;rw [JP d,JP c,KM d,KM c,BR]
def zo8 (hi:i<4611686018427387904):G0 G 493 [zR 6 pc xs,ML i] (yR [zl (pc (if zcY xs i then ra xs i else default)),zl (pc (if zcY xs i then rb xs i else default)),zp (decide (zcY xs i))]):=by
 refine Fq func493 ?_;refine Fm fun l=>?_;refine yT fun k=>?_;refine zg ?_;refine zi<|yL (K:=fun S1=>aC S1 ⟨34,[(19,zp (!decide (zcY xs i))),(5,G9 k),(4,G9 l),(1,ML i),(0,zR 6 pc xs)],[⟨some k,48,[eqS (.bool false),G8,G8,eqS (.bool false),G8,G8],0⟩,⟨some l,48,[eqS (.bool false),G8,G8,eqS (.bool false),G8,G8],0⟩],[],(0,false)⟩) ?_ ?_
 .apply zJ;(iterate 2 refine zz ?_);refine FI ?_ ?_<;>intro _ j
  .refine zg ?_;exact (by rw [MS (fun h=>h.1 C)];exact MM)
  .iterate 3 refine zz ?_
   refine FF ?_ ?_<;>intro c
   .grind
   .exact (by rw [show (!decide (zcY xs i))=decide ((xs.length:Int)<=(i:Int)) by grind];exact MM)
 .intro S1 p;refine xq p<|Fp ?_ ?_<;>intro d
  .have f:¬ zcY xs i:=by rw [DA] at d;exact MP d
   refine xv 4 [2,3] _ V (.cons_cons _ (.cons_cons _ .slnil))<|ab.one (zE 1 Z Z Z Z Z) Z Z Z V<|FD (zE 0 Z Z Z Z Z) ?_;refine .loc1n 1 (xf Z Z Z Z Gg) Z Z Z ?_;rintro s1 H1 ⟨rfl,rfl⟩;refine⟨(.cons_cons _ (.cons_cons _ .slnil)),?_⟩;refine FB ?_;refine .loc1n 0 (xf Z Z Z Z Gg) Z Z Z ?_;rintro s1 H1 ⟨rfl,rfl⟩;refine⟨(.cons_cons _ (.cons_cons _ .slnil)),?_⟩;refine ab.nil<|zz ?_;exact ae.ghost _ Z (JB (show cB [⟨some k,48,[eqS (.bool false),G8,G8,eqS (.bool false),G8,G8],0⟩,⟨some l,48,[eqS (.bool false),G8,G8,eqS (.bool false),G8,G8],0⟩] [⟨some k,48,pc default,0⟩,⟨some l,48,pc default,0⟩] from ⟨Z,Z,Z,Z,fun I xs o=>zii.dens o,Z,Z,Z,Z,fun I xs o=>zii.dens o,trivial⟩))<|zM<|zj (zu (e:=by grind))
  .have m:zcY xs i:=by rw [DS] at d;exact MO d
   obtain⟨b,a⟩:=m;have q:(i+1)%xs.length<xs.length:=Be _ C;refine xv 14 [12,13] _ V (.cons _ (.cons _ .slnil)) ?_;(iterate 2 refine FB ?_);refine FC (zh Z Z Z C (y:=ra xs i) (vx a)) ?_;refine FD (yK (z:=((i+1:Nat):Int)) Z Z Z (MW some C) (wrap_i64 C C)) ?_;refine FD ((wt Z Z Z C C).sub (zI (n:=(((i+1)%xs.length:Nat):Int)) B)) ?_;refine FD (zh Z Z Z C (y:=rb xs i) (vx q)) ?_;refine .loc1n 1 (xf Z Z Z Z Gg) Z Z Z ?_;rintro s1 H1 ⟨rfl,rfl⟩;refine⟨(.cons _ (.cons _ .slnil)),?_⟩;refine FB ?_;refine .loc1n 0 (xf Z Z Z Z Gg) Z Z Z ?_;rintro s1 H1 ⟨rfl,rfl⟩;refine⟨(.cons _ (.cons _ .slnil)),?_⟩;refine ab.nil<|zg ?_;exact zj (zu (e:=by rw [MX ⟨b,a⟩,MX ⟨b,a⟩,MR ⟨b,a⟩];rfl))
def za2:xc prog G 492 [yo [zR 6 pc xs]] (gm xs):=by
 refine xM func492 Z Z Z Z fun l E hy=>zg ?_;refine uM 7 Z fun k=>?_;unfold yE at k;refine xi (fun g=>⟨30,[(9,ML g),(8,MK xs.length),(0,yieldS l),(1,yo [zR 6 pc xs])],[],[],(edN xs g,false)⟩) (fun g=>g<=xs.length) (fun g=>xs.length-g) 0 (BL _) ?_ ?_
 .rw [show edN xs 0=0 by unfold edN;simp];exact MM
 intro g m;refine Fh ?_;refine Fo ?_ ?_<;>intro _ f
 .have e:g<xs.length:=by omega
  refine Fl Z Z (zo8 C) ?_;refine Fm fun o=>?_;refine yT fun n=>?_;(iterate 2 refine zw ?_);refine zz ?_;apply zx
  refine FJ ?_ ?_<;>intro b
  .have a:=MO b;have j:edN xs g=g:=MY a.1;rw [show (if zcY xs g then ra xs g else default)=ra xs g from MX a,show (if zcY xs g then rb xs g else default)=rb xs g from MX a];(iterate 5 refine zz ?_);refine zz ?_;rw [j];refine ae.yield Z hy Z Z Z (zmJ e a.1) (yU _) (gB Z Z Z Z) Z Z fun y=>zg ?_;refine Fp ?_ ?_<;>intro c
   .exact zj ⟨.inl Z,.inr c⟩
   .refine za ((g+1:Nat):Int) ?_;refine zz ?_;exact ae.ghost _ Z (zF (BZ _))<|zM ⟨g+1,(by omega:g+1<=xs.length),by omega,Z,zk,wq _,Z,by simp only;rw [c,show edN xs (g+1)=g+1 from MY a.1]⟩
  .have i:=MP b;have d:=M4 fun h=>i ⟨h,e⟩;refine zg ?_;refine Fu ?_;refine za ((g+1:Nat):Int) ?_;refine zz ?_;exact ae.ghost _ Z (zF (BZ _))<|zM ⟨g+1,(by omega:g+1<=xs.length),by omega,Z,zk,wq _,Z,by simp only;rw [show edN xs (g+1)=0 from MX d,show edN xs g=0 from MX d]⟩
 .exact⟨.inr Z,.inl (by rw [Uc,(C:g=xs.length)])⟩
def zcZ:G0 G 441 [zR 6 pc xs] (wD 492 [yo [zR 6 pc xs]]):=by
 refine Fq func441 ?_;exact zj zt
def zf5:xc prog G 440 [yo [zR 6 pc xs]] (fN xs):=by
 refine xM func440 Z Z Z Z fun l E hy=>zg ?_;refine Fk zcZ ?_;refine uN Z Z za2 (fun j h=>zrD h) J Z
  (fun k _ i=>i=((dP xs.length k 0).length,false))
  (fun e _ i=>e= .ret/\i.2=true) Z ?_ ?_ ?_
 .rintro t a j h i r rfl;obtain⟨q,m,rfl⟩:=zmK r;refine zJ<|Fm fun s=>?_;refine⟨Z,?_⟩;refine zg ?_;refine Fk zcZ ?_;refine uN Z Z za2 (fun j h=>zrD h) J Z
   (fun k g i=>i=((dP xs.length a k).length,false)/\g=⟨some s,414,en xs a,0⟩::h)
   (fun e _ i=>e= .ret/\i.2=true) ⟨Z,Z⟩ ?_ ?_ ?_
  .rintro l2 b j g i p ⟨rfl,rfl⟩;obtain⟨n,_,rfl⟩:=zmK p;refine zJ<|Fm fun u=>?_;refine⟨Z,?_⟩;refine zN<|zr ?_;(iterate 4 refine zz ?_);refine FI ?_ ?_<;>intro _ f
   .refine zg ?_;refine ae.yield Z hy Z Z Z (zu3 C n) (yU _) (gB Z Z Z Z) Z Z fun y=>?_;(iterate 2 refine zz ?_);refine ae.ghost _ Z (zF (B5 _ _))<|zM<|Fp ?_ ?_<;>intro d
    .exact zj ⟨Z,d⟩
    .exact⟨by rw [d,KL,MX C];simp,Z⟩
   .refine zz ?_;(iterate 5 refine zq ?_);refine zz ?_;refine ae.ghost _ Z (zF (B5 _ _))<|zM<|Fu ?_;exact⟨by rw [KL,MY C],Z⟩
  .rintro g i D ⟨rfl,rfl⟩;exact (show (_,false)=(_,false) by rw [Uc,show edN xs xs.length=xs.length from MY m,zih])
  .rintro g i D e c o ⟨rfl,hi⟩;exact⟨Z,hi⟩
 .rintro h i D rfl;exact⟨.inr Z,.inl (by rw [Uc,zcX];unfold edN;split;rw [zo4 (by omega)];rfl;rw [zmG])⟩
 .rintro h i D e c o ⟨rfl,hi⟩;exact⟨.inl Z,.inr hi⟩
def zik:G0 G 359 [zR 6 pc xs] (wD 440 [yo [zR 6 pc xs]]):=by
 refine Fq func359 ?_;exact zj zt
set_option maxHeartbeats 900000 in
def za3 [ao G] (L:0<k) (v:∀ p∈xs,wL k p) (O:100000*k+100000<=cap):G0 G 268 [zR 6 pc xs] (zp (ZW (xR xs))):=by
 refine zs func268 ?_;refine zg ?_;refine wO<|zr ?_;(iterate 2 refine zz ?_);refine Fi ((zZ Z Z Z Z).sub (yz (c:=Jb xs 0) (by rw [zo6];grind))) ?_;refine yT fun n=>?_;refine Fh ?_;refine zi<|wN<|yL (K:=fun S1=>∃ D,aC S1 ⟨59,[(3,G9 n)],[⟨some n,4,[zp (ZW (xR xs))],0⟩],D,(0,false)⟩) ?_ ?_
 .refine uM 7 Z fun N=>?_;unfold yE at N;refine zg ?_;refine Fk zik ?_;refine uN Z Z zf5 (fun M h=>zxW h) J Z
   (fun m h i=>i=(0,false)/\h=[⟨some n,4,[zp (Jb xs m)],0⟩])
   (fun e h i=>e= .exit 0/\i=(0,false)/\∃ m,Jb xs m=false/\h=[⟨some n,4,[zp false],0⟩]) ⟨Z,Z⟩ ?_ ?_ ?_
  .rintro l m M h i F ⟨rfl,rfl⟩;obtain⟨a,b,H,P,s,rfl⟩:=zu4 F;have t:a<xs.length:=C;have o:=zo7 H;rw [zij t s] at o
   refine zr<|Fm fun E=>?_;refine Fm fun A=>?_;refine⟨Z,?_⟩;refine zg ?_;refine yL (K:=fun S1=>aC S1 ⟨59,[(6,ze .i8 (KI xs.length a b)),(5,G9 A),(4,G9 E),(3,G9 n),(1,yo [zR 6 pc xs])],[⟨some A,414,en xs b,0⟩,⟨some E,414,en xs a,0⟩,⟨some n,4,[zp (Jb xs m)],0⟩],[],(0,false)⟩) ?_ ?_
   .refine yL (K:=fun S1=>∃ w:Bool,(w=true↔(b=a+1\/(a=0/\b+1=xs.length)))/\aC S1 ⟨59,[(32,zp w),(6,ze .i8 0),(5,G9 A),(4,G9 E),(3,G9 n),(1,yo [zR 6 pc xs])],[⟨some A,414,en xs b,0⟩,⟨some E,414,en xs a,0⟩,⟨some n,4,[zp (Jb xs m)],0⟩],[],(0,false)⟩) ?_ ?_
    .refine zg ?_;refine za ((a+1:Nat):Int) ?_;refine FI ?_ ?_<;>intro _ z
     .refine zg ?_;exact⟨true,⟨fun _=>.inl C,fun _=>rfl⟩,MM⟩
     .iterate 3 refine zz ?_
      refine FE ?_ ?_<;>intro _ y
      .refine Do (xs.length-1) ?_;exact⟨decide ((b:Int)=((xs.length-1:Nat):Int)),(by rw [MQ];omega),MM⟩
      .exact⟨false,⟨fun h=>(by cases h),fun h=>by omega⟩,MM⟩
    .rintro S1 ⟨w,I,f⟩;refine xq f<|Fp ?_ ?_<;>intro r
     .exact (by rw [show KI xs.length a b=1 from MX (I.1 r)];exact MM)
     .exact (by rw [show KI xs.length a b=0 from MY (fun x=>by grind)];exact MM)
   .intro S1 f;refine xq f<|yL (K:=fun S1=>aC S1 ⟨59,[(3,G9 n),(1,yo [zR 6 pc xs])],[⟨some n,4,[zp (Jb xs (m+1))],0⟩],[],(0,false)⟩) ?_ ?_
    .refine zJ<|FK (zQ 2 Z Z Z Z) ?_ ?_<;>intro g
     .refine zg ?_;refine zo (zb Z Z (zAz L (v _ (xZ t)) (v _ (xZ s)) C)) ?_;refine zz ?_;refine FJ ?_ ?_<;>intro j
      .refine zg ?_;refine Fl Z Z (zo3 L (v _ (xZ t)) (v _ (xZ (Be _ C))) (v _ (xZ s)) (v _ (xZ (Be _ C))) O) ?_;refine zo ((AX (ze .i8 (qB (wk (pv (ra xs a)) (pv (rb xs a))) (wk (pv (ra xs b)) (pv (rb xs b)))).1)<|zrC (ft:=65) Tryz.underlying214 Z Z Z Z Z)) ?_;(iterate 3 refine zz ?_);refine zw ?_;exact ae.ghost _ Z (zF (DT _ (DT _ (Dd _))))<|zM (by rw [o,g,j];exact MM)
      .refine zz ?_;(iterate 12 refine zq ?_);refine zz ?_;refine zw ?_;exact ae.ghost _ Z (zF (DT _ (DT _ (Dd _))))<|zM (by rw [o,g,j];exact MM)
     .refine zz ?_;(iterate 6 refine zq ?_);(iterate 2 refine zz ?_);(iterate 12 refine zq ?_);refine zz ?_;refine zw ?_;exact ae.ghost _ Z (zF (DT _ (DT _ (Dd _))))<|zM (by rw [o,g];exact MM)
    .intro S1 f;refine xq f<|zg ?_;refine Fp ?_ ?_<;>intro u
     .exact⟨Z,Z,m+1,by grind,by grind⟩
     .exact⟨Z,Z⟩
  .rintro h i D ⟨rfl,rfl⟩;exact⟨_,by rw [zcX,zrE];exact an (aa Z trivial) Z⟩
  .rintro h i D e c Q ⟨rfl,rfl,m,F,rfl⟩;show ∃D,_;exact⟨_,by rw [zkY F];exact an (aa Z trivial) Z⟩
 .rintro S1 ⟨D,f⟩;refine xq f<|zg ?_;exact zj zt
end Go.Proofs
namespace Num
open Go Go.Proofs
variable {α:Type} {p:α->Bool} {l:List α} {g:Nat} {x:α}
def fK {α:Type} (p:α->Bool) (l:List α):Int:=if l.any p=true then (l.findIdx p:Nat) else -1
def KN (h:l[g]? =some x) (hp:p x=false) (a:(l.take g).any p=false):(l.take (g+1)).any p=false:=by
 rw [Cz,h,List.any_append,a];grind
def nI (h:l[g]? =some x) (hp:p x=true) (a:(l.take g).any p=false):fK p l=(g:Nat):=by
 obtain⟨d,e⟩:=EC.1 h;have h1:=EE.2 ⟨x,AE h,hp⟩;unfold fK;rw [MX h1,(List.findIdx_eq d).2 ⟨by grind,fun j c=>?_⟩];have b:l[j]∈l.take g:=AE (i:=j) (by grind);grind
def bm (a:l.any p=false):fK p l= -1:=by unfold fK;grind
def mN (p:α->Bool) (l:List α):decide (0<=fK p l)=l.any p:=by
 unfold fK;grind
end Num
namespace Go.Proofs
open Go Go.Sv Num Tryz
variable {G:Imm}
variable {xs:List RawP} {caps:List SV} {a:List (List RawP)} {k:Nat} {f:FuncId} {p:List RawP->Bool} {n:List (Int)} {m:Int->Bool} {q l:RawP}
def zeS (xs:List RawP):WU xs=ue (xR xs):=by
 unfold WU ue;rw [BR];split
 .rfl
 .refine Bk fun i hi=>?_;have hi:=AI.1 hi;have a:(i+xs.length-1)%xs.length<xs.length:=Be _ C;unfold kf trn;have h1:vc (xR xs) (i+xs.length-1)=pv (va xs i).1:=by
   have:=zmE (xR xs) (i+xs.length-1);rw [BR] at this;rw [<-this,JP a];rfl
  rw [h1,JP hi,KM hi];rfl
def zxX [ao G] {p:RawP} (a:0<k) (hp:wL k p) (hq:wL k q) (g:400*k+21000<=cap):G0 G 452 [zl (pc p),zl (pc q)] (zl (zP (x2 (pv p) (pv q)))):=by
 have f:=xH (b:=p.1.1) hp.1 a;have e:=xH (b:=p.2.1) hp.2 a;have d:=xH (b:=q.1.1) hq.1 a;have c:=xH (b:=q.2.1) hq.2 a;exact UU C
theorem zw2 {p:RawP} (a:0<k) (hp:wL k p) (hq:wL k q):Bq (x2 (pv p) (pv q)) (4*k+1):=xb (Wg (Zb a hp) (Zb a hq)) C
def KO (xs:List RawP) (g:Nat):Rat:=(fb g fun i=>x2 (pv (ra xs i)) (pv (rb xs i))).sum
def zc0 (xs:List RawP) (g:Nat):KO xs (g+1)=KO xs g+x2 (pv (ra xs g)) (pv (rb xs g)):=by unfold KO;rw [zeQ,cx]
def zeT (xs:List RawP):KO xs xs.length=gK (xR xs):=by
 unfold KO gK;rw [BR];congr 1;exact zkU fun i hi=>by rw [JP hi,KM hi]
theorem oq (b:0<k) (a:∀ p∈xs,wL k p):∀ g,g<=xs.length->Bq (KO xs g) (g*(4*k+2)+1)
 | 0,_=>xb bq_zero (by omega)
 | g+1,hg=>by
  have h1:=oq b a g (by omega);have c:=zw2 b (a _ (xZ (C:g<xs.length))) (a _ (xZ (i:=(g+1)%xs.length) (Be _ (by omega))));rw [zc0];exact xb bq_add (by rw [Bs];omega)
theorem zu5 (b:0<k) (a:∀ p∈xs,wL k p):Bq (gK (xR xs)) (xs.length*(4*k+2)+1):=by rw [<-zeT];exact oq b a _ (Af _)
def zo9 {a:List (Int)} {p:Int->Bool} (j:a.length<=2000000000) (h:∀ n∈a,G0 G f ([MK n]++caps) (zp (p n))):G0 G 438 [zR 1 KG a,wD f caps] (MK (fK p a)):=by
 refine Fq func438 ?_;refine xi (fun g=>⟨_,[(8,ML g),(7,MK a.length),(1,wD f caps),(0,zR 1 KG a)],[],[],(0,false)⟩) (fun g=>g<=a.length/\(a.take g).any p=false) (fun g=>a.length-g) 0 ⟨BL _,Z⟩ MM ?_;rintro g ⟨i,c⟩;refine Fh ?_;refine Fo ?_ ?_<;>intro _ d
 .obtain⟨x,hx⟩:=FU a g;refine Fh ?_;refine Fi ((yY Z Z Z (h x (AE hx)))) ?_;refine Fp ?_ ?_<;>intro b
  .exact zj (zu (e:=by rw [nI hx b c]))
  .refine Do (g+1) ?_;exact⟨g+1,⟨by omega,KN hx b c⟩,by omega,MM⟩
 .exact zj (zu (e:=by rw [bm (l:=a) (by grind)]))
def zpa {a:List (Int)} {p:Int->Bool} (b:a.length<=2000000000) (h:∀ n∈a,G0 G f ([MK n]++caps) (zp (p n))):G0 G 356 [zR 1 KG a,wD f caps] (zp (a.any p)):=by
 refine Fq func356 ?_;refine Fk (zo9 b h) ?_;exact zj (zu (e:=MW zp (mN p a)))
def zpb (j:a.length<=2000000000) (h:∀ n∈a,G0 G f ([zR 6 pc n]++caps) (zp (p n))):G0 G 355 [zR 1 (fun r=>[zR 6 pc r]) a,wD f caps] (MK (fK p a)):=by
 refine Fq func355 ?_;refine xi (fun g=>⟨_,[(8,ML g),(7,MK a.length),(1,wD f caps),(0,zR 1 (fun r=>[zR 6 pc r]) a)],[],[],(0,false)⟩) (fun g=>g<=a.length/\(a.take g).any p=false) (fun g=>a.length-g) 0 ⟨BL _,Z⟩ MM ?_;rintro g ⟨i,c⟩;refine Fh ?_;refine Fo ?_ ?_<;>intro _ d
 .obtain⟨x,hx⟩:=FU a g;refine Fh ?_;refine Fi ((yY Z Z Z (h x (AE hx)))) ?_;refine Fp ?_ ?_<;>intro b
  .exact zj (zu (e:=by rw [nI hx b c]))
  .refine Do (g+1) ?_;exact⟨g+1,⟨by omega,KN hx b c⟩,by omega,MM⟩
 .exact zj (zu (e:=by rw [bm (l:=a) (by grind)]))
def zeU (b:a.length<=2000000000) (h:∀ n∈a,G0 G f ([zR 6 pc n]++caps) (zp (p n))):G0 G 264 [zR 1 (fun r=>[zR 6 pc r]) a,wD f caps] (zp (a.any p)):=by
 refine Fq func264 ?_;refine Fk (zpb b h) ?_;exact zj (zu (e:=MW zp (mN p a)))
def zf8 {n:Int}:G0 G 358 [MK n] (zp (n != 1)):=by
 refine Fq func358 ?_;exact Hj
def zxY (a:xs.length<=jP):G0 G 356 [zR 1 KG (WU xs),eqS (.func (.func 358) #[] #[])] (zp ((WU xs).any fun n=>n != 1)):=
 (zpa (caps:=[]) (by unfold WU;split;exact BL _;rw [BR,DU];unfold jP at a;omega) fun n _=>zf8).args ⟨fun _ _ h=>h,Zs,trivial⟩
def zil [ao G] (f:0<k) (d:∀ p∈xs,wL k p) (g:100000*k+100000<=cap) (b:xs.length<=jP):G0 G 266 [zR 6 pc xs] (zp (Ut (xR xs))):=by
 have c:((WU xs).all fun n=>decide (n=1))= !((WU xs).any fun n=>n != 1):=by
  rw [List.not_any_eq_all_not];congr 1;funext n;by_cases h:n=1 <;> simp [h]
 refine Fq func266 ?_;refine Fk (zic f d C (Ag b J)) ?_;refine zf (zxY b) ?_;refine FF ?_ ?_<;>intro a
 .refine Fk (za3 f d g) ?_;exact zj (zu (e:=by unfold Ut;rw [<-zeS,c,a];rfl))
 .exact zj (zu (e:=by unfold Ut;rw [<-zeS,c,a];rfl))
def zpc [ao G] (f:0<k) (d:∀ p∈xs,wL k p) (o:100*(xs.length*(4*k+2)+4*k+2)+30000<=cap):G0 G 371 [zR 6 pc xs] (zl (zP (gK (xR xs)))):=by
 have c:=o;unfold cap at c
 refine Fq func371 ?_;refine Fm fun b2=>?_;refine Fl Z Z (wK (q:=KO xs 0) J J Z) ?_;refine yT fun s=>?_;refine Fh ?_;refine uM 7 Z fun m=>?_;unfold yE at m;refine Qj [8,7,3,2,0] (fun (g:Nat) z=>(9,ML g)::z) (fun g=>[⟨some s,46,zP (KO xs g),0⟩,⟨some b2,46,[eqS (.bool false),G8,G8],0⟩]) (fun g=>g<=xs.length) (fun g=>xs.length-g) 0 (BL _) ?_;intro g l;refine Fh ?_;refine Fo ?_ ?_<;>intro _ b
 .have a:g<xs.length:=by omega
  have j:(g+1)%xs.length<xs.length:=Be _ (by omega);have i:=d _ (xZ a);have h:=d _ (xZ j);have v:=oq f d g l;have t:=zw2 f i h;have r:g*(4*k+2)<=xs.length*(4*k+2):=BK _ l;refine Fi (zh Z Z Z (by omega) (y:=ra xs g) (vx a)) ?_;refine Fm fun u=>?_;refine wW 13 V<|zg ?_;refine Do (g+1) ?_;refine Fi ((wt Z Z Z (by omega) (by omega)).sub (zI (n:=(((g+1)%xs.length:Nat):Int)) B)) ?_;refine Fi (zh Z Z Z (by omega) (y:=rb xs g) (vx j)) ?_;refine zo (zb Z Z (zxX f i h (by omega))) ?_;refine Fh ?_;refine zo (zb Z Z (show zm _ _ _ _ (zl (zP (KO xs (g+1)))) from by rw [zc0];exact vM C)) ?_;refine zM<|zw ?_;refine ae.ghost _ Z (zF (B5 _ _))<|zg ?_
  exact Iv
 .exact zj (zu (e:=by rw [<-zeT,(C:xs.length=g)];rfl))
def zrF [ao G] (b:0<k) (a:∀ p∈xs,wL k p) (c:100*(xs.length*(4*k+2)+4*k+2)+30000<=cap):G0 G 275 [zR 6 pc xs] (MK (vK (gK (xR xs)) 0)):=by
 have d:=zu5 b a;refine Fq func275 ?_;refine Fk (zpc b a c) ?_;refine Fl Z Z (VY C) ?_;exact Hj
end Go.Proofs
namespace Num
open Go Go.Proofs
end Num
namespace Go.Sv
open Go Go.RowKit
def zmL {P:Program} {G:Imm} {H:HL} {o:Oper} {g:Ha} {t u:TypeId} {x y:Operand} {k:IntKind} {m n:Int} (hop:o.op= .binOp .rem t x y u) (hx:yW g x=some (ze k m)) (hy:yW g y=some (ze k n)) (c:n≠0):OpOK P G H o g (ze k (m.tmod n)):=
 yy GW fun I W a _ _ b=>by
  have h1:a.eval x= .int k m:=b.get GB hx;have d:a.eval y= .int k n:=b.get GB hy;refine⟨.int k (m.tmod n),?_,Z⟩;simp [execOp,hop,h1,d,eqGuard,binOp,Op.intDiv,c]
end Go.Sv
namespace Go.Proofs
open Go Go.Sv Num
variable {G:Imm}
def l6 {z:Int} {n:Nat} (h:0<n):∃ K:Nat,K<n/\(z.tmod n+n)%(n:Int)=(K:Int)/\ -(n:Int)<z.tmod n/\z.tmod n<n:=by
 have h1:=Int.lt_tmod_of_pos z (C:(0:Int)<n);have b:=Int.tmod_lt_of_pos z (C:(0:Int)<n);have a:=Int.emod_nonneg (z.tmod n+n) (C:(n:Int)≠0);have c:=Int.emod_lt_of_pos (z.tmod n+n) (C:(0:Int)<n);exact⟨((z.tmod n+n)%(n:Int)).toNat,by omega,(DV a).symm,by omega,b⟩
abbrev zaf (p:RawP):Prop:=(wZ p.1.2.1/\wZ p.1.2.2)/\wZ p.2.2.1/\wZ p.2.2.2
theorem WV {b:Bool} {l d:G7} (h:wZ l) (h':wZ d):IsQ b l d (qv (b,l,d)) (l.length+d.length+1):=xH ⟨h,h',C,C⟩ C
def zrH:∀ l:List RawP,(l.flatMap pc).length=l.length*6
 | []=>rfl
 | x::l=>by rw [BM,Aw,zrH l];grind
abbrev W1:List V2:=[(0,0),(1,0),(2,0),(0,2)]
abbrev W2:List V2:=[(0,0),(2,0),(1,0),(1,1)]
def zxZ:100000*1+100000<=cap:=J
section
end
def zu6 {u v:V2} {k j:Nat} (h:Bp u k) (h':Bp v j) (a:128*(k+j)+23000<=131072):G0 G 221 [zl (zL u),zl (zL v)] (zl (zP (u.1*v.2-u.2*v.1))):=by
 have:=h.x;have:=h.y;have:=h'.x;have:=h'.y;exact KE C
theorem zmM {p q:RawP} (hp:zaf p) (hq:zaf q):Bp (Yw (pv p) (pv q)) (Ua p+Ua q+3):=by
 have e:=(WV (b:=p.1.1) hp.1.1 hp.1.2).bq;have d:=(WV (b:=p.2.1) hp.2.1 hp.2.2).bq;have c:=(WV (b:=q.1.1) hq.1.1 hq.1.2).bq;have a:=(WV (b:=q.2.1) hq.2.1 hq.2.2).bq;unfold Ua;exact⟨xb (bq_sub (hp:=e) (hq:=c)) C,xb (bq_sub (hp:=d) (hq:=a)) C⟩
def zw3 {p q:RawP} (hp:zaf p) (hq:zaf q) (f:64*(Ua p+Ua q+4)+23000<=65536):G0 G 222 [zl (pc p),zl (pc q)] (zl (zL (Yw (pv p) (pv q)))):=by
 have e:=WV (b:=p.1.1) hp.1.1 hp.1.2;have d:=WV (b:=p.2.1) hp.2.1 hp.2.2;have c:=WV (b:=q.1.1) hq.1.1 hq.1.2;have a:=WV (b:=q.2.1) hq.2.1 hq.2.2;exact JN (by unfold Ua at f;omega)
def zk0 {a b p:RawP} (c:zaf a) (d:zaf b) (hp:zaf p) (f:128*(Ua a+Ua b+Ua p+Ua a+6)+23000<=65536):G0 G 134 [zl (pc a),zl (pc b),zl (pc p)] (MK (vK (cr (pv a) (pv b) (pv p)) 0)):=by
 have e:=zmM d c;have b2:=zmM hp c;have g:=Wg e b2;refine Fq Tryz.func134 ?_;refine Fw 9 ?_;refine Fk (zw3 d c C) ?_;refine Fk (zw3 hp c C) ?_;refine Fk (zu6 e b2 C) ?_;refine Fl Z Z (show zm _ _ _ _ (MK (vK (cr (pv a) (pv b) (pv p)) 0)) from US C) ?_;exact Hj
end Go.Proofs
namespace Num
open Go Go.Proofs
variable {l:List V2} {p x a b c:V2} {f:V2->Bool} {K:Nat} {k:Rat}
abbrev dt (a b p:V2):Rat:=(p.1-a.1)*(p.1-b.1)+(p.2-a.2)*(p.2-b.2)
def eH (a b p:V2):Bool:=decide (cr a b p=0)&&decide (dt a b p<=0)
def ka (x:Rat):0<=x*x:=by
 rcases Rat.le_total (a:=0) (b:=x) with h | h
 .exact DN h h
 .have:=DN (GZ:0<= -x) (GZ:0<= -x);grind
def lh {x:Rat} (h:x*x=0):x=0:=M4 fun hx=>hx (mz h hx)
def zmO {a b p:Rat} (h:eM a b p):(p-a)*(p-b)<=0:=by
 rcases h with h | h
 .have:=DN (GZ:0<=p-a) (GZ:0<=b-p);grind
 .have:=DN (GZ:0<=a-p) (GZ:0<=p-b);grind
def WE:eH a b p=true↔em a b p:=by
 unfold eH;rw [AD,decide_eq_true_eq,decide_eq_true_eq];constructor
 .rintro⟨h1,i⟩;by_cases d:a=b
  .subst d;have k:=ka (p.1-a.1);have j:=ka (p.2-a.2);unfold dt at i
   have n:=lh (x:=p.1-a.1) (by grind);have e2:=lh (x:=p.2-a.2) (by grind);have:p=a:=Prod.ext (by grind) (by grind);rw [this];exact zuW _ _
  .obtain⟨s,c⟩:∃ s,p=gp a b s:=by
    unfold cr qz at h1
    rcases ln d with f | f
    .refine⟨(p.1-a.1)/(b.1-a.1),?_⟩;obtain⟨s,c⟩:∃ s,s=(p.1-a.1)/(b.1-a.1):=⟨_,Z⟩;have e:s*(b.1-a.1)=p.1-a.1:=by rw [c];exact DO f
     rw [<-c];have e2:(b.1-a.1)*(p.2-(a.2+(b.2-a.2)*s))=0:=by
      have:p.1=a.1+s*(b.1-a.1):=by grind
      rw [this] at h1;grind
     have:=mz e2 f;exact Prod.ext (by show p.1=a.1+(b.1-a.1)*s;grind) (by show p.2=a.2+(b.2-a.2)*s;grind)
    .refine⟨(p.2-a.2)/(b.2-a.2),?_⟩;obtain⟨s,c⟩:∃ s,s=(p.2-a.2)/(b.2-a.2):=⟨_,Z⟩;have e:s*(b.2-a.2)=p.2-a.2:=by rw [c];exact DO f
     rw [<-c];have e2:(b.2-a.2)*(p.1-(a.1+(b.1-a.1)*s))=0:=by
      have:p.2=a.2+s*(b.2-a.2):=by grind
      rw [this] at h1;grind
     have:=mz e2 f;exact Prod.ext (by show p.1=a.1+(b.1-a.1)*s;grind) (by show p.2=a.2+(b.2-a.2)*s;grind)
   refine zry.2 ⟨s,?_,?_,c⟩;all_goals
    obtain⟨D,l⟩:∃ D,D=(b.1-a.1)*(b.1-a.1)+(b.2-a.2)*(b.2-a.2):=⟨_,Z⟩;have k:=ka (b.1-a.1);have j:=ka (b.2-a.2);have h:0<D:=by
     refine Rat.not_le.1 fun g=>d ?_;have n:=lh (x:=b.1-a.1) (by grind)
     have e2:=lh (x:=b.2-a.2) (by grind);exact Prod.ext (by grind) (by grind)
    have e:dt a b p=s*(s-1)*D:=by rw [c,l];unfold dt gp;grind
    rw [e] at i
    refine ED.1 fun g=>?_
   .have:=DM (DM (GZ:0< -s) (GZ:0<1-s)) h;grind
   .have:=DM (DM (GZ:0<s) (GZ:0<s-1)) h;grind
 .rintro⟨h1,i,m⟩;have:=zmO i;have:=zmO m;grind
def Ud (l:List V2) (p:V2):Nat:=(l.takeWhile fun x=>decide (vN x p<0)).length
def Jc (l:List V2) (p:V2):List V2:=if l[Ud l p]? =some p then l else l.take (Ud l p)++[p]++l.drop (Ud l p)
def zrI (a:K<=l.length) (h1:∀ x∈l.take K,vN x p<0) (b:∀ x,l[K]? =some x->¬ vN x p<0):K=Ud l p:=by
 induction l generalizing K with
 | nil=>simp at a;subst a;rfl
 | cons y l ih=>
  unfold Ud;cases K with
  | zero=>
   have:=b y Z;rw [DW,MY (by grind)];rfl
  | succ K=>
   have:=h1 y B;rw [DW,MX (by grind),Ap];congr 1;exact ih (by grind) (fun x hx=>h1 x (by grind)) (fun x hx=>b x (by assumption))
def zu7 (a:K=Ud l p) (hx:l[K]? =some x) (e:x=p):Jc l p=l:=by unfold Jc;grind
def zim (a:K=Ud l p) (h:∀ x,l[K]? =some x->x≠p):Jc l p=l.take K++[p]++l.drop K:=by
 unfold Jc;grind
def zx0 (l:List V2) (p:V2):Ud l p<=l.length:=(List.takeWhile_prefix _).length_le
def ek:∀ {l:List V2},x∈l.takeWhile f->f x=true
 | [],h=>by simp at h
 | y::l,h=>by
  rw [DW] at h
  split at h
  . rename_i g;rcases DZ.1 h with rfl | h;exact g;exact ek h
  grind
theorem zu8 (l:List V2) (p:V2):(Jc l p).length<=l.length+1:=by
 have:=zx0 l p;unfold Jc;grind
theorem zu9:x∈Jc l p↔x∈l\/x=p:=by
 unfold Jc;split
 .grind
 .rw [Bu,Bu,AS];have e:x∈l↔x∈l.take (Ud l p)\/x∈l.drop (Ud l p):=by rw [<-Bu,BB]
  grind
theorem zrJ:l.takeWhile f=l.take (l.takeWhile f).length:=by
 induction l with
 | nil=>rfl
 | cons y l ih=>
  rw [DW];grind
theorem zrK (h:l[(l.takeWhile f).length]? =some x):f x=false:=by
 induction l with
 | nil=>grind
 | cons y l ih=>
  rw [DW] at h
  grind
abbrev Srt (l:List V2):Prop:=l.Pairwise fun x y=>vN x y<0
def gV {q:V2}:vN p q<0↔le2 p q/\p≠q:=by
 rw [UV];constructor
 .exact fun h=>⟨(bf p q).elim id fun g=>M1 g h,fun e=>h (e▸Vs p)⟩
 .exact fun⟨h1,b⟩ a=>b (Zt h1 a)
def zmP {q r:V2} (h1:vN p q<0) (d:vN q r<0):vN p r<0:=by
 obtain⟨a,b⟩:=gV.1 h1;obtain⟨c,_⟩:=gV.1 d;refine gV.2 ⟨XR a c,fun e=>?_⟩;subst e;exact b (Zt a c)
theorem zva (h:Srt l):Srt (Jc l p):=by
  unfold Jc
  split
  . exact h
  . rename_i a
    have ht:l.takeWhile (fun x=>decide (vN x p<0))=l.take (Ud l p):=zrJ;have lo:∀ x∈l.take (Ud l p),vN x p<0:=fun x hx=>by
      rw [<-ht] at hx
      simpa using ek hx
    have hi:∀ x∈l.drop (Ud l p),vN p x<0:=fun x hx=>by
      cases g:l[Ud l p]? with
      | none=>rw [AN (List.getElem?_eq_none_iff.1 g)] at hx;grind
      | some y=>
        have f:¬ vN y p<0:=by have:=zrK g;simpa using this
        have c:y≠p:=fun e=>a (by rw [g,e])
        have b:=gV.2 ⟨(bf p y).elim id fun q=>M1 (gV.2 ⟨q,c⟩) f,Ne.symm c⟩;obtain⟨d,hy⟩:=EC.1 g;rw [AO d,hy] at hx
        rcases DZ.1 hx with e | hx
        . grind
        . have hp:=h.sublist (List.drop_sublist (Ud l p) l)
          rw [AO d,hy] at hp
          exact zmP b ((EF.1 hp).1 x hx)
    have h1:=h.sublist (List.take_sublist (Ud l p) l);have i:=h.sublist (List.drop_sublist (Ud l p) l);refine EG.2 ⟨EG.2 ⟨h1,DY _ _,fun x hx y hy=>?_⟩,i,fun x hx y hy=>?_⟩
    . grind
    . rcases Bu.1 hx with hx | hx
      . exact zmP (lo x hx) (hi y hy)
      grind
def zc2 (a b c d:V2) (l:List V2) (x:V2):List V2:=if (eH a b x&&eH c d x)=true then Jc l x else l
def Wh (a b c d:V2) (k:Nat):List V2:=([a,b,c,d].take k).foldl (zc2 a b c d) []
abbrev wm (a b c d:V2):List V2:=Wh a b c d 4
def zeV {d:V2} {k:Nat} (h:[a,b,c,d][k]? =some x):Wh a b c d (k+1)=zc2 a b c d (Wh a b c d k) x:=by
 unfold Wh;rw [Cz,h,Dt];rfl
theorem zeW {d:V2}:∀ (r l:List V2),Srt l->Srt (r.foldl (zc2 a b c d) l)/\∀ x,x∈r.foldl (zc2 a b c d) l↔x∈l\/(x∈r/\Bo a b c d x)
  | [],l,h=>⟨h,fun x=>by simp⟩
  | y::r,l,h=>by
    rw [Au];have f:Srt (zc2 a b c d l y)/\∀ x,x∈zc2 a b c d l y↔x∈l\/(x=y/\Bo a b c d y):=by
      unfold zc2
      split
      . rename_i g
        rw [AD,WE,WE] at g;exact⟨zva h,fun x=>by rw [zu9];grind⟩
      . rename_i g
        rw [AD,WE,WE] at g;grind
    obtain⟨j,i⟩:=zeW r _ f.1;refine⟨j,fun x=>?_⟩;grind
theorem nH (a b c d:V2) (k:Nat):Srt (Wh a b c d k)/\∀ x,x∈Wh a b c d k↔x∈[a,b,c,d].take k/\Bo a b c d x:=by
 obtain⟨h1,e⟩:=zeW (a:=a) (b:=b) (c:=c) (d:=d) ([a,b,c,d].take k) [] List.Pairwise.nil;exact⟨h1,fun x=>by unfold Wh;grind⟩
theorem oo (a b c d:V2):∀ k,(Wh a b c d k).length<=k
 | 0=>Af _
 | k+1=>by
  have e:=oo a b c d k;cases h:[a,b,c,d][k]? with
  | none=>
   have:Wh a b c d (k+1)=Wh a b c d k:=by
    have:=List.getElem?_eq_none_iff.1 h;unfold Wh;rw [BC this,BC (D5 this)]
   grind
  | some x=>
   rw [zeV h];unfold zc2;split
   . have:=zu8 (Wh a b c d k) x;omega
   . omega
theorem KP {d:V2}:x∈wm a b c d↔(x=a\/x=b\/x=c\/x=d)/\Bo a b c d x:=by
 rw [(nH a b c d 4).2];simp
def gH (a b c d:V2):Int×V2×V2:=
 if 2<=(wm a b c d).length then (2,(wm a b c d).getD 0 (0,0),(wm a b c d).getD ((wm a b c d).length-1) (0,0))
 else if (wm a b c d).length=1 then (1,(wm a b c d).getD 0 (0,0),(wm a b c d).getD 0 (0,0))
 else if ¬den a b c d=0/\eH a b (lnP a b c d)=true/\eH c d (lnP a b c d)=true then (1,lnP a b c d,lnP a b c d) else gf
theorem zrL {d P:V2} (e:P=if den a b c d=0 then (0,0) else lnP a b c d) (f:¬ 2<=(wm a b c d).length) (g:¬ (wm a b c d).length=1):
 gH a b c d=if (!decide (den a b c d=0)&&eH a b P&&eH c d P)=true then (1,P,P) else gf:=by
 unfold gH;grind
theorem zin (a b:V2):((wk a b).1=a/\(wk a b).2=b)\/((wk a b).1=b/\(wk a b).2=a):=by unfold wk;grind
theorem zpe (a b c d:V2):(kin a b c d=2->∃ p q,p∈wm a b c d/\q∈wm a b c d/\p≠q)/\(kin a b c d=1->(∃p,p∈wm a b c d)\/¬ den a b c d=0):=by
 have r:=kC a b;have ht:=kC c d;have k:=zin a b;have j:=zin c d;have lo:QZ (wk a b) (wk c d)=(wk a b).1\/QZ (wk a b) (wk c d)=(wk c d).1:=by unfold QZ;split <;> simp
 have hi:Ja (wk a b) (wk c d)=(wk a b).2\/Ja (wk a b) (wk c d)=(wk c d).2:=by unfold Ja;split <;> simp
 have f:∀ p,(p=QZ (wk a b) (wk c d)\/p=Ja (wk a b) (wk c d))->YH (wk a b) p=true->YH (wk c d) p=true->p∈wm a b c d:=fun p hp h1 i=>by
  rw [YT r,lj] at h1
  rw [YT ht,lj] at i
  refine KP.2 ⟨?_,h1,i⟩;grind
 have dd:den a b c d=0->den (wk a b).1 (wk a b).2 (wk c d).1 (wk c d).2=0:=fun h=>by
  unfold den at h ⊢
  grind
 unfold kin qB;split
 .exact⟨fun e=>M1 e J,fun e=>M1 e J⟩
 .split
  .rename_i _ h;rw [AD,AD,AD] at h
   obtain⟨⟨⟨h1,i⟩,t⟩,s⟩:=h;refine⟨fun e=>⟨_,_,f _ (.inl Z) h1 i,f _ (.inr Z) t s,fun q=>?_⟩,fun _=>.inl ⟨_,f _ (.inl Z) h1 i⟩⟩;simp only at e;rw [MX (QG.2 q)] at e;omega
  .split
   .exact⟨fun e=>M1 e J,fun e=>M1 e J⟩
   .rename_i g;split
    .grind
    .exact⟨fun e=>M1 e J,fun e=>M1 e J⟩
theorem zvb (a b c d:V2):(gH a b c d).1=kin a b c d:=by
  obtain⟨k2,k1⟩:=zpe a b c d;have i:=zuT a b c d;have k:=(nH a b c d 4).1;unfold gH
  split
  . rename_i h
    obtain⟨l,f⟩:∃ l,l=wm a b c d:=⟨_,Z⟩;rw [<-f] at h
    match l,h with
    | x::y::r,_=>
      have hx:x∈wm a b c d:=by rw [<-f];simp
      have hy:y∈wm a b c d:=by rw [<-f];simp
      have n:x≠y:=by
        have:Srt (x::y::r):=by rw [f];exact k
        exact (gV.1 ((EF.1 this).1 y B)).2
      have g:=(KP.1 hx).2;have t:=(KP.1 hy).2;rcases i with ⟨_,e⟩ | ⟨_,p,_,e⟩ | ⟨e,_⟩
      . grind
      . grind
      omega
  . rename_i h
    have m:kin a b c d≠2:=fun e=>by
      obtain⟨p,q,hp,hq,o⟩:=k2 e;obtain⟨l,f⟩:∃ l,l=wm a b c d:=⟨_,Z⟩;rw [<-f] at h hp hq
      match l,h with
      | [],_=>grind
      | [x],_=>grind
      | x::y::r,h=>grind
    split
    . rename_i h1
      obtain⟨l,f⟩:∃ l,l=wm a b c d:=⟨_,Z⟩;rw [<-f] at h1
      match l,h1 with
      | [x],_=>
        have hx:x∈wm a b c d:=by rw [<-f];simp
        have g:=(KP.1 hx).2;rcases i with ⟨_,e⟩ | ⟨e,_⟩ | ⟨e,_⟩
        . grind
        . omega
        omega
    . rename_i h1
      split
      . rename_i j
        have g:Bo a b c d (lnP a b c d):=⟨WE.1 j.2.1,WE.1 j.2.2⟩;rcases i with ⟨_,e⟩ | ⟨e,_⟩ | ⟨e,_⟩
        . grind
        . omega
        omega
      . rename_i j
        rcases i with ⟨e,_⟩ | ⟨e,p,hp,_⟩ | ⟨e,_⟩
        . exact e.symm
        . exfalso
          rcases k1 e with ⟨q,hq⟩ | s
          . grind
          . have f:=zrx s
            have:p=lnP a b c d:=zeO s hp.1.1 hp.2.1 f.1 f.2;exact j ⟨s,by rw [<-this];exact WE.2 hp.1,by rw [<-this];exact WE.2 hp.2⟩
        omega
end Num
namespace Go.Proofs
open Go Go.Sv Num Tryz
variable {G:Imm}
variable {p q a b:RawP} {w u k j:Nat} {t:Rat}
def Ps (p:RawP) (w:Nat):Prop:=∃ kx ky,kx+ky<=w/\IsQ p.1.1 p.1.2.1 p.1.2.2 (qv p.1) kx/\IsQ p.2.1 p.2.2.1 p.2.2.2 (qv p.2) ky
def ii (hp:zaf p):Ps p (Ua p+2):=⟨_,_,by unfold Ua;omega,WV hp.1.1 hp.1.2,WV hp.2.1 hp.2.2⟩
def j9 {v:V2} (h1:Bq v.1 k) (c:Bq v.2 j):Ps (Xs v) (k+j):=by
 have e:=vj v;have b:IsQ (Xs v).1.1 (Xs v).1.2.1 (Xs v).1.2.2 v.1 k:=isQ_can;have a:IsQ (Xs v).2.1 (Xs v).2.2.1 (Xs v).2.2.2 v.2 j:=isQ_can;refine⟨k,j,Af _,?_,?_⟩
 .rw [show qv (Xs v).1=v.1 from MW Prod.fst e];exact b
 .rw [show qv (Xs v).2=v.2 from MW Prod.snd e];exact a
def zx2 (h:Ps p w):Ps (Xs (pv p)) w:=by
 obtain⟨k,j,d,h1,e⟩:=h;obtain⟨b,c,a,i⟩:=j9 (v:=pv p) h1.bq e.bq;exact⟨b,c,Ag a d,i⟩
def gg (h:Ps p w) (a:w<=u):Ps p u:=let ⟨k,j,hw,i⟩:=h;⟨k,j,Ag hw a,i⟩
def fI (hp:Ps p w) (hq:Ps q u) (i:64*(w+u)+5000<=131072):G0 G 222 [zl (pc p),zl (pc q)] (zl (pc (Xs (Yw (pv p) (pv q))))):=by
 obtain⟨k1,f,g,d,c⟩:=hp;obtain⟨k2,e,h,b,a⟩:=hq;exact JN C
def XF (hp:Ps p w) (hq:Ps q u):Ps (Xs (Yw (pv p) (pv q))) (w+u+2):=by
 obtain⟨k1,f,g,d,c⟩:=hp;obtain⟨k2,e,h,b,a⟩:=hq;exact gg (j9 (bq_sub (hp:=d.bq) (hq:=b.bq)) (bq_sub (hp:=c.bq) (hq:=a.bq))) C
def mS (hp:Ps p w) (hq:Ps q u) (i:64*(w+u)+5000<=131072):G0 G 221 [zl (pc p),zl (pc q)] (zl (zP (x2 (pv p) (pv q)))):=by
 obtain⟨k1,f,g,d,c⟩:=hp;obtain⟨k2,e,h,b,a⟩:=hq;exact KE C
theorem Vu (hp:Ps p w) (hq:Ps q u):Bq (x2 (pv p) (pv q)) (w+u+1):=by
 obtain⟨k1,f,g,d,c⟩:=hp;obtain⟨k2,e,h,b,a⟩:=hq;have:=d.bq;have:=c.bq;have:=b.bq;have:=a.bq;show Bq ((pv p).1*(pv q).2-(pv p).2*(pv q).1) _;exact xb (bq_sub (hp:=bq_mul (hp:=d.bq) (hq:=a.bq)) (hq:=bq_mul (hp:=c.bq) (hq:=b.bq))) C
def atS (hp:Ps p w) (hq:Ps q u) (ht:Bq t k) (j:128*(w+u+2*k)+6000<=131072):G0 G 332 [zl (pc p),zl (pc q),zl (zP t)] (zl (pc (Xs (gp (pv p) (pv q) t)))):=by
 obtain⟨k1,f,g,d,c⟩:=hp;obtain⟨k2,e,i,b,a⟩:=hq;exact zoY C
def zx3 (hp:Ps p w) (hq:Ps q u) (ht:Bq t k):Ps (Xs (gp (pv p) (pv q) t)) (2*w+u+2*k+4):=by
 obtain⟨k1,f,g,b,a⟩:=hp;obtain⟨k2,e,h,d,c⟩:=hq;exact gg (j9 (bq_add (hp:=b.bq) (hq:=bq_mul (hp:=bq_sub (hp:=d.bq) (hq:=b.bq)) (hq:=ht))) (bq_add (hp:=a.bq) (hq:=bq_mul (hp:=bq_sub (hp:=c.bq) (hq:=a.bq)) (hq:=ht)))) C
theorem zrM {q:Rat}:vK q 0<=0↔q<=0:=by unfold vK;grind
theorem zCv {c d:RawP} {g:Nat} (j:Ps a w) (i:Ps b w) (h:Ps c w) (f:Ps d w) (e:g<4):∃ x,[a,b,c,d][g]? =some x/\Ps x w/\[pv a,pv b,pv c,pv d][g]? =some (pv x):=by
 grind
theorem zvc {c d:RawP} {g:Nat} (i:Ps a w) (h:Ps b w) (f:Ps c w) (e:Ps d w):∀ y∈Wh (pv a) (pv b) (pv c) (pv d) g,Ps (Xs y) w:=fun y hy=>by
 have:=BT (((nH ..).2 y).1 hy).1;simp only [DZ,D6,or_false] at this;rcases this with rfl | rfl | rfl | rfl <;> apply zx2 <;> assumption
def zCw (hp:Ps p w) (hq:Ps q u) (i:64*(w+u)+5000<=131072):G0 G 333 [zl (pc p),zl (pc q)] (zl (zP ((pv p).1*(pv q).1+(pv p).2*(pv q).2))):=by
 obtain⟨k1,f,g,d,c⟩:=hp;obtain⟨k2,e,h,b,a⟩:=hq;exact zkO C
theorem zvd (hp:Ps p w) (hq:Ps q u):Bq ((pv p).1*(pv q).1+(pv p).2*(pv q).2) (w+u+1):=by
 obtain⟨k1,b,g,f,e⟩:=hp;obtain⟨k2,a,h,d,c⟩:=hq;exact xb (bq_add (hp:=bq_mul (hp:=f.bq) (hq:=d.bq)) (hq:=bq_mul (hp:=e.bq) (hq:=c.bq))) C
def zCx (hp:Ps p w) (hq:Ps q u) (i:64*(w+u)+5000<=131072):G0 G 135 [zl (pc p),zl (pc q)] (MK (vN (pv p) (pv q))):=by
 obtain⟨k1,f,g,d,c⟩:=hp;obtain⟨k2,e,h,b,a⟩:=hq;exact zcN C
def zw4 (hp:Ps p w) (hq:Ps q u) (j:64*(w+u)+5000<=131072):G0 G 89 [zl (pc p),zl (pc q)] (zp (decide (pv p=pv q))):=by
 obtain⟨k1,f,g,d,c⟩:=hp;obtain⟨k2,e,i,b,a⟩:=hq;have h:G0 G 89 [zl (pc p),zl (pc q)] (zp (decide ((pv p).1=(pv q).1/\(pv p).2=(pv q).2))):=zh7 C;rw [decide_eq_decide.2 (show (pv p=pv q↔(pv p).1=(pv q).1/\(pv p).2=(pv q).2) from Prod.ext_iff)];exact h
def lJ (hp:Ps p w) (e:64*w+2000<=131072):G0 G 87 [zR 6 id [pc p]] (zR 6 zL [pv p]):=by
 obtain⟨k1,c,d,a,b⟩:=hp;have h:=za0 (G:=G) (xs:=[p]) (k:=max k1 c) (by have:=a.pos;omega) (fun q hq=>by
  rw [AS.1 hq]
  exact⟨⟨a.lim,a.limd,by have:=a.len;omega,by have:=a.lend;omega⟩,b.lim,b.limd,by have:=b.len;omega,by have:=b.lend;omega⟩) C (J:1<=cap)
 exact h.args ⟨fun I v h=>ke h,trivial⟩
theorem KQ {v:Nat} (d:Ps a w) (f:Ps b u) (hp:Ps p v) (m:64*(2*w+u+2*v+5)+5000<=131072):G0 G 226 [zl (pc a),zl (pc b),zl (pc p)] (zp (eH (pv a) (pv b) (pv p))):=by
 have l:=XF f d;have c2:=XF hp d;have k:=XF hp f;have j:=Vu l c2;have i:=zvd c2 k;rw [vj,vj] at j i;have j:Bq (cr (pv a) (pv b) (pv p)) _:=j;have i:Bq (dt (pv a) (pv b) (pv p)) _:=i;refine Fq func226 ?_;refine Fw 9 ?_;refine Fk (fI f d C) ?_;refine Fk (fI hp d C) ?_;refine Fk (show zm _ _ _ _ (zl (zP (cr (pv a) (pv b) (pv p)))) from by have h:=mS (G:=G) l c2 C;rw [vj,vj] at h;exact h) ?_;refine Fl Z Z (show zm _ _ _ _ (MK (vK (cr (pv a) (pv b) (pv p)) 0)) from US C) ?_;refine Fo ?_ ?_<;>intro _ c
 .have g:¬ cr (pv a) (pv b) (pv p)=0:=fun e=>c (by rw [e];rfl)
  exact zj (zu (e:=by unfold eH;grind))
 .have g:=uw.1 c;refine Fw 10 ?_;refine Fk (fI hp d C) ?_;refine Fk (fI hp f C) ?_;refine Fk (show zm _ _ _ _ (zl (zP (dt (pv a) (pv b) (pv p)))) from by have h:=zCw (G:=G) c2 k C;rw [vj,vj] at h;exact h) ?_;refine Fl Z Z (show zm _ _ _ _ (MK (vK (dt (pv a) (pv b) (pv p)) 0)) from US C) ?_;exact zj (zu (e:=by unfold eH;rw [MR g,C5];exact MW zp (decide_eq_decide.2 zrM)))
def zpf {l:List V2} (H:∀ x∈l,Ps (Xs x) w) (hp:Ps p w) (K:128*w+5000<=131072) (L:l.length<=1000):G0 G 331 [zR 6 zL l,zl (pc p)] (zR 6 zL (Jc l (pv p))):=by
 refine Fq func331 ?_;refine xi (fun k=>⟨_,[(5,ML k),(3,yo (pc p)),(0,zR 6 zL l)],[],[],(0,false)⟩) (fun k=>k<=l.length/\∀ x∈l.take k,vN x (pv p)<0) (fun k=>l.length-k) 0 ⟨BL _,fun x hx=>by simp at hx⟩ (aA (aa Z (aa Z (aa Z trivial)))) ?_;rintro k ⟨F,n⟩;refine zi<|zU 13 V ?_;(iterate 3 refine zz ?_);refine FE ?_ ?_<;>intro _ q
 .have A:k<l.length:=C;obtain⟨x,hx⟩:∃ x,l[k]? =some x:=⟨_,AL A⟩;have E:=H x (AE hx);refine Fh ?_;refine Fk (show zm _ _ _ _ (MK (vN x (pv p))) from by have h:=zCx (G:=G) E hp C;rw [vj] at h;exact h) ?_;refine Fo ?_ ?_<;>intro _ z
  .refine Do (k+1) ?_;exact⟨k+1,⟨C,fun y hy=>by
    rw [Cz,hx] at hy
    grind⟩,C,MM⟩
  .have b:k=Ud l (pv p):=zrI F n fun y hy=>by grind
   refine zU 12 V ?_;(iterate 3 refine zz ?_);refine Fi ((zZ Z Z Z Z).sub (yz (MR C))) ?_;refine Fk (show zm _ _ _ _ (zp (decide (x=pv p))) from by have h:=zw4 (G:=G) E hp C;rw [vj] at h;exact h) ?_;refine FR ?_ ?_<;>intro o
   .exact zj (zu (e:=by rw [zu7 b hx (MO o)]))
   .have a:Jc l (pv p)=l.take k++[pv p]++l.drop k:=zim b fun y hy=>by grind
    refine zg ?_;refine ae.buildRow Z Z Z Z Z Z J Z (.inl Z) Z Z fun D j=>zg ?_;refine Fi ((xU (m:=0) Z Z (.inl ⟨Z,Z⟩) (.inr ⟨_,_,Z,Z⟩) (.inl Z) C C).sub (show ∀I v,(zR 6 zL ((l.take k).drop 0)).den I v->(zR 6 zL (l.take k)).den I v from fun I v h=>by rw [CI] at h;exact h)) ?_;refine FL 0 Z Z Z Z j Z fun u i=>?_;refine zg ?_;refine qS [0,1,2,3,5,6,7,4,8,9] 9 [7,8] _ V V (.cons _ .slnil)<|FC (zC Z Z) ?_;refine FC (zb Z Z (lJ hp C)) ?_;refine FD ((xU (m:=0) Z Z (.inr ⟨_,_,Z,Z⟩) (.inl ⟨Z,Z,Z⟩) (.inl Z) C C).sub (show ∀I v,(zR 6 zL ((l.take l.length).drop k)).den I v->(zR 6 zL (l.drop k)).den I v from fun I v h=>by rw [B3] at h;exact h)) ?_
    refine FH 0 Z Z Z Z i (by show (List.flatMap zL (l.take k)).length=_;rw [uI,Br]) fun t g=>⟨(.cons _ .slnil),?_⟩
    refine FB ?_;refine FH 0 Z Z Z Z g F3 fun s d=>⟨(.cons _ .slnil),?_⟩;refine ab.nil<|ae.ghost _ Z (yF 0 48 Z Z d (l:=Jc l (pv p)) (f:=zL) (by grind) (by grind) GX F6)<|zg ?_
    exact zj zt
 .have r:k=l.length:=C;have b:k=Ud l (pv p):=zrI F n fun x hx=>by grind
  have a:Jc l (pv p)=l.take k++[pv p]++l.drop k:=zim b fun x hx=>by grind
  refine Fu ?_;refine zU 12 V ?_;(iterate 3 refine zz ?_);refine Fi ((zZ Z Z Z Z).sub (yz (MS C))) ?_;refine yM Z Z<|zg ?_;refine ae.buildRow Z Z Z Z Z Z J Z (.inl Z) Z Z fun D j=>zg ?_;refine Fi ((xU (m:=0) Z Z (.inl ⟨Z,Z⟩) (.inr ⟨_,_,Z,Z⟩) (.inl Z) C C).sub (show ∀I v,(zR 6 zL ((l.take k).drop 0)).den I v->(zR 6 zL (l.take k)).den I v from fun I v h=>by rw [CI] at h;exact h)) ?_;refine FL 0 Z Z Z Z j Z fun u i=>?_;refine zg ?_;refine qS [0,1,2,3,5,6,7,4,8,9] 9 [7,8] _ V V (.cons _ .slnil)<|FC (zC Z Z) ?_;refine FC (zb Z Z (lJ hp C)) ?_;refine FD ((xU (m:=0) Z Z (.inr ⟨_,_,Z,Z⟩) (.inl ⟨Z,Z,Z⟩) (.inl Z) C C).sub (show ∀I v,(zR 6 zL ((l.take l.length).drop k)).den I v->(zR 6 zL (l.drop k)).den I v from fun I v h=>by rw [B3] at h;exact h)) ?_
  refine FH 0 Z Z Z Z i (by show (List.flatMap zL (l.take k)).length=_;rw [uI,Br]) fun t g=>⟨(.cons _ .slnil),?_⟩
  refine FB ?_;refine FH 0 Z Z Z Z g F3 fun s d=>⟨(.cons _ .slnil),?_⟩;refine ab.nil<|ae.ghost _ Z (yF 0 48 Z Z d (l:=Jc l (pv p)) (f:=zL) (by grind) (by grind) GX F6)<|zg ?_
  exact zj zt
theorem zk5 {c d:RawP} (q:Ps a w) (p:Ps b w) (o:Ps c w) (n:Ps d w) (s:64*(5*w+5)+5000<=131072):G0 G 224 [zl (pc a),zl (pc b),zl (pc c),zl (pc d)] (zR 6 zL (wm (pv a) (pv b) (pv c) (pv d))):=by
 refine zs func224 ?_;apply zr;(iterate 5 refine zz ?_);refine zx<|zo ((yt Z Z).sub (show ∀I v,(G8).den I v->(zR 6 zL (Wh (pv a) (pv b) (pv c) (pv d) 0)).den I v from fun I v h=>by cases h;exact UI)) ?_;refine zg ?_;refine Fi (zy Z Z J Z B V V) ?_;refine xi (fun g=>⟨_,[(11,ML g),(9,zR 6 zL (Wh (pv a) (pv b) (pv c) (pv d) g)),(10,zR 6 pc [a,b,c,d]),(7,yo (pc d)),(6,yo (pc c)),(5,yo (pc b)),(4,yo (pc a))],[],[],(0,false)⟩) (fun g=>g<=4) (fun g=>4-g) 0 (BL _) (aA (aa Z (aa Z ⟨⟨_,Z,fun I v h=>ke h⟩,zk⟩))) ?_
 intro g t;refine Fh ?_;refine Fo ?_ ?_<;>intro _ m
 .obtain⟨x,hx,k,r⟩:=zCv q p o n (C:g<4);have i:=zeV r;refine zU 16 V<|zg ?_;refine zo (zh Z Z Z (by omega) hx) ?_;refine zz ?_
  refine FG (zb Z Z (KQ q p k C)) ?_ ?_<;>intro e
  .refine Fl Z Z (KQ o n k C) ?_;refine Fp ?_ ?_<;>intro j
   .refine Fl Z Z (zpf (zvc q p o n) k C (by have:=oo (pv a) (pv b) (pv c) (pv d) g;omega)) ?_;refine Do (g+1) ?_;exact⟨g+1,(by omega:g+1<=4),by omega,aA (aa Z (xm Z (by rw [i];unfold zc2;grind) zk))⟩
   .refine Do (g+1) ?_;exact⟨g+1,(by omega:g+1<=4),by omega,aA (aa Z (xm Z (by rw [i];unfold zc2;grind) zk))⟩
  .refine Fu ?_;refine Do (g+1) ?_;exact⟨g+1,(by omega:g+1<=4),by omega,aA (aa Z (xm Z (by rw [i];unfold zc2;grind) zk))⟩
 .obtain rfl:g=4:=by omega
  exact zj zt
def zga {c d:RawP} (ha:Ps a w) (hb:Ps b u) (hc:Ps c k) (hd:Ps d j) (hs:128*(5*w+3*u+6*k+4*j+20)+6000<=131072):G0 G 225 [zl (pc a),zl (pc b),zl (pc c),zl (pc d)] (yR [zl (zL (if den (pv a) (pv b) (pv c) (pv d)=0 then (0,0) else lnP (pv a) (pv b) (pv c) (pv d))),zp (!decide (den (pv a) (pv b) (pv c) (pv d)=0))]):=by
 have c1:=XF hb ha;have c2:=XF hd hc;have c3:=XF hc ha;have c4:=Vu c1 c2;have c5:=Vu c3 c2;rw [vj,vj] at c4 c5;have c4:Bq (den (pv a) (pv b) (pv c) (pv d)) _:=c4;have c6:Bq (lnR (pv a) (pv b) (pv c) (pv d)) _:=bq_div (hp:=c5);refine zs func225 ?_;refine zg ?_;refine yT fun b8=>?_;refine Fh ?_;apply iK
 .refine qA 6 7 (by decide) ?_ (dQ [0,1,2,3,4,5,7,6,8,9] (by rfl) ?_)
  .refine Kt 10 [6,7,8,9] _ V (.refl _)<|ag ((AX (zl (pc b))<|zG Z Z Z Z)) Z Z Z<|ag ((AX (zl (pc a))<|zG Z Z Z Z)) Z Z Z<|ag (zb Z Z (fI hb ha C)) Z Z Z<|ag ((AX (zl (pc d))<|zG Z Z Z Z)) Z Z Z<|ag ((AX (zl (pc c))<|zG Z Z Z Z)) Z Z Z<|ag (zb Z Z (fI hd hc C)) Z Z Z ?_
   refine ab.nil ⟨_,Z,ar.alloc Z Z Z Z fun b10=>⟨.cons _ (.refl _),ab.nil ⟨_,Z,ar.alloc Z Z Z Z fun b11=>⟨.cons _ (.cons _ (.refl _)),ab.nil ⟨_,Z,ar.store 1 Z Z Z Z Z Z Z Z (.cons _ (.cons _ (.refl _))) (ab.nil ⟨_,Z,ar.store 0 Z Z Z Z Z Z Z Z (.cons _ (.cons _ (.refl _))) (ab.nil (ae.nil ?_))⟩)⟩⟩⟩⟩⟩;exact⟨Z,b10,b11,.refl⟩
  .refine Kt 10 [6,7,8,9] _ V (.refl _)<|ag ((AX (zl (pc b))<|zG Z Z Z Z)) Z Z Z<|FB ?_;refine ag (zb Z Z (fI hb ha C)) Z Z Z<|FB ?_;refine ag (zb Z Z (fI hd hc C)) Z Z Z ?_
   refine ab.nil ⟨_,Z,ar.alloc Z Z Z Z fun b11=>⟨.cons _ (.refl _),ab.nil ⟨_,Z,ar.alloc Z Z Z Z fun b10=>⟨.cons _ (.cons _ (.refl _)),ab.nil ⟨_,Z,ar.store 0 Z Z Z Z Z Z Z Z (.cons _ (.cons _ (.refl _))) (ab.nil ⟨_,Z,ar.store 1 Z Z Z Z Z Z Z Z (.cons _ (.cons _ (.refl _))) (ab.nil (ae.nil ?_))⟩)⟩⟩⟩⟩⟩;exact⟨Z,b10,b11,(vO (.swap _ _ _)).trans (aC.ghost MM)⟩
 intro b10 b11;refine zr<|zo ((AX (zl (pc (Xs (Yw (pv b) (pv a)))))<|zE 1 Z Z Z V Z)) ?_;refine zo ((AX (zl (pc (Xs (Yw (pv d) (pv c)))))<|zE 0 Z Z Z V Z)) ?_;refine zo (zb Z Z (show zm _ _ _ _ (zl (zP (den (pv a) (pv b) (pv c) (pv d)))) from by have h:=mS (G:=G) c1 c2 C;rw [vj,vj] at h;exact h)) ?_;refine yT fun b12=>?_;refine Fh ?_;refine Zq 10 V Z Z<|FB ?_;refine ag (zb Z Z (fI hc ha C)) Z Z Z<|ag ((AX (zl (pc (Xs (Yw (pv d) (pv c)))))<|zE 1 Z Z Z V Z)) Z Z Z<|ag (zb Z Z (show zm _ _ _ _ (zl (zP (x2 (Yw (pv c) (pv a)) (Yw (pv d) (pv c))))) from by have h:=mS (G:=G) c3 c2 C;rw [vj,vj] at h;exact h)) Z Z Z<|ag ((AX (zl (zP (den (pv a) (pv b) (pv c) (pv d))))<|zE 0 Z Z Z V Z)) Z Z Z<|ag (zb rfl rfl (show zm _ _ _ _ (yR [zl (zP (lnR (pv a) (pv b) (pv c) (pv d))),MK (if den (pv a) (pv b) (pv c) (pv d)=0 then 30 else 0)]) from zkM (by omega))) rfl rfl rfl<|FB ?_;refine ab.nil<|aI Z Z Z Z Z Z Z Z (by intro h;cases h) Z Z Z fun b13=>zz ?_;refine zM<|zi<|zr ?_;(iterate 2 refine zz ?_);refine zM<|xK ?_ ?_<;>intro h35
 .have k35:=MV.1 h35;have hd0:=M4 fun h=>k35 (MY h);refine zr<|Fi (zb rfl rfl (Vr (p:=0) (q:=0) (by decide) (by decide) (by decide) (by decide))) ?_;refine zj ?_
  exact⟨_,[],.many (.cons (.agg 4 inferInstance Z Z Z Z) (.cons (.tmp Z) (.nil))),BZ _,by rw [MX hd0,MR hd0];rfl,Z⟩
 .have k35:=bne_eq_false_iff_eq.1 h35;have hd0:¬ den (pv a) (pv b) (pv c) (pv d)=0:=fun h=>by grind
  refine zB<|zr<|zo ((AX (zl (pc a))<|zG Z Z Z Z)) ?_;refine zo ((AX (zl (pc b))<|zG Z Z Z Z)) ?_;refine zo ((AX (zl (zP (lnR (pv a) (pv b) (pv c) (pv d))))<|zE 0 Z Z Z V Z)) ?_;refine Fi (zb rfl rfl (show zm _ _ _ _ (zl (zL (lnP (pv a) (pv b) (pv c) (pv d)))) from atS ha hb c6 (by omega))) ?_;refine zj ?_
  exact⟨_,[],.many (.cons (.agg 4 inferInstance Z Z Z Z) (.cons (.tmp Z) (.nil))),BZ _,by rw [MY hd0,MS hd0];rfl,Z⟩
set_option maxHeartbeats 900000 in
theorem zk6 {c d:RawP} {m l:Nat} (n:Ps a m) (s:Ps b l) (r:Ps c k) (v:Ps d j) (u:m<=w/\l<=w/\k<=w/\j<=w) (L:64*(5*w+5)+5000<=131072) (D:128*(5*m+3*l+6*k+4*j+20)+6000<=131072) (K:64*(14*m+7*l+12*k+8*j+60)+5000<=131072) (I:64*(12*m+6*l+14*k+9*j+60)+5000<=131072):G0 G 137 [zl (pc a),zl (pc b),zl (pc c),zl (pc d)] (zl (gk (gH (pv a) (pv b) (pv c) (pv d)))):=by
 refine Fq func137 ?_;refine Fm fun W=>?_;refine Fk (zk5 (gg n u.1) (gg s u.2.1) (gg r u.2.2.1) (gg v u.2.2.2) L) ?_;refine Fo ?_ ?_<;>intro _ A
 .have t:2<=(wm (pv a) (pv b) (pv c) (pv d)).length:=C;have S:(wm (pv a) (pv b) (pv c) (pv d)).length<=4:=oo (pv a) (pv b) (pv c) (pv d) 4;have M:(wm (pv a) (pv b) (pv c) (pv d))[0]? =some ((wm (pv a) (pv b) (pv c) (pv d)).getD 0 (0,0)):=by rw [Ay,AL C];rfl
  have U:(wm (pv a) (pv b) (pv c) (pv d))[(wm (pv a) (pv b) (pv c) (pv d)).length-1]? =some ((wm (pv a) (pv b) (pv c) (pv d)).getD ((wm (pv a) (pv b) (pv c) (pv d)).length-1) (0,0)):=by rw [Ay,AL C];rfl
  refine Fw 10 ?_;refine Do ((wm (pv a) (pv b) (pv c) (pv d)).length-1) ?_;exact zj (zu (e:=by unfold gH;rw [MX t];rfl))
 .have t:¬ 2<=(wm (pv a) (pv b) (pv c) (pv d)).length:=C;refine Fo ?_ ?_<;>intro _ z
  .have y:(wm (pv a) (pv b) (pv c) (pv d)).length=1:=C;have M:(wm (pv a) (pv b) (pv c) (pv d))[0]? =some ((wm (pv a) (pv b) (pv c) (pv d)).getD 0 (0,0)):=by rw [Ay,AL C];rfl
   refine Fw 7 ?_;exact zj (zu (e:=by unfold gH;rw [MY t,MX y];rfl))
  .have y:¬ (wm (pv a) (pv b) (pv c) (pv d)).length=1:=C;obtain⟨P,E⟩:∃ P,P=(if den (pv a) (pv b) (pv c) (pv d)=0 then (0,0) else lnP (pv a) (pv b) (pv c) (pv d)):=⟨_,Z⟩;have e2:=zrL E t y;have o:=zga (G:=G) n s r v D;rw [<-E] at o
   have Q:=XF s n;have c2:=XF v r;have O:=XF r n;have x:=Vu Q c2;have H:=Vu O c2;rw [vj,vj] at x H;have x:Bq (den (pv a) (pv b) (pv c) (pv d)) _:=x;have N:Bq (lnR (pv a) (pv b) (pv c) (pv d)) _:=bq_div (hp:=H);have F:Ps (Xs P) (6*m+3*l+6*k+4*j+24):=by
    rw [E];split
    .exact gg (j9 bq_zero bq_zero) C
    .exact gg (zx3 n s N) C
   refine Fk o ?_;refine yT fun R=>?_;refine zg ?_;refine zi<|zr<|FF ?_ ?_<;>intro f
   .refine zo (zb Z Z (show zm _ _ _ _ (zp (eH (pv a) (pv b) P)) from by have h:=KQ (G:=G) n s F C;rw [vj] at h;exact h)) ?_;refine FF ?_ ?_<;>intro g
    .refine Fk (show zm _ _ _ _ (zp (eH (pv c) (pv d) P)) from by have h:=KQ (G:=G) r v F C;rw [vj] at h;exact h) ?_;refine xK ?_ ?_<;>intro i
     .apply zr;(iterate 2 refine zo ((AX (zl (zL P))<|zE 0 Z Z Z V Z)) ?_);refine zg ?_;exact zj (zu (e:=by rw [e2,MX (by rw [f,g,i];rfl)];rfl))
     .refine zB<|zr ?_;(iterate 2 refine zo (zb Z Z (Vr (p:=0) (q:=0) J J J J)) ?_);refine zg ?_;exact zj (zu (e:=by rw [e2,MY (by rw [f,g,i];decide)];rfl))
    .refine yM Z Z<|zB<|zr ?_;(iterate 2 refine zo (zb Z Z (Vr (p:=0) (q:=0) J J J J)) ?_);refine zg ?_;exact zj (zu (e:=by rw [e2,MY (by rw [f,g];simp)];rfl))
   .refine yM Z Z<|zB<|zr ?_;(iterate 2 refine zo (zb Z Z (Vr (p:=0) (q:=0) J J J J)) ?_);refine zg ?_;exact zj (zu (e:=by rw [e2,MY (by rw [f];simp)];rfl))
end Go.Proofs
