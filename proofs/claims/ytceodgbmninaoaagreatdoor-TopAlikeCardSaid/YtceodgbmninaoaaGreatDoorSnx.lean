/- Points: straitref08. -/
import Derived.Test.YtceodgbmninaoaaGreatDoorSns
import Derived.Test.YtceodgbmninaoaaGreatDoorSsc
import Derived.Test.YtceodgbmninaoaaGreatDoorSv1
import Derived.Test.YtceodgbmninaoaaGreatDoorRows
import Derived.ChangeMaps5
import Derived.Lib.LaidU8
import Derived.Lay
import Derived.Shelf.Vars
set_option linter.all false
namespace Go.Proofs
open Go Go.Sv Num Tryz
variable {G:Imm}
variable {b2 c2 g f:Bool} {x1 y1 x2 y2:Rat} {k1 c k2 b:Nat} {l1 a l2 d2 m2 e2 e d:G7}
abbrev lm (p:(Bool×List Nat×List Nat)×(Bool×List Nat×List Nat)):Nat:=max (max (max p.1.2.1.length p.1.2.2.length) p.2.2.1.length) p.2.2.2.length
def Vr {n m:Int} {p q:Rat} (h1: -9223372036854775808<=n) (c:n<=9223372036854775807) (b: -9223372036854775808<=m) (a:m<=9223372036854775807) (hp:(n:Rat)=p:=by rfl) (hq:(m:Rat)=q:=by rfl):G0 G 58 [MK n,MK m] (zl (JL p q)):=by
 refine Fq func58 ?_;refine Fm fun d=>?_;refine Fk (ZN h1 c hp) ?_;refine Fk (ZN b a hq) ?_;exact Hj
def zkN [hx1:IsQ g l1 e x1 k1] [hy1:IsQ f a d y1 c] [hx2:IsQ b2 l2 d2 x2 k2] [hy2:IsQ c2 m2 e2 y2 b] (h:64*(k1+c+k2+b)+5000<=131072:=by decide):G0 G 422 [zl [zp g,zD l1,zD e,zp f,zD a,zD d],zl [zp b2,zD l2,zD d2,zp c2,zD m2,zD e2]] (zl (JL (x1+x2) (y1+y2))):=by
 refine Fq func422 ?_;refine Fm fun i=>?_;refine Fw 13 ?_;refine Fl Z Z (WC C) ?_;refine Fl Z Z (WC C) ?_;exact Hj
def JN [hx1:IsQ g l1 e x1 k1] [hy1:IsQ f a d y1 c] [hx2:IsQ b2 l2 d2 x2 k2] [hy2:IsQ c2 m2 e2 y2 b] (h:64*(k1+c+k2+b)+5000<=131072:=by decide):G0 G 222 [zl [zp g,zD l1,zD e,zp f,zD a,zD d],zl [zp b2,zD l2,zD d2,zp c2,zD m2,zD e2]] (zl (JL (x1-x2) (y1-y2))):=by
 refine Fq func222 ?_;refine Fm fun i=>?_;refine Fw 11 ?_;refine Fl Z Z (JK C) ?_;refine Fl Z Z (JK C) ?_;exact Hj
def zf2 [hx1:IsQ g l1 e x1 k1] [hy1:IsQ f a d y1 c] {bt:Bool} {lt:G7} {t:Rat} [ht:IsQ bt lt l2 t b] (h:64*(k1+c+2*b)+5000<=131072:=by decide):G0 G 423 [zl [zp g,zD l1,zD e,zp f,zD a,zD d],zl [zp bt,zD lt,zD l2]] (zl (JL (x1*t) (y1*t))):=by
 refine Fq func423 ?_;refine Fm fun i=>?_;refine Fw 11 ?_;refine Fl Z Z (ZO C) ?_;refine Fl Z Z (ZO C) ?_;exact Hj
def zoY {l k:Bool} {j i:G7} {d:Nat} [hx1:IsQ l l1 j x1 k1] [hy1:IsQ k a i y1 d] [hx2:IsQ b2 l2 d2 x2 k2] [hy2:IsQ c2 m2 e2 y2 c] {bt:Bool} {lt dt:G7} {t:Rat} [ht:IsQ bt lt dt t b] (n:128*(k1+d+k2+c+2*b)+6000<=131072:=by decide):G0 G 332 [zl [zp l,zD l1,zD j,zp k,zD a,zD i],zl [zp b2,zD l2,zD d2,zp c2,zD m2,zD e2],zl [zp bt,zD lt,zD dt]] (zl (JL (x1+(x2-x1)*t) (y1+(y2-y1)*t))):=by
 have h:=hx1.bq;have f:=hy1.bq;have g:=hx2.bq;have e:=hy2.bq;have m:=ht.bq;refine Fq func332 ?_;refine Fm fun o=>?_;refine Fw 7 ?_;refine Fl Z Z (JN C) ?_;refine Fl Z Z (zf2 C) ?_;refine Fl Z Z (zkN C) ?_;exact Hj
def KE {k j:Bool} {i h:G7} [hx1:IsQ k l1 i x1 k1] [hy1:IsQ j a h y1 c] [hx2:IsQ b2 l2 d2 x2 k2] [hy2:IsQ c2 m2 e2 y2 b] (l:64*(k1+c+k2+b)+5000<=131072:=by decide):G0 G 221 [zl [zp k,zD l1,zD i,zp j,zD a,zD h],zl [zp b2,zD l2,zD d2,zp c2,zD m2,zD e2]] (zl (zP (x1*y2-y1*x2))):=by
 have g:=hx1.bq;have e:=hy1.bq;have f:=hx2.bq;have d:=hy2.bq;refine Fq func221 ?_;refine Fm fun m=>?_;refine Fw 13 ?_;refine Fl Z Z (ZO C) ?_;refine Fl Z Z (ZO C) ?_;refine Fl Z Z (JK C) ?_;exact Hj
def zkO {k j:Bool} {i h:G7} [hx1:IsQ k l1 i x1 k1] [hy1:IsQ j a h y1 c] [hx2:IsQ b2 l2 d2 x2 k2] [hy2:IsQ c2 m2 e2 y2 b] (l:64*(k1+c+k2+b)+5000<=131072:=by decide):G0 G 333 [zl [zp k,zD l1,zD i,zp j,zD a,zD h],zl [zp b2,zD l2,zD d2,zp c2,zD m2,zD e2]] (zl (zP (x1*x2+y1*y2))):=by
 have g:=hx1.bq;have e:=hy1.bq;have f:=hx2.bq;have d:=hy2.bq;refine Fq func333 ?_;refine Fm fun m=>?_;refine Fw 14 ?_;refine Fl Z Z (ZO C) ?_;refine Fl Z Z (ZO C) ?_;refine Fl Z Z (WC C) ?_;exact Hj
def zcN {i h:Bool} {g b f:G7} {d:Nat} [hx1:IsQ i l1 g x1 k1] [hy1:IsQ h b f y1 d] [hx2:IsQ b2 l2 d2 x2 k2] [hy2:IsQ c2 m2 e2 y2 c] (j:64*(k1+d+k2+c)+5000<=131072:=by decide):G0 G 135 [zl [zp i,zD l1,zD g,zp h,zD b,zD f],zl [zp b2,zD l2,zD d2,zp c2,zD m2,zD e2]] (MK (fp x1 y1 x2 y2)):=by
 refine Fq func135 ?_;refine Fl Z Z (zcL C) ?_;refine Fo ?_ ?_<;>intro _ a
 .exact zj (zu (e:=by unfold fp;grind))
 .refine Fl Z Z (zcL C) ?_;exact zj (zu (e:=by unfold fp;grind))
def za0 {xs:List ((G5)×(G5))} {k:Nat} (s:0<k) (u:∀ p∈xs,wL k p) (r:64*k+2000<=131072) (j:xs.length<=cap):G0 G 87 [zR 6 pc xs] (zR 6 zL (xs.map pv)):=by
 unfold cap at j
 refine zs func87 ?_;refine Fh ?_;refine zH (yI 48 6)<|Xt [0] (fun (i:Nat) (q:G3) z=>(4,ML i)::(3,eqS (rowV q i))::z) (fun i q=>[rowE q 48 6 i (((xs.take i).map pv).flatMap zL)]) (fun i q=>i<=xs.length/\zX q i) (fun i q=>xs.length-i) 0 none ⟨BL _,Z⟩ ?_;rintro i q ⟨hi,hq⟩;refine Fh ?_;refine FP ?_ ?_<;>intro _ t
 .obtain⟨⟨⟨b,l,d⟩,⟨c,m,e⟩⟩,hp⟩:=FU xs i;have g:=u _ (AE hp);have w:IsQ b l d (qv (b,l,d)) k:=xH g.1 s;have v:IsQ c m e (qv (c,m,e)) k:=xH g.2 s;have n:(xs.take (i+1)).map pv=(xs.take i).map pv++[(qv (b,l,d),qv (c,m,e))]:=by rw [Cz,hp];simp [pv]
  refine wW 15 V<|Fh ?_;refine Fk (vH r) ?_;refine Fk (vH r) ?_;refine Fx 0 Z Z Z Z hq (by rw [uI];grind) fun h a=>?_;refine Do (i+1) ?_
  exact⟨i+1,h,⟨C,a⟩,C,MN (by rw [n,CB];rfl)⟩
 .have o:i=xs.length:=C;subst o;refine zK<|Fs (yF 0 3 Z Z hq B Z GX GK) ?_;exact zj (zu (e:=by rw [B3]))
def zh7 [hx1:IsQ g l1 e x1 k1] [hy1:IsQ f a d y1 c] [hx2:IsQ b2 l2 d2 x2 k2] [hy2:IsQ c2 m2 e2 y2 b] (h:64*(k1+c+k2+b)+5000<=131072:=by decide):G0 G 89 [zl [zp g,zD l1,zD e,zp f,zD a,zD d],zl [zp b2,zD l2,zD d2,zp c2,zD m2,zD e2]] (zp (decide (x1=x2/\y1=y2))):=by
 refine Fq func89 ?_;refine zf (zcN h) ?_;refine Fi ((zZ Z Z Z Z).sub (yz oT)) ?_;exact Hj
end Go.Proofs
namespace Go.Sv
open Go Go.RowKit Go.ChangeShapes Go.WideShapes
section
variable {H:Type} {enc:TypeId×Value->H} {P:Program} {W:World} {Q:List SV->Prop} {t:TypeId} {ts:List TypeId} {ss:List SV}
def zh8 (ht:P.underlying t=some .string) (c:∀ l:G6,l.length<=maxLen->Wz enc P W Q ts (strS l::ss)):Wz enc P W Q (t::ts) ss:=fun _ _ _ _ a d _=>by
 obtain⟨s,rfl,_,_,b⟩:=ChangeMaps.open_string ht a d;exact⟨_,Z,c s.data.toList (by assumption)⟩
end
end Go.Sv
namespace Go.Proofs
open Go Go.Sv Num Go.RowKit Go.ChangeShapes Go.WideShapes Tryz
variable {L:List (String×DataW Unit)} {W:World}
theorem cM (h:laidMet prog L W) (f:("internal/strconv.uint64pow10",YtceodgbmninaoaaGreatDoor.Rows.laid_internal_strconv_uint64pow10)∈L):ba (Wy W):=by
 obtain⟨g0,m,l,p,o,a,d,c,b⟩:=Lib.laidMet.reads h f;have j:prog.globalNamed "internal/strconv.uint64pow10" =some 0:=V;have e:(prog.globals[0]?).map (·.type)=some 331:=V;obtain rfl:=BA (j.symm.trans a);obtain rfl:=BA (e.symm.trans d);have g:(YtceodgbmninaoaaGreatDoor.Rows.laid_internal_strconv_uint64pow10:DataW Unit)= .agg (Lib.pow10Tab.map fun z=>.lit (.int .u64 z)):=V;rw [g] at b
 have i:=zcv Tryz.underlying331 Tryz.underlying162 V V V b;refine⟨(zeB a c).trans ?_⟩;congr 1;grind
theorem cF (h:W.ShapedOpen prog):aK (Wy W):=by
 obtain⟨m,a⟩:∃ m,W.cell? ⟨1,0,none⟩=some (.int .i64 m):=Go.Proofs.cell_of_shapedOpen_int (zero:= #[.int .i64 0]) h (MO V) V Z V V Tryz.underlying3;unfold World.cell? at a
 split at a
 .rename_i c e f b;exact⟨c,m,by unfold Wy;grind,by grind⟩
 grind
theorem cL (h:laidMet prog L W) (g:("math/bits.deBruijn64tab",YtceodgbmninaoaaGreatDoor.Rows.laid_math_bits_deBruijn64tab)∈L):ao (Wy W):=by
 obtain⟨g0,m,l,p,o,a,d,c,b⟩:=Lib.laidMet.reads h g;have j:prog.globalNamed "math/bits.deBruijn64tab" =some 5:=V;have f:(prog.globals[5]?).map (·.type)=some 477:=V;obtain rfl:=BA (j.symm.trans a);obtain rfl:=BA (f.symm.trans d);have i:(YtceodgbmninaoaaGreatDoor.Rows.laid_math_bits_deBruijn64tab:DataW Unit)= .agg ((Lib.deBruijn64tab.map fun n=>((n:Nat):Int)).map fun z=>.lit (.int .u8 z)):=V;rw [i] at b
 have e:=zcv Tryz.underlying477 Tryz.underlying5 V V V b;refine⟨(zeB a c).trans ?_⟩;rw [jO];congr 1;rw [As] at e
 exact AW e
variable {G:Imm}
def zuP {p q:Rat} (h:0<=vK p q):q<=p:=by
 unfold vK at h;grind
def nJ {p q:Rat} (h:vK p q<=0):p<=q:=by
 unfold vK at h;grind
abbrev Xs (p:Rat×Rat):(Bool×List Nat×List Nat)×(Bool×List Nat×List Nat):=((decide (p.1.num<0),dig p.1.num.natAbs,dig p.1.den),(decide (p.2.num<0),dig p.2.num.natAbs,dig p.2.den))
def vj (p:Rat×Rat):pv (Xs p)=p:=by
 have h:∀ q:Rat,qv (decide (q.num<0),dig q.num.natAbs,dig q.den)=q:=fun q=>by
  show mkRat (Zd _ (val _)) (val _)=q;rw [xu,xu,uq,Dy]
 show (qv _,qv _)=p;rw [h,h]
def zuQ (l:G2):(l.map Xs).map pv=l:=by
 rw [As];exact (Bk fun p _=>vj p).trans (Dm l)
def zxT {l:G2} {I:Imm} {v:Value} (h:(zR 6 zL l).den I v):(zR 6 pc (l.map Xs)).den I v:=by
 obtain⟨a,cap,d,h1,g,c⟩:=h;refine⟨a,cap,by grind,by grind,by grind,?_⟩;grind
def zh9 {p:Rat×Rat} {k:Nat} (h1:Bq p.1 k) (a:Bq p.2 k):wL k (Xs p):=⟨⟨xe _,xe _,h1.lens.1,h1.lens.2⟩,xe _,xe _,a.lens.1,a.lens.2⟩
def zxU [ao G] {ps:List ((G5)×(G5))} {k:Nat} (d:0<k) (c:∀ p∈ps,wL k p) (b:2*k+11000<=cap) (a:ps.length<=cap):G0 G 78 [zR 6 id (ps.map pc)] (zR 6 zL (ps.map pv)):=
 (JM d c b a).args ⟨fun _ _ h=>XE (f:=pc) ps h,trivial⟩
variable {x1 y1 x2 y2 t q:Rat} {b b2 c2 c v u:Bool} {k k1 h k2 g e:Nat} {d l l2 d2 m2 e2 a m r p o j:G7}
def qz (x1 y1 x2 y2 x3 y3:Rat):Rat:=(x2-x1)*(y3-y1)-(y2-y1)*(x3-x1)
abbrev eM (a b r:Rat):Prop:=(a<=r/\r<=b)\/(b<=r/\r<=a)
abbrev jp (x1 y1 x2 y2 x3 y3:Rat):Prop:=qz x1 y1 x2 y2 x3 y3=0/\eM x1 x2 x3/\eM y1 y2 y3
def zrq (x1 y1 x2 y2 x3 y3:Rat):qz x2 y2 x1 y1 x3 y3= -qz x1 y1 x2 y2 x3 y3:=by unfold qz;grind
def KF (x1 y1 x3 y3:Rat):qz x1 y1 x1 y1 x3 y3=0:=by unfold qz;grind
def zuR (x1 y1 x2 y2:Rat):qz x1 y1 x2 y2 x2 y2=0:=by unfold qz;grind
def zrr (x1 y1 x2 y2:Rat):qz x1 y1 x2 y2 x1 y1=0:=by unfold qz;grind
def mP (x1 y1 x2 y2 t:Rat):qz x1 y1 x2 y2 (x1+(x2-x1)*t) (y1+(y2-y1)*t)=0:=by unfold qz;grind
def zia (a b r:Rat):eM b a r↔eM a b r:=Or.comm
def zrs (x1 y1 x2 y2 x3 y3:Rat):jp x2 y2 x1 y1 x3 y3↔jp x1 y1 x2 y2 x3 y3:=by
 unfold jp;rw [zrq,zia x1,zia y1];grind
def zrt {a b:Rat}:eM a b (a+(b-a)*t)↔a=b\/(0<=t/\t<=1):=by
 obtain⟨w,i⟩:∃ w,w=b-a:=⟨_,rfl⟩;have j:b=a+w:=by grind
 rw [<-i,j];obtain⟨z,f⟩:∃ z,z=w*t:=⟨_,rfl⟩;rw [<-f];constructor
 .intro h;by_cases c:w=0
  .grind
  .right;by_cases l:w<0
   .have e:z<=0/\w<=z:=by unfold eM at h;grind
    constructor
    .refine ED.1 fun ht=>?_;have:=DM (show 0< -w by grind) (show 0< -t by grind)
     grind
    .refine ED.1 fun ht=>?_;have:=DM (show 0< -w by grind) (show 0<t-1 by grind)
     grind
   .have hp:0<w:=by grind
    have e:0<=z/\z<=w:=by unfold eM at h;grind
    constructor
    .refine ED.1 fun ht=>?_;have:=DM hp (show 0< -t by grind)
     grind
    .refine ED.1 fun ht=>?_;have:=DM hp (show 0<t-1 by grind)
     grind
 .rintro (h | ⟨c,h1⟩)
  .grind
  .by_cases g:0<=w
   .have e:=DN g c;have k:=DN g (show 0<=1-t by grind);grind
   .have e:=DN (show 0<= -w by grind) c;have k:=DN (show 0<= -w by grind) (show 0<=1-t by grind);grind
def zru:jp x1 y1 x2 y2 (x1+(x2-x1)*t) (y1+(y2-y1)*t)↔(0<=t/\t<=1)\/(x1=x2/\y1=y2):=by
 unfold jp;rw [zrt,zrt];constructor
 .grind
 .rintro (h | ⟨h1,h2⟩)
  .exact⟨mP ..,.inr h,.inr h⟩
  .exact⟨mP ..,.inl h1,.inl h2⟩
def VY [ao G] [h:IsQ b l d q k] (a:2*k+11000<=cap:=by decide):G0 G 370 [zl [zp b,zD l,zD d]] (MK (vK q 0)):=by
 have c:=h.bq;have e:=c.bz;refine Fq func370 ?_;refine Fk (Yg a) ?_;refine Fi ((zb Z Z (zcD C)).sub (zI zh2)) ?_;exact zj zt
def zcO [ao G] {e:G7} {p:Rat} {j:Nat} [hx:IsQ b l d p k] [hy:IsQ c m e q j] (a:100*(k+j)+20000<=cap:=by decide):G0 G 407 [zl [zp b,zD l,zD d],zl [zp c,zD m,zD e]] (zp (decide (p=q))):=by
 refine Fq func407 ?_;refine zf (xo a) ?_;refine Fi ((zZ Z Z Z Z).sub (yz Vp)) ?_;exact zj zt
def zcP [ao G] {t:Bool} {b:G7} [hx1:IsQ v d r x1 k1] [hy1:IsQ t b p y1 h] [hx2:IsQ b2 l2 d2 x2 k2] [hy2:IsQ c2 m2 e2 y2 g] {s:Bool} {c q:G7} {x3 y3:Rat} {f:Nat} [hx3:IsQ u c q x3 e] [hy3:IsQ s a o y3 f] (w:100*(2*(k1+h)+(k2+g)+(e+f))+25000<=cap:=by decide):G0 G 373 [zl [zp v,zD d,zD r,zp t,zD b,zD p,zp b2,zD l2,zD d2,zp c2,zD m2,zD e2,zp u,zD c,zD q,zp s,zD a,zD o]] (MK (vK (qz x1 y1 x2 y2 x3 y3) 0)):=by
 have n:=hx1.bq;have k:=hy1.bq;have m:=hx2.bq;have j:=hy2.bq;have l:=hx3.bq;have i:=hy3.bq;refine Fq func373 ?_;refine Fw 13 ?_;refine Fl Z Z (XQ C) ?_;refine Fl Z Z (XQ C) ?_;refine Fl Z Z (UU C) ?_;refine Fi ((zb Z Z (VY C)).sub (zI Z)) ?_;exact zj zt
set_option maxHeartbeats 900000 in
def zkQ [ao G] {p n:Bool} {b:G7} [hx1:IsQ p d l x1 k1] [hy1:IsQ n b j y1 h] [hx2:IsQ b2 l2 d2 x2 k2] [hy2:IsQ c2 m2 e2 y2 g] {o m:Bool} {c k i:G7} {x3 y3:Rat} {f:Nat} [hx3:IsQ o c k x3 e] [hy3:IsQ m a i y3 f] (q:100*(2*(k1+h)+(k2+g)+(e+f))+25000<=cap:=by decide):G0 G 280 [zl [zp p,zD d,zD l,zp n,zD b,zD j],zl [zp b2,zD l2,zD d2,zp c2,zD m2,zD e2],zl [zp o,zD c,zD k,zp m,zD a,zD i]] (MK (vK (qz x1 y1 x2 y2 x3 y3) 0)):=by
 refine Fq func280 ?_;refine Fl Z Z (zcP q) ?_;exact zj zt
variable {ss:List SV} {i:Nat}
abbrev RawP:=(Bool×List Nat×List Nat)×(Bool×List Nat×List Nat)
def va (xs:List RawP) (i:Nat):RawP×RawP×RawP:=(xs.getD ((i+xs.length-1)%xs.length) default,xs.getD i default,xs.getD ((i+1)%xs.length) default)
def gh (xs:List RawP):List (List SV):=(List.range xs.length).map fun i=>[zl (pc (va xs i).1++(pc (va xs i).2.1++pc (va xs i).2.2))]
def VZ {xs:List RawP}:(gh xs).length=xs.length:=by simp [gh]
def zeN {xs:List RawP} (h:i<xs.length):(gh xs)[i]? =some [zl (pc (va xs i).1++(pc (va xs i).2.1++pc (va xs i).2.2))]:=by simp [gh,h]
def zoZ {xs:List RawP} (h:(gh xs)[i]? =some ss):i<xs.length/\ss=[zl (pc (va xs i).1++(pc (va xs i).2.1++pc (va xs i).2.2))]:=by
 have hl:i<xs.length:=by rw [<-VZ];exact yJ h
 rw [zeN hl] at h
 grind
def zrv {xs:List RawP} (h:ss∈gh xs):ss.length=1:=by
 simp only [gh,List.mem_map] at h
 grind
def vx {xs:List RawP} (h:i<xs.length):xs[i]? =some (xs.getD i default):=by simp [h]
set_option maxHeartbeats 900000 in
def zkR {xs:List RawP}:xc prog G 491 [yo [zR 6 pc xs]] (gh xs):=by
 refine xM func491 Z Z Z Z fun l E hy=>zg ?_;refine uM 4 Z fun e=>?_;unfold yE at e;refine xi (fun g=>⟨_,[(6,ML g),(5,MK xs.length),(4,zR 6 pc xs),(0,yieldS l),(1,yo [zR 6 pc xs])],[],[],(g,false)⟩) (fun g=>g<=xs.length) (fun g=>xs.length-g) 0 (BL _) MM ?_;intro g h;refine Fh ?_;refine Fo ?_ ?_<;>intro _ f
 .have d:(g+xs.length-1)%xs.length<xs.length:=Be _ (by omega);have c:(g+1)%xs.length<xs.length:=Be _ (by omega);have b:g<xs.length:=by omega
  refine Fw 25 ?_;refine Do (g+xs.length) ?_;refine Do (g+xs.length-1) ?_;refine Fi ((wt rfl rfl rfl (by omega) (by omega)).sub (zI (n:=(((g+xs.length-1)%xs.length:Nat):Int)) (by simp))) ?_;refine Fi (zh rfl rfl rfl (by omega) (y:=(va xs g).1) (vx d)) ?_;refine Fi (zh rfl rfl rfl (by omega) (y:=(va xs g).2.1) (vx b)) ?_;refine Do (g+1) ?_;refine Fi ((wt rfl rfl rfl (by omega) (by omega)).sub (zI (n:=(((g+1)%xs.length:Nat):Int)) (by simp))) ?_;refine Fi (zh rfl rfl rfl (by omega) (y:=(va xs g).2.2) (vx c)) ?_;refine ae.yield rfl hy rfl rfl rfl (zeN b) (yU _) rfl rfl rfl fun y=>zg ?_;refine Fp ?_ ?_<;>intro a
  .exact zj ⟨.inl Z,.inr a⟩
  .refine Do (g+1) ?_;exact⟨g+1,(by omega:g+1<=xs.length),by omega,rfl,zk,wq _,rfl,by grind⟩
 .exact⟨.inr Z,.inl (by rw [VZ,show g=xs.length by omega])⟩
def zo0 {xs:List RawP}:G0 G 439 [zR 6 pc xs] (wD 491 [yo [zR 6 pc xs]]):=by
 refine zs func439 ?_;refine zg ?_;exact zj zt
variable {xs:List RawP} {i:Nat}
def kf (xs:List RawP) (i:Nat):Int:=vK (qz (pv (va xs i).1).1 (pv (va xs i).1).2 (pv (va xs i).2.1).1 (pv (va xs i).2.1).2 (pv (va xs i).2.2).1 (pv (va xs i).2.2).2) 0
def WU (xs:List RawP):List Int:=if xs.length<3 then [] else (List.range xs.length).map (kf xs)
abbrev KG (z:Int):List SV:=[ze .i64 z]
def og:∀ l:List Int,(l.flatMap KG).length=l.length
 | []=>rfl
 | x::l=>by rw [List.flatMap_cons,List.length_append,og l];grind
def xZ (h:i<xs.length):xs.getD i default∈xs:=by simp [h]
def zo1 (h:i<xs.length):(va xs i).1∈xs/\(va xs i).2.1∈xs/\(va xs i).2.2∈xs:=
 ⟨xZ (Be _ (by omega)),xZ h,xZ (Be _ (by omega))⟩
def zkS [ao G] {k:Nat} (c:0<k) (a:∀ p∈xs,wL k p) (o:800*k+30000<=cap) (h:i<xs.length):G0 G 373 [zl (pc (va xs i).1++(pc (va xs i).2.1++pc (va xs i).2.2))] (MK (kf xs i)):=by
 obtain⟨e,m2,d⟩:=zo1 h;have n:=xH (b:=(va xs i).1.1.1) (a _ e).1 c;have m:=xH (b:=(va xs i).1.2.1) (a _ e).2 c;have l:=xH (b:=(va xs i).2.1.1.1) (a _ m2).1 c;have j:=xH (b:=(va xs i).2.1.2.1) (a _ m2).2 c;have g:=xH (b:=(va xs i).2.2.1.1) (a _ d).1 c;have f:=xH (b:=(va xs i).2.2.2.1) (a _ d).2 c;exact zcP (by omega)
def zic [ao G] {k:Nat} (hk:0<k) (hl:∀ p∈xs,wL k p) (hs:800*k+30000<=cap) (hxl:xs.length<=cap):zm prog G 357 [zR 6 pc xs] (zR 1 KG (WU xs)):=by
 have hxl0:=hxl;unfold cap at hxl0
 refine zs func357 ?_;refine zr<|yT fun b2=>?_;refine Fh ?_;refine xK ?_ ?_<;>intro h6
 .have k6:=MO h6;refine zr<|zw ?_;refine ae.ghost _ rfl (XW (s':=zR 1 KG []) (fun I v h=>by rw [show v= .slice none 0 0 from h];exact UI))<|zM<|zj ?_
  exact⟨_,[],.one (.own 0 inferInstance Z Z Z),List.nil_sublist _,by rw [show WU xs=[] from MX C],Z⟩
 .have k6:=MP h6;refine zB<|zi<|Fs (yI 3 1) ?_;refine Fk zo0 ?_
  refine uN Z Z zkR (fun ss h=>zrv h) J rfl
   (fun k h i=>i=(0,false)/\k<=xs.length/\∃ q,zX q k/\h=[rowE q 3 1 k (((List.range k).map (kf xs)).flatMap KG),⟨some b2,145,[eqS (rowV q k)],0⟩])
   (fun _ _ _=>False) ⟨Z,Nat.zero_le _,none,Z,Z⟩ ?_ ?_ ?_
  .rintro l k' ss h i hk' ⟨rfl,_,q,hq,rfl⟩;obtain⟨hkl,rfl⟩:=zoZ hk';refine zJ<|yT fun b3=>?_;refine zg ?_
   refine⟨Z,?_⟩;refine zN<|wW 4 V<|zz ?_;refine zo ((AX (zl (pc (va xs k').1++(pc (va xs k').2.1++pc (va xs k').2.2)))<|zE 0 Z Z Z V Z)) ?_;refine Fk (zkS hk hl hs hkl) ?_;refine ae.append 1 rfl rfl rfl rfl rfl rfl rfl rfl hq (by rw [og];simp) (fun z hz=>by grind) (by unfold yE;grind) (by unfold yE;grind) fun q14 hq14=>zw ?_;refine ae.ghost _ Z (zF (List.sublist_cons_self _ _))<|zM ?_
   refine⟨Z,by omega,q14,hq14,?_⟩;rw [List.range_succ,List.map_append,List.flatMap_append];rfl
  .rintro h i D ⟨rfl,_,q,hq,rfl⟩;rw [VZ] at hq ⊢
   refine zH (uF [] [] [] hq (by simp) rfl (fun _ _=>rfl) (by unfold yE;omega))<|Fh ?_;refine zj ?_
   exact⟨_,[],.one (.own 0 inferInstance Z Z Z),List.nil_sublist _,by rw [show WU xs=_ from MY C],Z⟩
  simp
def gs {α:Type} (sz:α->Nat) (xs:List α) (k:Nat):Nat:=((xs.take k).map fun p=>min (sz p) 1000).sum
def Ua (p:RawP):Nat:=p.1.2.1.length+p.1.2.2.length+p.2.2.1.length+p.2.2.2.length
end Go.Proofs
namespace Num
open Go Go.Proofs
abbrev V2:=Rat×Rat
abbrev cr (a b p:V2):Rat:=qz a.1 a.2 b.1 b.2 p.1 p.2
def vN (p q:V2):Int:=fp p.1 p.2 q.1 q.2
def le2 (p q:V2):Prop:=p.1<q.1\/(p.1=q.1/\p.2<=q.2)
def em (a b p:V2):Prop:=cr a b p=0/\eM a.1 b.1 p.1/\eM a.2 b.2 p.2
def vQ {p q:Rat}:0<vK p q↔q<p:=by unfold vK;grind
def vG {p q:Rat}:vK p q<0↔p<q:=by unfold vK;grind
def kF {p q:V2}:vN p q<=0↔le2 p q:=by
 unfold vN fp le2;by_cases h:vK p.1 q.1=0
 .rw [MX h];have e:=uw.1 h;have a:=vQ (p:=p.2) (q:=q.2);grind
 .rw [MY h];have e:¬ p.1=q.1:=fun e=>h (uw.2 e);have a:=vG (p:=p.1) (q:=q.1);grind
def bn {p q:V2}:0<vN p q↔¬ le2 p q:=by rw [<-kF];omega
def bf (p q:V2):le2 p q\/le2 q p:=by unfold le2;grind
def Vs (p:V2):le2 p p:=by unfold le2;grind
def XR {p q r:V2} (h1:le2 p q) (a:le2 q r):le2 p r:=by unfold le2 at *;grind
theorem Zt {p q:V2} (h1:le2 p q) (a:le2 q p):p=q:=by unfold le2 at *;grind
def QG {p q:V2}:vN p q=0↔p=q:=by
 have:=oT (x:=p.1) (y:=p.2) (u:=q.1) (v:=q.2);unfold vN;grind
def UV {p q:V2}:vN p q<0↔¬ le2 q p:=by
 have h1:=kF (p:=p) (q:=q);have a:=QG (p:=p) (q:=q);constructor
 .intro h hq;have:=Zt (h1.1 C) hq;grind
 .intro h;have b:=(bf p q).resolve_right h;grind
def zuS {a b p:V2}:em b a p↔em a b p:=zrs ..
def zAt {w z u v:Rat} (a:0<w) (c:0<=z) (e:z<=w) (h:w*v=u*z):eM 0 u v:=by
 by_cases d:0<=u
 .left;have g:=DN d c;have f:=DN d (GZ:0<=w-z);constructor
  .refine ED.1 fun b=>?_;have:=DM a (GZ:0< -v)
   grind
  .refine ED.1 fun b=>?_;have:=DM a (GZ:0<v-u)
   grind
 .right;have g:=DN (GZ:0<= -u) c;have f:=DN (GZ:0<= -u) (GZ:0<=w-z);constructor
  .refine ED.1 fun b=>?_;have:=DM a (GZ:0<u-v)
   grind
  .refine ED.1 fun b=>?_;have:=DM a (GZ:0<v)
   grind
def mz {d x:Rat} (h:d*x=0) (a:d≠0):x=0:=(Rat.mul_eq_zero.1 h).resolve_left a
def Za {a b p:V2} (h:le2 a b):em a b p↔cr a b p=0/\le2 a p/\le2 p b:=by
 obtain⟨d,j⟩:=a;obtain⟨f,b2⟩:=b;obtain⟨c,i⟩:=p;unfold em le2 at *;simp only at *
 constructor
 .rintro⟨g,hx,hy⟩;refine⟨g,?_⟩;unfold cr qz at g
  rcases h with h | ⟨h,h'⟩
  .have h1:d<=c/\c<=f:=by grind
   constructor
   .by_cases e:d=c
    .right;refine⟨e,?_⟩;have:(f-d)*(i-j)=0:=by grind
     have:=mz this GZ;grind
    grind
   .by_cases e:c=f
    .right;refine⟨e,?_⟩;have:(f-d)*(i-b2)=0:=by grind
     have:=mz this GZ;grind
    grind
  grind
 .rintro⟨g,h1,k⟩;refine⟨g,?_⟩;unfold cr qz at g
  rcases h with h | ⟨h,h'⟩
  .have hx:d<=c/\c<=f:=by grind
   refine⟨.inl hx,?_⟩;have:=zAt (w:=f-d) (z:=c-d) (u:=b2-j) (v:=i-j) GZ GZ GZ GZ;grind
  grind
def ln {p q:V2} (h:p≠q):q.1-p.1≠0\/q.2-p.2≠0:=by
 grind
def lu {a b p q x:V2} (c:a≠b) (hp:cr a b p=0) (hq:cr a b q=0) (hx:cr a b x=0):cr p q x=0:=by
 unfold cr qz at hp hq hx
 rcases ln c with h | h <;> refine mz ?_ h <;> unfold cr qz <;> grind
def kE {c d p q x:V2} (a:p≠q) (hp:cr c d p=0) (hq:cr c d q=0) (hx:cr p q x=0):cr c d x=0:=by
 unfold cr qz at hp hq hx
 rcases ln a with h | h <;> refine mz ?_ h <;> unfold cr qz <;> grind
def den (a b c d:V2):Rat:=(b.1-a.1)*(d.2-c.2)-(b.2-a.2)*(d.1-c.1)
def kA {a b c d p x:V2} (e:a≠b) (hp:cr a b p=0) (hq:cr c d p=0) (f:den a b c d=0) (hx:cr a b x=0):cr c d x=0:=by
 unfold cr qz at hp hq hx
 unfold den at f
 rcases ln e with h | h <;> refine mz ?_ h <;> unfold cr qz <;> grind
def zrw (a b c d:V2):den c d a b= -den a b c d:=by unfold den;grind
def zeO {a b c d p q:V2} (g:den a b c d≠0) (hp:cr a b p=0) (f:cr c d p=0) (hq:cr a b q=0) (e:cr c d q=0):p=q:=by
 unfold cr qz at hp f hq e
 have h1:den a b c d*(p.1-q.1)=0:=by unfold den;grind
 have h:den a b c d*(p.2-q.2)=0:=by unfold den;grind
 grind
def lnR (a b c d:V2):Rat:=((c.1-a.1)*(d.2-c.2)-(c.2-a.2)*(d.1-c.1))/den a b c d
def lnP (a b c d:V2):V2:=(a.1+(b.1-a.1)*lnR a b c d,a.2+(b.2-a.2)*lnR a b c d)
def zrx {a b c d:V2} (e:den a b c d≠0):cr a b (lnP a b c d)=0/\cr c d (lnP a b c d)=0:=by
 refine⟨mP ..,?_⟩;have ht:lnR a b c d*den a b c d=(c.1-a.1)*(d.2-c.2)-(c.2-a.2)*(d.1-c.1):=DO e;unfold lnP cr qz;simp only;unfold den at ht
 grind
abbrev Sg:=V2×V2
def QY (s:Sg) (p:V2):Bool:=decide (vN s.1 p<=0)&&decide (vN p s.2<=0)
def YH (s:Sg) (p:V2):Bool:=QY s p&&decide (vK (cr s.1 s.2 p) 0=0)
def wk (a b:V2):Sg:=if 0<vN a b then (b,a) else (a,b)
def QZ (s t:Sg):V2:=if 0<vN t.1 s.1 then t.1 else s.1
def Ja (s t:Sg):V2:=if vN t.2 s.2<0 then t.2 else s.2
def gf:Int×V2×V2:=(0,(0,0),(0,0))
def qB (s t:Sg):Int×V2×V2:=
 if 0<vN (QZ s t) (Ja s t) then gf
 else if YH s (QZ s t)&&YH t (QZ s t)&&YH s (Ja s t)&&YH t (Ja s t) then ((if vN (QZ s t) (Ja s t)=0 then 1 else 2),QZ s t,Ja s t)
 else if den s.1 s.2 t.1 t.2=0 then gf
 else if QY s (lnP s.1 s.2 t.1 t.2)&&QY t (lnP s.1 s.2 t.1 t.2) then (1,lnP s.1 s.2 t.1 t.2,lnP s.1 s.2 t.1 t.2) else gf
def SK (I:V2->Prop) (k:Int):Prop:=(k=0/\∀ p,¬I p)\/(k=1/\∃ p,I p/\∀ q,I q->q=p)\/(k=2/\∃ p q,I p/\I q/\p≠q)
def SK.map {I J:V2->Prop} {k:Int} (f g:V2->V2) (hf:∀ p,I p->J (f p)) (d:∀ p,J p->I (g p)) (b:∀ p,f (g p)=p) (a:∀ p,g (f p)=p) (h:SK I k):SK J k:=by
 rcases h with ⟨rfl,h⟩ | ⟨rfl,p,h1,c⟩ | ⟨rfl,p,q,h1,c,i⟩
 .exact .inl ⟨Z,fun p hp=>h _ (d p hp)⟩
 .exact .inr (.inl ⟨Z,f p,hf p h1,fun q hq=>by grind⟩)
 .exact .inr (.inr ⟨Z,f p,f q,hf p h1,hf q c,fun e=>i (by grind)⟩)
def SK.congr {I J:V2->Prop} {k:Int} (h:∀ p,I p↔J p) (a:SK I k):SK J k:=a.map id id (fun p=>(h p).1) (fun p=>(h p).2) GY GY
def KH {s:Sg} {p:V2}:QY s p=true↔le2 s.1 p/\le2 p s.2:=by unfold QY;rw [AD,MQ,MQ,kF,kF]
def YT {s:Sg} {p:V2} (h:le2 s.1 s.2):YH s p=true↔em s.1 s.2 p:=by
 unfold YH;rw [AD,KH,MQ,uw,Za h];grind
def zAu {s t:Sg} {p:V2} (h1:le2 s.1 p) (a:le2 t.1 p):le2 (QZ s t) p:=by unfold QZ;grind
def zAv {s t:Sg} {p:V2} (h1:le2 p s.2) (a:le2 p t.2):le2 p (Ja s t):=by unfold Ja;grind
def zAw (s t:Sg):le2 s.1 (QZ s t)/\le2 t.1 (QZ s t):=by
 unfold QZ;split
 .rename_i h;rw [bn] at h
  exact⟨(bf _ _).resolve_right h,Vs _⟩
 .rename_i h;rw [bn] at h
  exact⟨Vs _,Classical.not_not.1 h⟩
def zAx (s t:Sg):le2 (Ja s t) s.2/\le2 (Ja s t) t.2:=by
 unfold Ja;split
 .rename_i h;rw [UV] at h
  exact⟨(bf _ _).resolve_right h,Vs _⟩
 .rename_i h;rw [UV] at h
  exact⟨Vs _,Classical.not_not.1 h⟩
abbrev In (s t:Sg) (p:V2):Prop:=em s.1 s.2 p/\em t.1 t.2 p
def QI (a b:V2):cr a b a=0:=zrr ..
def Vt (a b:V2):cr a b b=0:=zuR ..
def Ub {s t:Sg} (a:le2 s.1 s.2) (ht:le2 t.1 t.2) (h1:cr s.1 s.2 t.1=0) (h:cr s.1 s.2 t.2=0) (g:cr t.1 t.2 s.1=0) (f:cr t.1 t.2 s.2=0) (b:le2 (QZ s t) (Ja s t)):
 (YH s (QZ s t)&&YH t (QZ s t)&&YH s (Ja s t)&&YH t (Ja s t))=true:=by
 have d:=zAw s t;have c:=zAx s t;have e:cr s.1 s.2 (QZ s t)=0/\cr t.1 t.2 (QZ s t)=0:=by
  unfold QZ;split
  .exact⟨h1,QI _ _⟩
  .exact⟨QI _ _,g⟩
 have c2:cr s.1 s.2 (Ja s t)=0/\cr t.1 t.2 (Ja s t)=0:=by
  unfold Ja;split
  .exact⟨h,Vt _ _⟩
  .exact⟨Vt _ _,f⟩
 simp only [AD];refine⟨⟨⟨(YT a).2 ((Za a).2 ⟨e.1,d.1,XR b c.1⟩),(YT ht).2 ((Za ht).2 ⟨e.2,d.2,XR b c.2⟩)⟩,(YT a).2 ((Za a).2 ⟨c2.1,XR d.1 b,c.1⟩)⟩,(YT ht).2 ((Za ht).2 ⟨c2.2,XR d.2 b,c.2⟩)⟩
def zxV {s t:Sg} (d:le2 s.1 s.2) (ht:le2 t.1 t.2):SK (In s t) (qB s t).1:=by
 have b:∀ p,In s t p->le2 (QZ s t) p/\le2 p (Ja s t):=fun p ⟨h1,h2⟩=>by
  have r:=((Za d).1 h1).2;have o:=((Za ht).1 h2).2;exact⟨zAu r.1 o.1,zAv r.2 o.2⟩
 unfold qB;by_cases l:0<vN (QZ s t) (Ja s t)
 .rw [MX l];rw [bn] at l;exact .inl ⟨Z,fun p hp=>l (XR (b p hp).1 (b p hp).2)⟩
 .rw [MY l];have m:le2 (QZ s t) (Ja s t):=by rw [bn] at l;exact Classical.not_not.1 l
  by_cases c2:(YH s (QZ s t)&&YH t (QZ s t)&&YH s (Ja s t)&&YH t (Ja s t))=true
  .rw [MX c2];simp only [AD] at c2;obtain⟨⟨⟨w,d2⟩,v⟩,d4⟩:=c2;have n:In s t (QZ s t):=⟨(YT d).1 w,(YT ht).1 d2⟩;have u:In s t (Ja s t):=⟨(YT d).1 v,(YT ht).1 d4⟩
   by_cases e:vN (QZ s t) (Ja s t)=0
   .rw [MX e];rw [QG] at e;exact .inr (.inl ⟨Z,_,n,fun q hq=>Zt (by grind) (b q hq).1⟩)
   .rw [MY e];exact .inr (.inr ⟨Z,_,_,n,u,fun h=>e (QG.2 h)⟩)
  .rw [MY c2];have one:∀ p q,In s t p->In s t q->p=q:=fun p q hp hq=>by
    refine M4 fun c=>c2 ?_;have ps:=(Za d).1 hp.1;have qs:=(Za d).1 hq.1;have a:=(Za ht).1 hp.2;have k:=(Za ht).1 hq.2;have g:s.1≠s.2:=fun e=>c ((Zt (by grind) ps.2.1).trans (Zt (by grind) qs.2.1).symm)
    have f:t.1≠t.2:=fun e=>c ((Zt (by grind) a.2.1).trans (Zt (by grind) k.2.1).symm)
    refine Ub d ht ?_ ?_ ?_ ?_ m
    .exact kE c ps.1 qs.1 (lu f a.1 k.1 (QI _ _))
    .exact kE c ps.1 qs.1 (lu f a.1 k.1 (Vt _ _))
    .exact kE c a.1 k.1 (lu g ps.1 qs.1 (QI _ _))
    .exact kE c a.1 k.1 (lu g ps.1 qs.1 (Vt _ _))
   by_cases j:den s.1 s.2 t.1 t.2=0
   .rw [MX j];refine .inl ⟨Z,fun p hp=>c2 ?_⟩;have ps:=(Za d).1 hp.1;have a:=(Za ht).1 hp.2;by_cases g:s.1=s.2
    .have e:p=s.1:=Zt (by grind) ps.2.1;refine Ub d ht ?_ ?_ (by grind) (by grind) m
     .rw [g];exact KF ..
     .rw [g];exact KF ..
    .by_cases f:t.1=t.2
     .have e:p=t.1:=Zt (by grind) a.2.1;refine Ub d ht (by grind) (by grind) ?_ ?_ m
      .rw [f];exact KF ..
      .rw [f];exact KF ..
     .have i:den t.1 t.2 s.1 s.2=0:=by rw [zrw,j];rfl
      exact Ub d ht (kA f a.1 ps.1 i (QI _ _)) (kA f a.1 ps.1 i (Vt _ _)) (kA g ps.1 a.1 j (QI _ _)) (kA g ps.1 a.1 j (Vt _ _)) m
   .rw [MY j];obtain⟨l1,l2⟩:=zrx j;by_cases i:(QY s (lnP s.1 s.2 t.1 t.2)&&QY t (lnP s.1 s.2 t.1 t.2))=true
    .rw [MX i];rw [AD,KH,KH] at i;have hi:In s t (lnP s.1 s.2 t.1 t.2):=⟨(Za d).2 ⟨l1,i.1⟩,(Za ht).2 ⟨l2,i.2⟩⟩;exact .inr (.inl ⟨Z,_,hi,fun q hq=>one _ _ hq hi⟩)
    .rw [MY i];refine .inl ⟨Z,fun p hp=>i ?_⟩;have ps:=(Za d).1 hp.1;have a:=(Za ht).1 hp.2;have e:=zeO j ps.1 a.1 l1 l2;rw [<-e,AD,KH,KH];grind
def kC (a b:V2):le2 (wk a b).1 (wk a b).2:=by
 unfold wk;split
 .rename_i h;rw [bn] at h;exact (bf _ _).resolve_left h
 .rename_i h;rw [bn] at h;grind
def lj {a b p:V2}:em (wk a b).1 (wk a b).2 p↔em a b p:=by
 unfold wk;split
 .exact zuS
 rfl
def kin (a b c d:V2):Int:=(qB (wk a b) (wk c d)).1
abbrev Bo (a b c d p:V2):Prop:=em a b p/\em c d p
def zuT (a b c d:V2):SK (Bo a b c d) (kin a b c d):=(zxV (kC a b) (kC c d)).congr fun p=>by unfold In Bo;rw [lj,lj]
def add2 (p v:V2):V2:=(p.1+v.1,p.2+v.2)
def Yw (p v:V2):V2:=(p.1-v.1,p.2-v.2)
def vc (l:List V2) (i:Nat):V2:=l.getD (i%l.length) (0,0)
def KI (n i j:Nat):Int:=if j=i+1\/(i=0/\j+1=n) then 1 else 0
def eG (n:Nat):List (Nat×Nat):=(List.range n).flatMap fun i=>((List.range n).filter fun j=>decide (i<j)).map fun j=>(i,j)
def zcS (l:List V2) (x:Nat×Nat):Bool:= !decide (vc l x.1=vc l x.2)&&decide (kin (vc l x.1) (vc l (x.1+1)) (vc l x.2) (vc l (x.2+1))=KI l.length x.1 x.2)
def ZW (l:List V2):Bool:=decide (3<=l.length)&&(eG l.length).all (zcS l)
def li {n i j:Nat}:(i,j)∈eG n↔i<j/\j<n:=by
 unfold eG;grind
def adj (n i j:Nat):Prop:=(i+1)%n=j%n\/(j+1)%n=i%n
instance (n i j:Nat):Decidable (adj n i j):=inferInstanceAs (Decidable (_\/_))
def Per (n:Nat) (c:Nat->V2):Prop:=∀ i,c (i%n)=c i
def zmE (l:List V2):Per l.length (vc l):=fun i=>by unfold vc;simp
def trn (c:Nat->V2) (n i:Nat):Int:=vK (cr (c (i+n-1)) (c i) (c (i+1))) 0
def ue (l:List V2):List Int:=if l.length<3 then [] else (List.range l.length).map (trn (vc l) l.length)
def Ut (l:List V2):Bool:=(ue l).all (fun n=>decide (n=1))&&ZW l
def gp (a b:V2) (t:Rat):V2:=(a.1+(b.1-a.1)*t,a.2+(b.2-a.2)*t)
def zry {a b q:V2}:em a b q↔∃ s,0<=s/\s<=1/\q=gp a b s:=by
 constructor
 .intro h;have i:=h.1;unfold cr qz at i
  have c:∀ s,q=gp a b s->∃ s,0<=s/\s<=1/\q=gp a b s:=fun s e=>by
   subst e;rcases zru.1 h with ⟨h1,f⟩ | ⟨h1,f⟩
   .grind
   .exact⟨0,by grind,by grind,Prod.ext (by show a.1+(b.1-a.1)*s=a.1+(b.1-a.1)*0;grind) (by show a.2+(b.2-a.2)*s=a.2+(b.2-a.2)*0;grind)⟩
  by_cases h1:b.1-a.1=0
  .by_cases f:b.2-a.2=0
   .have k:q.1=a.1:=by have:=h.2.1;unfold eM at this;grind
    have e2:q.2=a.2:=by have:=h.2.2;unfold eM at this;grind
    exact c 0 (Prod.ext (by show q.1=a.1+(b.1-a.1)*0;grind) (by show q.2=a.2+(b.2-a.2)*0;grind))
   .have e:(q.2-a.2)/(b.2-a.2)*(b.2-a.2)=q.2-a.2:=DO f;refine c ((q.2-a.2)/(b.2-a.2)) (Prod.ext ?_ ?_)
    .show q.1=a.1+(b.1-a.1)*_;grind
    .show q.2=a.2+(b.2-a.2)*_;grind
  .have e:(q.1-a.1)/(b.1-a.1)*(b.1-a.1)=q.1-a.1:=DO h1;refine c ((q.1-a.1)/(b.1-a.1)) (Prod.ext ?_ ?_)
   .show q.1=a.1+(b.1-a.1)*_;grind
   .show q.2=a.2+(b.2-a.2)*_;grind
 .rintro⟨s,j,h1,rfl⟩;exact zru.2 (.inl ⟨j,h1⟩)
def zuV (a b:V2):gp a b 0=a:=Prod.ext (by show a.1+(b.1-a.1)*0=_;grind) (by show a.2+(b.2-a.2)*0=_;grind)
section
variable {a b:V2} {t:Rat} (h0:0<t) (h1:t<1) (hab:a≠b)
 include h0 h1
 include hab
end
def zuW (a b:V2):em a b a:=zry.2 ⟨0,by grind,by grind,(zuV a b).symm⟩
def zid {n i j:Nat} (h:j=i+1\/(i=0/\j+1=n)):KI n i j=1:=MX h
def zeP {n i j:Nat} (h:¬ (j=i+1\/(i=0/\j+1=n))):KI n i j=0:=MY h
variable {α:Type}
def fb {α:Type} (n:Nat) (h:Nat->α):List α:=(List.range n).map h
def zie (n:Nat) (h:Nat->α):(fb n h).length=n:=by unfold fb;simp
def zkU {n:Nat} {f g:Nat->α} (h:∀ i,i<n->f i=g i):fb n f=fb n g:=Bk fun i hi=>h i (AI.1 hi)
def zeQ (n:Nat) (h:Nat->α):fb (n+1) h=fb n h++[h n]:=by unfold fb;rw [Co,Cp];rfl
abbrev x2 (a b:V2):Rat:=a.1*b.2-a.2*b.1
def gK (l:List V2):Rat:=(fb l.length fun i=>x2 (vc l i) (vc l (i+1))).sum
def cx (a:List Rat) (x:Rat):(a++[x]).sum=a.sum+x:=by grind
end Num
namespace Go.Proofs
open Go Go.Sv Num Tryz
variable {G:Imm}
variable {k j:Nat} {p a q c:RawP} {v u:V2} {b:Bool} {l d:G7}
def gc [ao G] (a:0<k) (hp:wL k p) (hq:wL k q) (g:400*k+21000<=cap):G0 G 270 [zl (pc p),zl (pc q)] (MK (vN (pv p) (pv q))):=by
 have f:=xH (b:=p.1.1) hp.1 a;have e:=xH (b:=p.2.1) hp.2 a;have d:=xH (b:=q.1.1) hq.1 a;have c:=xH (b:=q.2.1) hq.2 a;exact oS C
def iH [ao G] (a:0<k) (hp:wL k p) (hq:wL k q) (g:400*k+21000<=cap):G0 G 189 [zl (pc p),zl (pc q)] (zl (zL (Yw (pv p) (pv q)))):=by
 have f:=xH (b:=p.1.1) hp.1 a;have e:=xH (b:=p.2.1) hp.2 a;have d:=xH (b:=q.1.1) hq.1 a;have c:=xH (b:=q.2.1) hq.2 a;exact XQ C
class Bp (v:V2) (k:outParam Nat):Prop where
 x:Bq v.1 k
 y:Bq v.2 k
theorem Zb (a:0<k) (hp:wL k p):Bp (pv p) k:=
 ⟨(xH (b:=p.1.1) hp.1 a).bq,(xH (b:=p.2.1) hp.2 a).bq⟩
theorem Xp (h:Bp u k) (h':Bp v j):Bp (Yw u v) (k+j+1):=by
 have:=h.x;have:=h.y;have:=h'.x;have:=h'.y;exact⟨(bq_sub:Bq (u.1-v.1) _),(bq_sub:Bq (u.2-v.2) _)⟩
theorem wF (h:Bp v k) (a:k<=j):Bp v j:=⟨xb h.x a,xb h.y a⟩
def Wf (h:Bp v k):wL k (Xs v):=zh9 h.x h.y
def QJ (h:wL k p) (a:k<=j):wL j p:=⟨⟨h.1.1,h.1.2.1,Ag h.1.2.2.1 a,Ag h.1.2.2.2 a⟩,h.2.1,h.2.2.1,Ag h.2.2.2.1 a,Ag h.2.2.2.2 a⟩
def jf [ao G] (h:Bp u k) (h':Bp v j) (a:200*(k+j)+21000<=cap):G0 G 452 [zl (zL u),zl (zL v)] (zl (zP (u.1*v.2-u.2*v.1))):=by
 have:=h.x;have:=h.y;have:=h'.x;have:=h'.y;exact UU C
theorem Wg (h:Bp u k) (h':Bp v j):Bq (u.1*v.2-u.2*v.1) (2*(k+j)+1):=by
 have:=h.x;have:=h.y;have:=h'.x;have:=h'.y;exact xb inferInstance C
abbrev fZ:=RawP×RawP
abbrev sgc (s:fZ):List SV:=pc s.1++pc s.2
def Vb (s:fZ):Sg:=(pv s.1,pv s.2)
abbrev gF (k:Nat) (s:fZ):Prop:=wL k s.1/\wL k s.2
def fr (a b:RawP):fZ:=if 0<vN (pv a) (pv b) then (b,a) else (a,b)
def zAy (a b:RawP):Vb (fr a b)=wk (pv a) (pv b):=by unfold fr wk;split <;> rfl
theorem zw0 {b:RawP} (d:wL k a) (c:wL k b):gF k (fr a b):=by unfold fr;grind
abbrev gk (m:Int×V2×V2):List SV:=ze .i8 m.1::(zL m.2.1++zL m.2.2)
theorem zrA {a b c d:V2} (j:0<k) (h:Bp a k) (g:Bp b k) (f:Bp c k) (e:Bp d k):Bp (if den a b c d=0 then (0,0) else lnP a b c d) (32*k):=by
 have:=h.x;have:=h.y;have:=g.x;have:=g.y;have:=f.x;have:=f.y;have:=e.x;have:=e.y;split
 .exact⟨xb bq_zero C,xb bq_zero C⟩
 .have i:Bq (lnR a b c d) (16*k+10):=by
   unfold lnR den;exact xb (k:=(k+k+1+(k+k+1)+(k+k+1+(k+k+1))+1)+(k+k+1+(k+k+1)+(k+k+1+(k+k+1))+1)) inferInstance C
  exact⟨xb (q:=a.1+(b.1-a.1)*lnR a b c d) inferInstance C,xb (q:=a.2+(b.2-a.2)*lnR a b c d) inferInstance C⟩
theorem zuZ {s t:Sg} {P Q:V2} (b:P=if den s.1 s.2 t.1 t.2=0 then (0,0) else lnP s.1 s.2 t.1 t.2) (c:Q=P) (d:¬ 0<vN (QZ s t) (Ja s t)) (c2:(YH s (QZ s t)&&YH t (QZ s t)&&YH s (Ja s t)&&YH t (Ja s t))=false):
 qB s t=if (!(!decide (den s.1 s.2 t.1 t.2=0))|| !QY s Q|| !QY t Q)=true then gf else (1,P,P):=by
 subst c;unfold qB;grind
def zrB [ao G] {z:Int} {n:Nat} [h:IsZ b l z k] [g:IsNat d n] [m:Sz d j] (i:2*(k+j+1)+11000<=cap):G0 G 354 [zl [zp b,zD l],zD d] (yR [zl (zP (mkRat z n)),MK (if n=0 then 30 else 0)]):=by
 have p:IsQ b l d (mkRat z n) (k+j+1):=⟨h.lim,g.lim,by rw [h.val,g.val],by have:=h.len;omega,by have:=m.h;omega,C⟩
 have f:=g.val;refine Fq func354 ?_;refine yT fun r=>?_;refine zz ?_;apply zx;(iterate 4 refine zz ?_);refine ae.box Z Z Z Z Z Z fun o=>Fh ?_;refine ah [] _ [_] Z Z Z Z (YG i) Z Z Z ?_;rintro s1 H1 ⟨rfl,rfl⟩;rw [f];refine zg ?_;refine Fp ?_ ?_<;>intro c
 .have a:n=0:=by simpa using c
  exact zj (zu (e:=by rw [MX a];rfl))
 .have a:n≠0:=by simpa using c
  exact zj (zu (e:=by rw [MY a];rfl))
def oR [ao G] {c:Bool} {m e:G7} {p q:Rat} [hx:IsQ b l d p k] [hy:IsQ c m e q j] (y:100*(k+j)+21000<=cap):G0 G 410 [zl [zp b,zD l,zD d],zl [zp c,zD m,zD e]] (yR [zl (zP (p/q)),MK (if q=0 then 30 else 0)]):=by
 have f:=hx.bq;have a:=hy.bq;have x:=f.bz;have w:=f.bd;have t:Bd q.num.natAbs j:=⟨a.num⟩;have g:IsZ (decide (q.num<0)) (dig q.den) (Zd (decide (q.num<0)) q.den) j:=⟨xe _,by rw [xu],a.lens.2⟩
 have s:=g.bz;refine Fq func410 ?_;refine Fm fun z=>?_;refine Fw 6 ?_;refine Fl Z Z (Yg C) ?_;refine Fl Z Z (Yg C) ?_;refine Fw 34 ?_;refine Fl Z Z (YF C) ?_;refine Fl Z Z (Kn C) ?_;refine zo (zb Z Z (zrB C)) ?_;refine zz ?_;refine Fi ((xp Z Z Z).sub (zI (n:=(if q=0 then 30 else 0)) (by by_cases h:q=0;rw [MX h,MX (by simp_all)];rw [MY h,MY (Cb p.den_nz (fun r=>h (Rat.num_eq_zero.1 (Int.natAbs_eq_zero.1 r))))]))) ?_
 exact zj (zu (e:=by rw [<-mQ];rfl))
def oQ [ao G] {b:RawP} (hk:0<k) (ha:wL k a) (hb:wL k b) (hs:400*k+21000<=cap):G0 G 383 [zl (pc a),zl (pc b)] (zl (sgc (fr a b))):=by
 refine zs func383 ?_;refine zr<|ae.box Z Z Z Z Z Z fun b2=>ae.box Z Z Z Z Z Z fun b3=>yT fun b4=>?_;refine Fh ?_;refine zf (gc hk ha hb hs) ?_;refine zg ?_;refine xK ?_ ?_<;>intro h8
 .have k8:=MO h8;refine zJ<|zo ((AX (zl (pc b))<|zE 1 Z Z Z V Z)) ?_;refine zo ((AX (zl (pc a))<|zE 2 Z Z Z V Z)) ?_;(iterate 2 refine zw ?_);refine zx<|zo (zE 2 Z Z Z Z Z) ?_;refine zz ?_;refine zo ((AX (zl (sgc (b,a)))<|yQ Z Z V)) ?_;refine Fh ?_;refine zj ?_
  exact⟨_,[],.one (.agg 0 inferInstance Z Z Z Z),BZ _,by unfold fr;rw [MX k8];rfl,Z⟩
 .have k8:=MP h8;refine zB<|zr<|zo (zE 2 Z Z Z Z Z) ?_;refine zz ?_;refine zo ((AX (zl (sgc (a,b)))<|yQ Z Z V)) ?_;refine Fh ?_;refine zj ?_
  exact⟨_,[],.one (.agg 0 inferInstance Z Z Z Z),BZ _,by unfold fr;rw [MY k8];rfl,Z⟩
def zkW [ao G] {s:fZ} (c:0<k) (a:gF k s) (b:400*k+21000<=cap):G0 G 503 [zl (sgc s)] (zl (zL (Yw (pv s.2) (pv s.1)))):=by
 refine Fq func503 ?_;refine Fm fun b2=>?_;refine Fk (iH c a.2 a.1 b) ?_;exact zj zt
def zkX [ao G] {s:fZ} (b:0<k) (a:gF k s) (hp:wL k p) (d:2000*k+30000<=cap):G0 G 455 [zl (sgc s),zl (pc p)] (MK (vK (cr (pv s.1) (pv s.2) (pv p)) 0)):=by
 have c:=Xp (Zb b a.2) (Zb b a.1);have c2:=Xp (Zb b hp) (Zb b a.1);have e:=Wg c c2;refine Fq func455 ?_;refine Fw 9 ?_;refine Fk (zkW b a C) ?_;refine Fl Z Z (iH b hp a.1 C) ?_;refine Fk (jf c c2 C) ?_;refine Fl Z Z (VY C) ?_;exact zj zt
def JO [ao G] {s:fZ} (f:0<k) (c:gF k s) (hp:wL k p) (d:400*k+21000<=cap):G0 G 387 [zl (sgc s),zl (pc p)] (zp (QY (Vb s) (pv p))):=by
 refine Fq func387 ?_;refine zf (gc f c.1 hp d) ?_;refine FE ?_ ?_<;>intro a b
 .refine Fk (gc f hp c.2 d) ?_;exact zj (zu (e:=by unfold QY;rw [show decide (vN (Vb s).1 (pv p)<=0)=true from a];rfl))
 .exact zj (zu (e:=by unfold QY;rw [show decide (vN (Vb s).1 (pv p)<=0)=false from a];rfl))
def KJ [ao G] {s:fZ} (c:0<k) (b:gF k s) (hp:wL k p) (d:2000*k+30000<=cap):G0 G 385 [zl (sgc s),zl (pc p)] (zp (YH (Vb s) (pv p))):=by
 refine zs func385 ?_;refine zg ?_;refine FG (zb Z Z (JO c b hp C)) ?_ ?_<;>intro a
 .refine Fk (zkX c b hp d) ?_;exact zj (zu (e:=by unfold YH;rw [a];rfl))
 .exact zj (zu (e:=by unfold YH;grind))
def zeR:G0 G 384 [] (zl (gk gf)):=by
 refine Fq func384 ?_;refine yT fun b0=>?_;apply zx;(iterate 2 refine zo (zb Z Z (UT (p:=0) (q:=0) J J J J)) ?_);refine zg ?_;exact zj zt
def zig [ao G] {b d:RawP} (f:0<k) (j:wL k a) (m:wL k b) (l:wL k c) (o:wL k d) (w:10000*k+100000<=cap):G0 G 386 [zl (pc a),zl (pc b),zl (pc c),zl (pc d)] (yR [zl (zL (if den (pv a) (pv b) (pv c) (pv d)=0 then (0,0) else lnP (pv a) (pv b) (pv c) (pv d))),zp (!decide (den (pv a) (pv b) (pv c) (pv d)=0))]):=by
 have n:=Xp (Zb f o) (Zb f l);have c2:=Xp (Zb f l) (Zb f j);have t:=Xp (Zb f m) (Zb f j);have s:=Wg c2 n;have r:=Wg t n;have x:Bq (lnR (pv a) (pv b) (pv c) (pv d)) _:=bq_div (hp:=s) (hq:=r);have D:=xH (b:=a.1.1) j.1 f;have z:=xH (b:=b.1.1) m.1 f;have A:=xH (b:=a.2.1) j.2 f;have b2:=xH (b:=b.2.1) m.2 f;refine Fq func386 ?_;refine Fm fun y=>?_;refine Fl Z Z (iH f o l C) ?_;refine Fm fun v=>?_;refine Zq 14 V Z Z<|FB ?_;refine FD (zb Z Z (iH f l j C)) ?_;refine FD (zb Z Z (jf c2 n C)) ?_;refine FD (zb Z Z (iH f m j C)) ?_;refine FD (zb Z Z (jf t n C)) ?_;refine FD (zb Z Z (show zm _ _ _ _ (yR [zl (zP (lnR (pv a) (pv b) (pv c) (pv d))),MK (if den (pv a) (pv b) (pv c) (pv d)=0 then 30 else 0)]) from oR C)) ?_;refine ab.nil<|aI Z Z Z Z Z Z Z Z GL Z Z Z fun u=>Fh ?_;refine Fo ?_ ?_<;>intro _ i
 .have g:=M4 fun h=>i (MY h);refine Fl Z Z (UT (p:=0) (q:=0) J J J J) ?_;exact zj (zu (e:=by rw [MX g,MR g];rfl))
 .have g:¬ den (pv a) (pv b) (pv c) (pv d)=0:=fun h=>by grind
  refine Fl Z Z (show zm _ _ _ _ (zl (zL (lnP (pv a) (pv b) (pv c) (pv d)))) from zh6 C) ?_;exact zj (zu (e:=by rw [MY g,MS g];rfl))
theorem zcW [ao G] {s t:fZ} (hk:0<k) (hs1:gF k s) (ht1:gF k t) (hs:100000*k+100000<=cap):G0 G 292 [zl (sgc s),zl (sgc t)] (zl (gk (qB (Vb s) (Vb t)))):=by
 refine zs func292 ?_;refine zg ?_;refine yT fun b4=>?_;apply zM;apply iK
 .refine qA 4 5 (by decide) ?_ (dQ [0,1,2,3,5,4,6,7] (by rfl) ?_)
  .refine Kt 8 [4,5,6,7] _ V (.refl _)<|ag (yC Z Z Z) Z Z Z<|ag ((AX (zl (pc s.1))<|zG Z Z Z Z)) Z Z Z<|ag (yC Z Z Z) Z Z Z<|ag ((AX (zl (pc s.2))<|zG Z Z Z Z)) Z Z Z ?_
   refine ab.nil ⟨_,Z,ar.alloc Z Z Z Z fun b5=>⟨.cons _ (.refl _),ab.nil ⟨_,Z,ar.alloc Z Z Z Z fun b6=>⟨.cons _ (.cons _ (.refl _)),ab.nil ⟨_,Z,ar.store 1 Z Z Z Z Z Z Z Z (.cons _ (.cons _ (.refl _))) (ab.nil ⟨_,Z,ar.store 0 Z Z Z Z Z Z Z Z (.cons _ (.cons _ (.refl _))) (ab.nil (ae.nil ?_))⟩)⟩⟩⟩⟩⟩;exact⟨Z,b5,b6,.refl⟩
  .refine Kt 8 [4,5,6,7] _ V (.refl _)<|ag (yC Z Z Z) Z Z Z<|ag ((AX (zl (pc s.1))<|zG Z Z Z Z)) Z Z Z<|ag (yC Z Z Z) Z Z Z<|ag ((AX (zl (pc s.2))<|zG Z Z Z Z)) Z Z Z ?_
   refine ab.nil ⟨_,Z,ar.alloc Z Z Z Z fun b6=>⟨.cons _ (.refl _),ab.nil ⟨_,Z,ar.alloc Z Z Z Z fun b5=>⟨.cons _ (.cons _ (.refl _)),ab.nil ⟨_,Z,ar.store 0 Z Z Z Z Z Z Z Z (.cons _ (.cons _ (.refl _))) (ab.nil ⟨_,Z,ar.store 1 Z Z Z Z Z Z Z Z (.cons _ (.cons _ (.refl _))) (ab.nil (ae.nil ?_))⟩)⟩⟩⟩⟩⟩;exact⟨Z,b5,b6,(vO (.swap _ _ _)).trans (aC.ghost MM)⟩
 intro b5 b6;refine yL (K:=fun S1=>∃ lo:RawP,pv lo=QZ (Vb s) (Vb t)/\wL k lo/\aC S1 ⟨103,[(6,G9 b6),(5,G9 b5),(4,G9 b4),(3,yo (sgc t)),(2,yo (sgc s))],[⟨some b6,48,pc s.2,0⟩,⟨some b5,48,pc lo,0⟩,⟨some b4,214,[ze .i8 0,eqS (.bool false),G8,G8,eqS (.bool false),G8,G8,eqS (.bool false),G8,G8,eqS (.bool false),G8,G8],0⟩],[],(0,false)⟩) ?_ ?_
 .apply zr;refine zz ?_;refine zo ((AX (zl (pc t.1))<|zG Z Z Z Z)) ?_;refine zo ((AX (zl (pc s.1))<|zE 1 Z Z Z V Z)) ?_;refine zo (zb rfl rfl (gc hk ht1.1 hs1.1 (by omega))) ?_;refine zg ?_;refine xK ?_ ?_<;>intro h19
  .have k19:=MO h19;refine zJ<|zz ?_;refine Fi ((AX (zl (pc t.1))<|zG rfl rfl rfl rfl)) ?_;exact⟨t.1,(MX k19).symm,ht1.1,MM⟩
  .have k19:=MP h19;exact zB ⟨s.1,(MY k19).symm,hs1.1,MM⟩
 .rintro S1 ⟨lo,hlo,olo,hS1⟩;refine xq hS1<|yL (K:=fun S1=>∃ hi:RawP,pv hi=Ja (Vb s) (Vb t)/\wL k hi/\aC S1 ⟨103,[(6,G9 b6),(5,G9 b5),(4,G9 b4),(3,yo (sgc t)),(2,yo (sgc s))],[⟨some b6,48,pc hi,0⟩,⟨some b5,48,pc lo,0⟩,⟨some b4,214,[ze .i8 0,eqS (.bool false),G8,G8,eqS (.bool false),G8,G8,eqS (.bool false),G8,G8,eqS (.bool false),G8,G8],0⟩],[],(0,false)⟩) ?_ ?_
  .apply zr;refine zz ?_;refine Fi ((AX (zl (pc t.2))<|zG rfl rfl rfl rfl)) ?_;refine zo (zb rfl rfl (gc hk ht1.2 hs1.2 (by omega))) ?_;refine Fh ?_;refine xK ?_ ?_<;>intro h26
   .have k26:=MO h26;refine zJ<|zz ?_;refine Fi ((AX (zl (pc t.2))<|zG rfl rfl rfl rfl)) ?_;exact⟨t.2,(MX k26).symm,ht1.2,MM⟩
   .have k26:=MP h26;exact zB ⟨s.2,(MY k26).symm,hs1.2,MM⟩
  .rintro S1 ⟨hi,hhi,ohi,hS1⟩;refine xq hS1<|Fh ?_;refine zo (zb rfl rfl (gc hk olo ohi (by omega))) ?_;refine Fh ?_;refine xK ?_ ?_<;>intro h33
   .have k33:=MO h33;have e0:qB (Vb s) (Vb t)=gf:=by unfold qB;rw [<-hlo,<-hhi,MX k33]
    apply zr;refine Fk zeR ?_;exact zj ⟨_,[],.one (.agg 2 inferInstance Z Z Z Z),BZ _,by rw [e0];rfl,Z⟩
   .have k33:=MP h33;refine zB<|zi ?_;refine yL (K:=fun S1=>aC S1 ⟨103,[(52,zp (YH (Vb s) (pv lo)&&YH (Vb t) (pv lo)&&YH (Vb s) (pv hi)&&YH (Vb t) (pv hi))),(7,MK (vN (pv lo) (pv hi))),(6,G9 b6),(5,G9 b5),(4,G9 b4),(3,yo (sgc t)),(2,yo (sgc s))],[⟨some b6,48,pc hi,0⟩,⟨some b5,48,pc lo,0⟩,⟨some b4,214,[ze .i8 0,eqS (.bool false),G8,G8,eqS (.bool false),G8,G8,eqS (.bool false),G8,G8,eqS (.bool false),G8,G8],0⟩],[],(0,false)⟩) ?_ ?_
    .refine Fh ?_;refine ae.oneB (zb rfl rfl (KJ hk hs1 olo (by omega))) rfl rfl rfl (fun h9x2=>?_) (fun h9x2=>?_)
     .refine Fh ?_;refine zo (zb rfl rfl (KJ hk ht1 olo (by omega))) ?_;refine ae.oneB (xl Z Z Z) Z Z Z (fun h9x7=>?_) (fun h9x7=>?_)
      .refine Fh ?_;refine zo (zb rfl rfl (KJ hk hs1 ohi (by omega))) ?_;refine ae.oneB (xl Z Z Z) Z Z Z (fun h9x12=>?_) (fun h9x12=>?_)
       .refine Fh ?_;refine zo (zb rfl rfl (KJ hk ht1 ohi (by omega))) ?_;refine zg ?_;exact (by rw [h9x2,h9x7,h9x12];exact MM)
       .refine Fh ?_;exact (by rw [h9x2,h9x7,h9x12];exact MM)
      .refine zg ?_;exact (by rw [h9x2,h9x7];exact MM)
     .refine Fh ?_;exact (by rw [h9x2];exact MM)
    .intro S1 hS1;refine xq hS1<|xK ?_ ?_<;>intro h52
     .refine Fh ?_;refine zo (zb rfl rfl (show zm _ _ _ [zR 6 id [pc lo,pc hi]] (zR 6 zL [pv lo,pv hi]) from zxU (ps:=[lo,hi]) hk (by grind) (by omega) (show 2<=cap by decide))) ?_;refine Fh ?_;refine xK ?_ ?_<;>intro h58
      .have k58:=MU.1 h58;have e1:qB (Vb s) (Vb t)=(1,pv lo,pv hi):=by unfold qB;rw [<-hlo,<-hhi,MY k33,MX h52,MX k58]
       refine zU 7 V<|zz ?_;refine Fi (zh rfl rfl rfl (by omega) (y:=pv lo) rfl) ?_;refine zo (zh rfl rfl rfl (by omega) rfl) ?_;refine zo ((AX (zl (zL (pv hi)))<|zG Z Z Z Z)) ?_;refine zo ((AX (zl (gk (1,pv lo,pv hi)))<|yQ Z Z V)) ?_;refine Fh ?_;refine zj ?_
       exact⟨_,[],.one (.agg 2 inferInstance Z Z Z Z),BZ _,by rw [e1];rfl,Z⟩
      .have k58:=MT.1 h58;have e1:qB (Vb s) (Vb t)=(2,pv lo,pv hi):=by unfold qB;rw [<-hlo,<-hhi,MY k33,MX h52,MY k58]
       refine zB<|zU 7 V<|zz ?_;refine Fi (zh rfl rfl rfl (by omega) (y:=pv lo) rfl) ?_;refine zo (zh rfl rfl rfl (by omega) rfl) ?_;refine zo ((AX (zl (zL (pv hi)))<|zG Z Z Z Z)) ?_;refine zo ((AX (zl (gk (2,pv lo,pv hi)))<|yQ Z Z V)) ?_;refine Fh ?_;refine zj ?_
       exact⟨_,[],.one (.agg 2 inferInstance Z Z Z Z),BZ _,by rw [e1];rfl,Z⟩
     .apply zB;obtain⟨P,hP⟩:∃ P,P=(if den (Vb s).1 (Vb s).2 (Vb t).1 (Vb t).2=0 then (0,0) else lnP (Vb s).1 (Vb s).2 (Vb t).1 (Vb t).2):=⟨_,rfl⟩;have bP:=zrA hk (Zb hk hs1.1) (Zb hk hs1.2) (Zb hk ht1.1) (Zb hk ht1.2);have oP:wL (32*k) (Xs P):=by rw [hP];exact Wf bP
      have hln:G0 G 386 [zl (pc s.1),zl (pc s.2),zl (pc t.1),zl (pc t.2)] (yR [zl (zL P),zp (!decide (den (Vb s).1 (Vb s).2 (Vb t).1 (Vb t).2=0))]):=by rw [hP];exact zig hk hs1.1 hs1.2 ht1.1 ht1.2 (by omega)
      have e2:=zuZ (s:=Vb s) (t:=Vb t) hP (vj P) (by grind) (by grind);apply zr;refine zz ?_;refine zo ((AX (zl (pc s.1))<|zG Z Z Z Z)) ?_;refine zz ?_;refine zo ((AX (zl (pc s.2))<|zG Z Z Z Z)) ?_;refine zz ?_;refine zo ((AX (zl (pc t.1))<|zG Z Z Z Z)) ?_;refine zz ?_;refine zo ((AX (zl (pc t.2))<|zG Z Z Z Z)) ?_;refine Fk hln ?_;refine yT fun b9=>?_;refine zg ?_;apply zi;refine yL (K:=fun S1=>aC S1 ⟨103,[(98,zp (!(!decide (den (Vb s).1 (Vb s).2 (Vb t).1 (Vb t).2=0))|| !QY (Vb s) (pv (Xs P))|| !QY (Vb t) (pv (Xs P)))),(9,G9 b9),(6,G9 b6),(5,G9 b5),(4,G9 b4),(3,yo (sgc t)),(2,yo (sgc s))],⟨some b9,48,zL P,0⟩::[⟨some b6,48,pc hi,0⟩,⟨some b5,48,pc lo,0⟩,⟨some b4,214,[ze .i8 0,eqS (.bool false),G8,G8,eqS (.bool false),G8,G8,eqS (.bool false),G8,G8,eqS (.bool false),G8,G8],0⟩],[],(0,false)⟩) ?_ ?_
      .refine zJ<|zz ?_;refine ae.oneB (Xm Z Z) Z Z Z (fun h15x1=>?_) (fun h15x1=>?_)
       .refine zg ?_;exact (by rw [h15x1];exact MM)
       .refine zz ?_;refine zo ((AX (zl (sgc s))<|zG Z Z Z Z)) ?_;refine zo ((AX (zl (pc (Xs P)))<|zE 0 Z Z Z V Z)) ?_;refine zo (zb rfl rfl (JO (by omega) ⟨QJ hs1.1 (by omega),QJ hs1.2 (by omega)⟩ oP (by omega))) ?_;refine zz ?_;refine ae.oneB (xl Z Z Z) Z Z Z (fun h15x7=>?_) (fun h15x7=>?_)
        .refine Fh ?_;exact (by rw [h15x1,h15x7];exact MM)
        .refine zz ?_;refine zo ((AX (zl (sgc t))<|zG Z Z Z Z)) ?_;refine zo ((AX (zl (pc (Xs P)))<|zE 0 Z Z Z V Z)) ?_;refine zo (zb rfl rfl (JO (by omega) ⟨QJ ht1.1 (by omega),QJ ht1.2 (by omega)⟩ oP (by omega))) ?_;refine Fh ?_;exact (by rw [h15x1,h15x7];exact MM)
      .intro S1 hS1;refine xq hS1<|xK ?_ ?_<;>intro h98
       .rw [MX h98] at e2;apply zr;refine Fk zeR ?_;exact zj ⟨_,[],.one (.agg 3 inferInstance Z Z Z Z),BZ _,by rw [e2];rfl,Z⟩
       .rw [MY (by grind)] at e2
        refine zB<|zr ?_;(iterate 2 refine zo ((AX (zl (zL P))<|zE 0 Z Z Z V Z)) ?_);refine zo ((AX (zl (gk (1,P,P)))<|yQ Z Z V)) ?_;refine zg ?_;refine zj ?_
        exact⟨_,[],.one (.agg 3 inferInstance Z Z Z Z),BZ _,by rw [e2];rfl,Z⟩
theorem zo3 [ao G] {b d:RawP} (hk:0<k) (ha:wL k a) (hb:wL k b) (hc:wL k c) (hd:wL k d) (hs:100000*k+100000<=cap):G0 G 360 [zl (pc a),zl (pc b),zl (pc c),zl (pc d)] (zl (gk (qB (wk (pv a) (pv b)) (wk (pv c) (pv d))))):=by
 refine zs func360 ?_;refine zg ?_;refine yT fun b8=>?_;refine zM<|zU 7 V<|Fi ((AX (zl (pc a))<|zG rfl rfl rfl rfl)) ?_;refine Fi (zb rfl rfl (oQ hk ha hb (by omega))) ?_;refine zo (zb Z Z (oQ hk hc hd C)) ?_;refine Fk (zcW hk (zw0 ha hb) (zw0 hc hd) hs) ?_;refine zj ?_
 exact⟨_,[],.one (.agg 0 inferInstance Z Z Z Z),BZ _,by rw [zAy,zAy];rfl,Z⟩
end Go.Proofs
