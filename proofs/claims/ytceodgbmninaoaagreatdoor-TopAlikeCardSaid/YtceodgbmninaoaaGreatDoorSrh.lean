/- The planner in general: levels of slabs. -/
import Derived.Test.YtceodgbmninaoaaGreatDoorSqy
set_option linter.all false
namespace Num.Pl
open Go Go.Proofs
variable {x lo:Rat} {xs:List Rat} {m:Nat}
def gI (lo hi:Rat) (e:Ed):Bool:=decide (lo<e.1.1)||decide (e.2.1<hi)||decide (e.2.1<=e.1.1)
def WZ (lo hi:Rat) (es:List Ed):List Lv:=(es.filter fun e=> !gI lo hi e).map fun e=>(XK e lo,XK e hi)
def ztm {hi:Rat} {a:List Ed} {e:Ed} (b:a[m]? =some e):WZ lo hi (a.take (m+1))=WZ lo hi (a.take m)++(if gI lo hi e=true then [] else [(XK e lo,XK e hi)]):=by
 unfold WZ;rw [yp b,DQ,Cp];grind
def znM (lo hi:Rat) (a:List Ed):(WZ lo hi a).length<=a.length:=by unfold WZ;grind
def Kc (lo hi:Rat) (b:Bx) (a:List Ed):WJ lo hi b a=if hi<=lo then [] else dd (Num.sortL fx (WZ lo hi a++[(b.1.2,b.1.2),(b.2.2,b.2.2)])):=rfl
def zlZ (lo hi:Rat) (b:Bx) (a:List Ed):(WJ lo hi b a).length<=a.length+2:=by
 rw [Kc];split
 .simp
 .refine Ag (ZE _) ?_;rw [Num.sortL_len,Aw];have:=znM lo hi a;grind
def YX {p q:Rat}:0<=vK p q↔q<=p:=⟨zuP,fun h=>by rcases Int.lt_or_le (vK p q) 0 with h1 | h1;exact M1 (vG.1 h1) (ED.2 h);exact h1⟩
def lI:Sort.SWO fx:=zng (k1:=fun v:Lv=>v.1+v.2) (k2:=fun v=>v.1) fun x y=>by unfold fx kLt;simp
def lK:∀ x y,fx x y=false->fx y x=false->x=y:=zsA (k1:=fun v:Lv=>v.1+v.2) (k2:=fun v=>v.1) (fun x y=>by unfold fx kLt;simp) fun x y h1 c=>Prod.ext c (by grind)
def zfs {i:Nat} (h:xs[i]? =some x) (a:∀ y∈xs.take i,y≠x):gT xs x=some i:=by
 unfold gT;obtain⟨hi,b⟩:=EC.1 h;rw [List.findIdx?_eq_some_iff_getElem];refine⟨hi,MR b,fun j c=>?_⟩;have:=a xs[j] (List.mem_take_iff_getElem.2 ⟨j,C,Z⟩);grind
def oY (a:∀ y∈xs,y≠x):gT xs x=none:=by
 unfold gT;grind
end Num.Pl
namespace Go.Proofs
open Go Go.Sv Num Num.Pl Tryz
variable {e:List Ed} {lo hi:Rat} {k j:Nat} {b:Bx}
instance bq_hgt {e:Ed} {x:Rat} {k j:Nat} [h1:Bp e.1 k] [a:Bp e.2 k] [hx:Bq x j]:Bq (XK e x) (6*k+j+5):=by
 have f:=h1.x;have d:=h1.y;have c:=a.x;have b:=a.y;exact xb (inferInstance:Bq (e.1.2+(e.2.2-e.1.2)*((x-e.1.1)/(e.2.1-e.1.1))) _) C
abbrev iD (k:Nat) (es:List Ed):Prop:=∀ e∈es,Bp e.1 k/\Bp e.2 k
def zzs {a:List Ed} (c:iD k a) (h1:Bq lo j) (f:Bq hi j):∀ v∈WZ lo hi a,Bl (6*k+j+5) v:=fun v b=>by
 obtain⟨e,d,rfl⟩:=Bc.1 b;obtain⟨g,b2⟩:=c e ((AG.1 d).1);exact⟨bq_hgt,bq_hgt⟩
def zto (f:iD k e) (h1:Bq lo j) (g:Bq hi j) (d:Bp b.1 k) (c:Bp b.2 k):∀ v∈WZ lo hi e++[(b.1.2,b.1.2),(b.2.2,b.2.2)],Bl (6*k+j+5) v:=fun v a=>by
 rcases Bu.1 a with a | a
 .exact zzs f h1 g v a
 .simp only [DZ,D6,or_false] at a
  rcases a with rfl | rfl
  .exact⟨xb d.y C,xb d.y C⟩
  .exact⟨xb c.y C,xb c.y C⟩
def zqc (f:iD k e) (h1:Bq lo j) (g:Bq hi j) (d:Bp b.1 k) (c:Bp b.2 k):∀ v∈WJ lo hi b e,Bl (6*k+j+5) v:=fun v a=>by
 rw [Kc] at a
 split at a
 .cases a
 .exact zto f h1 g d c v ((Num.sortL_perm _ _).mem_iff.1 (Ug a))
abbrev lB (v:Rat×Rat):List SV:=[zl (Vc v)]
variable {G:Imm}
variable {xs:List Rat} {k j:Nat} {lo hi:Rat} {a:List Ed} {ps:List (List V2)} {b:V2} {n:Bx}
def zBE [ao G] {a:V2} {x:Rat} (i:Bp a k) (g:Bp b k) (hx:Bq x j) (d:a.1≠b.1) (l:4000*(k+j)+60000<=cap):G0 G 405 [zl (zL a),zl (zL b),zl (zP x)] (yR [zl (zP (XK ((a,b):Ed) x)),zp true]):=by
 have u:=i.x;have s:=i.y;have r:=g.x;have b2:=g.y;have e:b.1-a.1≠0:=fun h=>d GZ;refine zs func405 ?_;refine zg ?_;refine yT fun o=>?_;refine zg ?_;refine xv 15 [13,14] _ V (.cons_cons _ .slnil)<|FD ((AX (zl (zP x))<|zG Z Z Z Z)) ?_;refine FD ((AX (zl (zP (a.1)))<|zG Z Z Z Z)) ?_;refine FD (zb Z Z (uH (p:=x) (q:=a.1) C)) ?_;refine FD ((AX (zl (zP (b.1)))<|zG Z Z Z Z)) ?_;refine FD ((AX (zl (zP (a.1)))<|zG Z Z Z Z)) ?_;refine ag (zb Z Z (uH C)) Z Z Z<|FD (zb Z Z (oR (p:=x-a.1) (q:=b.1-a.1) C)) ?_;refine .loc0 (VJ Z) Z Z Z ?_;rintro s1 H1 ⟨m,rfl,rfl⟩;refine⟨(.cons _ (.cons_cons _ .slnil)),?_⟩;refine ab.nil ⟨_,Z,?_⟩;refine .loc1n 0 (xf Z Z Z Z Gg) Z Z Z ?_;rintro s1 H1 ⟨rfl,rfl⟩;refine⟨(.cons _ (.cons_cons _ .slnil)),?_⟩;refine ab.nil<|zz ?_;refine zM<|zi<|zg ?_;refine zd (fun f c=>?_) fun _ c=>?_
 .exact M1 f (by grind)
 .refine zg ?_;refine zo (zb Z Z (zh6 C)) ?_;refine Fi ((AX (zl (zP (XK ((a,b):Ed) x)))<|Ks (n:=3) (ft:=46) Tryz.underlying48 Z Z Z Z Z Z)) ?_;exact zj zt
def zwr {m:Nat} {e:Ed} {v:Rat×Rat} (hx:a[m]? =some e) (b:WZ lo hi (a.take (m+1))=WZ lo hi (a.take m)++[v]):(Qi lB (WZ lo hi a))[(WZ lo hi (a.take m)).length]? =some (lB v):=by
 refine vk ?_;have c:WZ lo hi a=WZ lo hi (a.take (m+1))++WZ lo hi (a.drop (m+1)):=by
  unfold WZ;rw [<-Cp,<-DQ,BB]
 grind
set_option maxHeartbeats 900000 in
def zzu [ao G] {g:List Ed} (A:iD k g) (h1:Bq lo j) (D:Bq hi j) (w:4000*(k+j)+60000<=cap) (K:g.length<=1000000):xc prog G 404 [yo [zR 12 eC g],yo (zP lo),yo (zP hi)] (Qi lB (WZ lo hi g)):=by
 refine xM func404 Z Z Z Z fun l E hy=>Fh ?_;refine uK [0,2,3,11,12] (fun (m:Nat) z=>(13,ML m)::z) (fun m=>[]) (fun m=>((WZ lo hi (g.take m)).length,false)) (fun m=>m<=g.length) (fun m=>g.length-m) 0 (BL _) ?_;intro m L;refine Fh ?_;refine Fo ?_ ?_<;>intro _ u
 .obtain⟨e,hx⟩:=FU g m;obtain⟨o,n⟩:=A e (AE hx);have I:=o.x;have H:=n.x;have d:=ztm (lo:=lo) (hi:=hi) hx;refine Fh ?_;refine yT fun F=>?_;refine zg ?_;refine zi<|Vx [0,2,3,6,7,9,11,12,13,14,15,16,41,42,43,44,45,46,47,48,49,50,51,52,53,54,55,56,57,58,59,60,61,62,63,64,65] (fun (c:Bool) z=>(40,zp c)::z) (fun c=>[⟨some F,363,eC e,0⟩]) (fun c=>c=gI lo hi e) ?_ ?_
  .refine zg ?_;refine zo (zb Z Z (xo (by omega))) ?_;refine FE ?_ ?_<;>intro f s
   .exact⟨true,by unfold gI;rw [MR (vQ.1 (MO f))];rfl,MM⟩
   .refine zo (zb Z Z (xo (by omega))) ?_;refine zz ?_;refine FF ?_ ?_<;>intro a
    .have i:=MO a;exact⟨true,by unfold gI;rw [MR (vG.1 (MO a))];simp,MM⟩
    .refine Fl Z Z (xo (by omega)) ?_;exact⟨decide (0<=vK e.1.1 e.2.1),by unfold gI;rw [MS (fun h=>MP f (vQ.2 h)),MS (fun h=>MP a (vG.2 h)),AF,AF,DR,MQ,MQ];exact YX,MM⟩
  .rintro c v;refine FT ?_ ?_<;>intro b
   .refine Fv ?_;rw [MX (v.symm.trans b),BV] at d
    refine Do (m+1) ?_;exact⟨m+1,(by omega:m+1<=g.length),by omega,by rw [d];exact MM⟩
   .rw [MY (by grind)] at d
    have t:e.1.1≠e.2.1:=fun h=>by rw [v] at b;unfold gI at b;grind
    refine Fk (zBE o n h1 t w) ?_;refine Fm fun N=>?_;refine Fk (zBE o n D t w) ?_;refine Fm fun M=>?_;refine ae.yield Z hy Z Z Z (zwr hx d) (yU _) Z Z Z fun y=>zg ?_;refine xK ?_ ?_<;>intro r
    .exact zj ⟨.inl Z,.inr r⟩
    .obtain rfl:y=true:=by grind
     refine zB<|Fs (zF (((B5 _ _).trans (B5 _ _)).trans (B5 _ _))) ?_;refine Do (m+1) ?_;exact⟨m+1,(by omega:m+1<=g.length),by omega,by rw [d,Aw];exact MM⟩
 .exact⟨.inr Z,.inl (by rw [wn,(C:m=g.length),B3])⟩
def zBF:G0 G 302 [zl (zP lo),zl (zP hi),zR 12 eC a] (wD 404 [yo [zR 12 eC a],yo (zP lo),yo (zP hi)]):=by
 refine Fq func302 ?_;exact zj zt
theorem lOf [ao G] {b:Bx} {c:List Ed} (D:iD k c) (h1:Bq lo j) (E:Bq hi j) (s:Bp b.1 k) (r:Bp b.2 k) (Q:10000*(k+j)+60000<=cap) (R:c.length<=500000):G0 G 199 [zl (zP lo),zl (zP hi),zl (cq b),zR 12 eC c] (zR 6 Vc (WJ lo hi b c)):=by
 have hy1:=s.y;have hy2:=r.y;have O:=znM lo hi c;have d:=zto D h1 E s r;rw [Kc];refine zs func199 ?_;refine zg ?_;refine zi<|zg ?_;refine zo (zb Z Z (xo C)) ?_;refine zg ?_;refine zd ?_ ?_<;>intro g u
 .refine zr<|Fi ((AX (zR 6 Vc [])<|(yt Z Z).sub (fun I v N=>⟨none,0,N,Af _,BL _,.inl Z⟩))) ?_;exact zj (zu (e:=by rw [MX (YX.1 (MO g))]))
 .rw [MY (fun h=>MP g (YX.2 h))];refine zB<|qS [0,1,2,3,5,6,7,9,10,11,4,8,12,13,14,15] 15 [10,14] _ V V .slnil<|FC ((AX (zl (zP lo))<|zG Z Z Z Z)) ?_;refine FC (zb Z Z zBF) ?_;refine ag ((AX (zl (zP (b.1.2)))<|zG Z Z Z Z)) Z Z Z ?_;(iterate 2 refine ag (yC Z Z Z) Z Z Z ?_);refine FD ((AX (zl (zP (b.2.2)))<|zG Z Z Z Z)) ?_;refine ar.loc [] [] _ Z (VL Z Z (zBp.o (zzu D h1 E C C) C)) Z Z ?_;rintro s1 H1 ⟨M,i,rfl,rfl⟩;refine⟨(.cons _ .slnil),?_⟩;refine FC (zb Z Z (zxb hy1 C)) ?_;refine FC (zb Z Z (zxb hy2 C)) ?_;refine ar.append 0 Z Z Z Z Z Z Z i Gy (f:=id) (l:=[Vc (b.1.2,b.1.2),Vc (b.2.2,b.2.2)]) (fun z A=>by grind) GF GF fun K a=>⟨(.cons _ .slnil),?_⟩
  refine ab.nil<|zz ?_;apply zM;obtain⟨bb,cc,rfl⟩:=zni a B;obtain⟨L,t⟩:∃ L,L=(WZ lo hi c++[(b.1.2,b.1.2),(b.2.2,b.2.2)]):=⟨_,Z⟩;have P:L.length<=c.length+2:=by rw [t,Aw];simp only [Ap,Ax];omega
  rw [<-t] at d ⊢
  have w:(WZ lo hi c).length+[Vc (b.1.2,b.1.2),Vc (b.2.2,b.2.2)].length=L.length:=by rw [t,Aw];rfl
  have x:(WZ lo hi c).flatMap Vc++[Vc (b.1.2,b.1.2),Vc (b.2.2,b.2.2)].flatMap id=L.flatMap Vc:=by rw [t,CB];rfl
  rw [w] at a ⊢
  rw [x];refine zg ?_;refine ah [] [_] [] Z Z Z Z ((sortL.list (n:=L.length) (lt:=fx) Z C d (zyx C) lI lK a).args ⟨fun _ _ h=>h,Zs,trivial⟩) Z Z Z ?_;rintro H H30 ⟨rfl,rfl⟩;refine zg ?_;refine ah [] [_] [] Z Z Z Z ((zA7.list (Num.sortL_len _ _) C (fun y hy=>d y ((Num.sortL_perm fx L).mem_iff.1 hy)) (zCD C) a).args ⟨fun _ _ h=>h,Zs,trivial⟩) Z Z Z ?_;rintro F H32 ⟨rfl,rfl⟩;have m:=ZE (Num.sortL fx L);rw [Num.sortL_len] at m
  refine ae.ghost _ Z (yF 0 32 Z Z ⟨Ag m a.1,a.2⟩ Z Z GX GK)<|zg ?_;exact zj zt
theorem zxr (a:∀ l∈ps,vE k l):iD k (wg ps):=fun e b=>by
 rw [ux] at b
 obtain⟨l,h1,g⟩:=DP.1 b;obtain⟨h,f,rfl⟩:=Bc.1 g;obtain⟨d,c⟩:=n6 f;unfold gy;grind
def eY (ps:List (List V2)) (b:Bx) (xs:List Rat) (m:Nat):List (List Lv):=((jb xs).take m).map fun s=>WJ s.1 s.2 b (wg ps)
theorem ztp {m:Nat} {u w:Rat} (b:xs[m]? =some u) (a:xs[m+1]? =some w):(jb xs)[m]? =some (u,w):=by
 unfold jb;grind
theorem zqd (ps:List (List V2)) (b:Bx) {m:Nat} {u w:Rat} (c:xs[m]? =some u) (a:xs[m+1]? =some w):eY ps b xs (m+1)=eY ps b xs m++[WJ u w b (wg ps)]:=by
 unfold eY;rw [yp (ztp c a),Cp];rfl
theorem zje (ps:List (List V2)) (b:Bx) (xs:List Rat) (m:Nat):(eY ps b xs m).length<=m:=by unfold eY;grind
theorem ztq (ps:List (List V2)) (b:Bx) {m:Nat} (a:xs.length-1<=m):eY ps b xs m=ZT ps b xs:=by
 unfold eY ZT;rw [BC (by unfold jb;grind)]
theorem zDj [ao G] {b:Bx} (D:0<k) (y:∀ l∈ps,vE k l/\l.length<=1000000) (hx:∀ q∈xs,Bq q j) (t:Bp b.1 k) (s:Bp b.2 k) (A:10000*(k+j)+60000<=cap) (o:ps.length<=1000000) (hf:ps.flatten.length<=500000) (E:xs.length<=1000000):G0 G 119 [zR 1 Uq ps,zl (cq b),zR 3 zP xs] (zR 1 fv (ZT ps b xs)):=by
 have r:=zxr fun l h=>(y l h).1;have p:=mq (ps:=ps) ps.length;rw [B3] at p
 refine Fq func119 ?_;refine Fk (zzb D y C o C) ?_;refine za ((xs.length:Int)-1) ?_;refine Fi ((Yb Z Z Z).sub (zI (n:=((xs.length-1:Nat):Int)) C)) ?_;refine zH (yI 279 1)<|Xt [2,4,7,14,34] (fun (m:Nat) (q:G3) z=>(15,ML m)::(6,eqS (rowV q (eY ps b xs m).length))::z) (fun m q=>[rowE q 279 1 (eY ps b xs m).length ((eY ps b xs m).flatMap fv)]) (fun m q=>m<=xs.length-1/\zX q (eY ps b xs m).length) (fun m q=>xs.length-1-m) 0 none ⟨BL _,Z⟩ ?_;rintro m q ⟨F,hq⟩;refine Fh ?_;refine FP ?_ ?_<;>intro _ i
 .obtain⟨u,x⟩:=FU xs m;obtain⟨w,v⟩:=FU xs (m+1);have d:=zqd ps b x v;have e:=zje ps b xs m;refine vA 15 [14] _ V (.cons _ .slnil)<|FB ?_;refine FC (yK (z:=((m+1:Nat):Int)) Z Z Z (MW some C) (wrap_i64 C C)) ?_;refine FC (zb Z Z (lOf r (hx u (AE x)) (hx w (AE v)) t s A C)) ?_;refine FH 0 Z Z Z Z hq (by rw [yG GY]) fun g c=>⟨(.cons _ .slnil),?_⟩
  refine ab.nil<|zg ?_;refine Do (m+1) ?_;exact⟨m+1,g,⟨C,by grind⟩,C,by rw [d,Aw,CB];exact MM⟩
 .have a:=ztq ps b (xs:=xs) (m:=m) C;rw [a] at hq ⊢
  have e:=zje ps b xs m;rw [a] at e
  refine zK<|Fs (yF 0 6 Z Z hq (f:=fv) Z Z GX GK) ?_;exact zj zt
def VD (ys:List Rat) (y:Rat) (g:Nat):Int:=(((ys.take g).countP fun w=>decide (w<y):Nat):Int)-1
theorem zjf (ys:List Rat) (y:Rat) (g:Nat): -1<=VD ys y g/\VD ys y g<g:=by
 unfold VD;have:=List.countP_le_length (p:=fun w=>decide (w<y)) (l:=ys.take g);grind
theorem zdS {ys:List Rat} {y w:Rat} {g:Nat} (h:ys[g]? =some w):VD ys y (g+1)=if w<y then VD ys y g+1 else VD ys y g:=by
 unfold VD;rw [yp h,List.countP_append,List.countP_singleton];grind
def zjg {ys:List Rat} {y:Rat} {g:Nat} (h:ys[g]? =some y) (a:∀ z∈ys.take g,z≠y):Yy ys y=((g:Int),true):=by unfold Yy;rw [zfs h a]
def zft {ys:List Rat} {y:Rat} (a:∀ z∈ys,z≠y):Yy ys y=(VD ys y ys.length,false):=by unfold Yy VD;rw [oY a,B3]
theorem zBG [ao G] {p:V2} {ls:G2} {i:Nat} (h1:Bq lo k) (Q:Bq hi k) (L:Bp p j) (H:lo<hi) (K:∀ v∈ls,Bl i v) (X:20000*(k+j+i)+60000<=cap) (O:ls.length<=1000000):G0 G 518 [zl (zP lo),zl (zP hi),zl (zL p),zR 6 Vc ls] (yR [MK (Yy (ls.map (hgt lo hi p.1)) p.2).1,zp (Yy (ls.map (hgt lo hi p.1)) p.2).2]):=by
 have M:=L.x;have W:=L.y;have D:(ls.map (hgt lo hi p.1)).length=ls.length:=BR _;have o:∀ y∈(ls.map (hgt lo hi p.1)),Bq y (3*i+3*k+j+10):=fun y hy=>by
  obtain⟨v,n,rfl⟩:=Bc.1 hy;obtain⟨U,S⟩:=K v n;unfold hgt;exact xb (inferInstance:Bq (v.1+(p.1-lo)/(hi-lo)*(v.2-v.1)) _) C
 obtain⟨YS,r⟩:∃ YS,YS=(ls.map (hgt lo hi p.1)):=⟨_,Z⟩;rw [<-r] at D o ⊢
 refine zs func518 ?_;refine zg ?_;refine wO<|zr<|zz ?_;refine zM<|zi<|wN<|iQ [39,40] (fun (w:Int) (u:Bool) z=>(8,MK w)::(9,zp u)::z) (fun w u=>[]) (fun w u=>(w,u)=Yy YS p.2) ?_ ?_
 .refine zg ?_;refine Fi ((zb Z Z (zi6 (k:=k+i) (xb h1 (by omega)) (xb Q (by omega)) M H (fun v n=>⟨xb (K v n).1 (by omega),xb (K v n).2 (by omega)⟩) (by omega) O)).sub (fun I v n=>by grind:∀ I v,(zR 3 zP (ls.map (hgt lo hi p.1))).den I v->(zR 3 zP YS).den I v)) ?_;refine Qj [6,18,19,39,40] (fun (g:Nat) z=>(20,ML g)::(8,MK (VD YS p.2 g))::(9,zp false)::z) (fun g=>[]) (fun g=>g<=YS.length/\∀ y∈YS.take g,y≠p.2) (fun g=>YS.length-g) 0 ⟨BL _,fun y hy=>by grind⟩ ?_;rintro g ⟨Y,a⟩;have P:=zjf YS p.2 g;refine Fh ?_;refine Fo ?_ ?_<;>intro _ A
  .obtain⟨y,hx⟩:=FU YS g;have N:=o y (AE hx);have b:=zdS (y:=p.2) hx;refine Fh ?_;refine Fm fun R=>?_;refine Fl Z Z (xo (by omega)) ?_;refine FQ ?_ ?_<;>intro c t
   .have f:y=p.2:=uw.1 (by omega);have E:YS[g]? =some p.2:=by rw [<-f];exact hx
    refine Fv ?_;exact⟨_,_,(zjg E a).symm,MM⟩
   .have f:y≠p.2:=fun e=>by rw [uw.2 e] at c;grind
    have d:∀ z∈YS.take (g+1),z≠p.2:=fun z m=>by rw [yp hx] at m;grind
    refine FP ?_ ?_<;>intro l s
    .rw [MX (vG.1 (MO l))] at b
     refine za (VD YS p.2 g+1) ?_;refine zz ?_;refine zM<|Fv ?_;refine Do (g+1) ?_;exact⟨g+1,⟨by omega,d⟩,by omega,by rw [b];exact MM⟩
    .rw [MY (fun h=>MP l (vG.2 h))] at b
     refine zB<|Fv ?_;refine Do (g+1) ?_;exact⟨g+1,⟨by omega,d⟩,by omega,by rw [b];exact MM⟩
  .exact⟨_,_,(zft (by grind)).symm,by rw [(C:g=YS.length)];exact MM⟩
 .rintro w u F;rw [<-F];refine zg ?_;exact zj zt
end Go.Proofs
namespace Num.Pl
open Go Go.Proofs
def nT {q:Rat} (h:0<=q):q.floor=((q.num.natAbs/q.den:Nat):Int):=by
 have a:=Rat.num_nonneg.2 h;have e:=Rat.floor_def q;grind
def Ve (lo:Rat) (s:Nat):Rat:=lo*2^s
def abv (lo:Rat) (s:Nat):Int:=(Ve lo s).floor+1
def ztr (lo:Rat) (s:Nat):Ve lo (s+1)=Ve lo s*2:=by unfold Ve;grind
def zts (lo:Rat):Ve lo 0=lo:=by unfold Ve;simp
def fit (lo hi:Rat) (s:Nat):Prop:=((abv lo s:Int):Rat)<Ve hi s
instance {lo hi:Rat} {s:Nat}:Decidable (fit lo hi s):=by unfold fit;infer_instance
theorem mJ (lo hi:Rat):∀ (n s S:Nat),s<=S->S<s+n->(∀t,s<=t->t<S->¬ fit lo hi t)->fit lo hi S->fC n s lo hi=((abv lo S:Int):Rat)/2^S
  | 0,s,S,h1,h2,_,_=>by omega
  | n+1,s,S,h1,h2,h3,h4=>by
    unfold fC;simp only
    by_cases e:s=S
    . subst e
      rw [MX (show (((lo*2^s).floor+1:Int):Rat)<hi*2^s from h4)];rfl
    . rw [MY (show ¬(((lo*2^s).floor+1:Int):Rat)<hi*2^s from h3 s (Af _) C)]
      exact mJ lo hi n (s+1) S C C (fun t ht a=>h3 t C a) h4
def Xj (s:Nat):((2:Rat)^s)=((2^s:Nat):Rat):=by
 simp
def znN (s:Nat):(0:Rat)<2^s:=by rw [Xj];exact_mod_cast C4 s
def ztt {lo hi:Rat} {s:Nat} (h:lo<hi) (b:(hi-lo).den<2^s):fit lo hi s:=by
 unfold fit abv;have h1:((Ve lo s).floor:Rat)<=Ve lo s:=Rat.floor_le _;have m:(1:Rat)<(hi-lo)*2^s:=by
  have hp:0<hi-lo:=by grind
  have e:hi-lo=((hi-lo).num:Rat)/((hi-lo).den:Rat):=by have:=Rat.num_divInt_den (hi-lo);rw [Rat.divInt_eq_div] at this;exact this.symm
  have c:(1:Int)<=(hi-lo).num:=by
   have j:=Rat.num_nonneg.2 (Rat.le_of_lt hp);have i:(hi-lo).num≠0:=fun h=>by rw [Rat.num_eq_zero] at h;grind
   omega
  have d:(0:Rat)<((hi-lo).den:Rat):=by exact_mod_cast (hi-lo).den_pos
  have a:(1:Rat)<=((hi-lo).num:Rat):=by exact_mod_cast c
  have l:((hi-lo).den:Rat)<2^s:=by rw [Xj];exact_mod_cast b
  rw [e,Rat.div_def,Rat.mul_assoc,Rat.mul_comm (((hi-lo).den:Rat)⁻¹),<-Rat.mul_assoc,<-Rat.div_def,Rat.lt_div_iff d];have k:(2:Rat)^s<=((hi-lo).num:Rat)*2^s:=by
   have:=Rat.mul_le_mul_of_nonneg_right a (Rat.le_of_lt (znN s));rwa [Rat.one_mul] at this
  grind
 have g:Ve hi s=Ve lo s+(hi-lo)*2^s:=by unfold Ve;grind
 grind
def zfu {lo hi:Rat} {k:Nat} (h:lo<hi) (b:Bq (hi-lo) k):∃ S,S<=32*k/\S<=(hi-lo).den/\fit lo hi S/\∀ t,t<S->¬ fit lo hi t:=by
 have h1:=ztt h (by
  have:=b.den
  rwa [(FV:(4294967296:Nat)=2^32),<-CX] at this)
 have d:=ztt h Nat.lt_two_pow_self;obtain⟨S,c,a⟩:=Go.Sv.exists_least ⟨_,h1⟩;grind
end Num.Pl
namespace Go.Proofs
open Go Go.Sv Num Num.Pl Tryz
variable {k s j:Nat} {q:Rat} {z:Int}
theorem mI (h:Bq q k) (a:s<=32*j):Bq (Ve q s) (k+j):=by
 have b:=Xj s;have hsz:2^s<=4294967296^j:=by
  rw [(FV:(4294967296:Nat)=2^32),<-CX];exact Cm J a
 unfold Ve;rw [b];have e:q*((2^s:Nat):Rat)=mkRat (q.num*(2^s:Nat)) q.den:=by rw [DJ,Rat.num_natCast,Rat.den_natCast,Cr]
 rw [e];refine Wd ?_ (Ah h.den (Cm J C)) (by have:=h.pos;omega);rw [DE,Dz,Ct];exact Cs (Cq _ hsz) (C3 h.num (CS J))
def ztu {lo:Rat} (h:0<=lo):0<=Ve lo s:=DN h (Rat.le_of_lt (znN s))
def znO {lo:Rat} (h:Bq lo k) (d:0<=lo) (a:s<=32*j):(abv lo s).natAbs<4294967296^(k+j+1)/\0<=abv lo s:=by
 have h1:=mI h a;have c:(Ve lo s).num.natAbs/(Ve lo s).den<4294967296^(k+j):=Cs (Cu _ _) h1.num;unfold abv;rw [nT (ztu d)];obtain⟨m,b⟩:∃ m,m=(Ve lo s).num.natAbs/(Ve lo s).den:=⟨_,Z⟩;omega
theorem zws (a:z.natAbs<4294967296^k) (b:0<k):IsQ (decide (z<0)) (dig z.natAbs) [1] (z:Rat) k:=by
 have:=kB a (Nat.one_lt_pow C J) b (Rat.mkRat_one z);rwa [kG] at this
def zzw (q:Rat) (s:Nat):Ve q s=mkRat (q.num*(2^s:Nat)) q.den:=by unfold Ve;rw [Xj,DJ,Rat.num_natCast,Rat.den_natCast,Cr]
theorem zzx (h:Bq q k) (b:0<=q) (a:s<=32*j):IsQ false (dig (q.num.natAbs*2^s)) (dig q.den) (Ve q s) (k+j):=by
 have c:=Rat.num_nonneg.2 b;have hsz:2^s<=4294967296^j:=by
  rw [(FV:(4294967296:Nat)=2^32),<-CX];exact Cm J a
 refine⟨xe _,xe _,?_,zT ?_,zT (Ah h.den (Cm J C)),by have:=h.pos;omega⟩
 .rw [xu,xu,zev,zzw,BO,(C:(q.num.natAbs:Int)=q.num)]
 .rw [Ct];exact Cs (Cq _ hsz) (C3 h.num (CS J))
theorem znP (a:z.natAbs<4294967296^k) (b:s<=32*j):IsQ (decide (z<0)) (dig z.natAbs) (dig (1*2^s)) ((z:Rat)/2^s) (k+j+1):=by
 refine kB (Ah a (Cm J C)) ?_ C ?_
 .rw [CH];refine Cs (m:=4294967296^j) ?_ (Nat.pow_lt_pow_right J C);rw [(FV:(4294967296:Nat)=2^32),<-CX];exact Cm J b
 .rw [CH,Rat.mkRat_eq_div,Xj]
theorem zwt (h:Bq (Ve q s) k):IsQ (decide ((Ve q s).num<0)) (dig ((Ve q s).num.natAbs*2^1)) (dig (Ve q s).den) (Ve q (s+1)) (k+1):=by
 refine⟨xe _,xe _,?_,zT ?_,zT (Ah h.den (Cm J C)),C⟩
 .rw [xu,xu,ztr];have e:Zd (decide ((Ve q s).num<0)) ((Ve q s).num.natAbs*2^1)=(Ve q s).num*2:=by
   have:=uq ((Ve q s).num*2);rw [DE] at this;rw [<-this]
   congr 1;exact decide_eq_decide.2 C
  rw [e,DJ];simp
 .have:=h.num;omega
abbrev pj (lo:Rat) (s:Nat):List SV:=[ze .i64 (s:Nat),zl (zP (Ve lo s))]
def zwu {lo:Rat} {n g:Nat} (h:g<n):(Qi (pj lo) (List.range n))[g]? =some (pj lo g):=vk (Cx h)
variable {G:Imm}
variable {lo hi:Rat} {k:Nat}
def zqe [ao G] {q:Rat} [h:Bq q k] (hq:0<=q) (g:2*k+11000<=cap):G0 G 479 [zl (zP q)] (zl (vI q.floor)):=by
 have c:decide (q.num<0)=false:=MS (by simp_all);obtain⟨e,d⟩:=h.lens;have f:IsZ (decide (q.num<0)) (dig (q.num.natAbs/q.den)) q.floor k:=⟨xe _,by rw [xu,c,nT hq];rfl,zT (Cs (Cu _ _) h.num)⟩
 refine Fq func479 ?_;refine Fm fun b2=>?_;refine Fl Z Z (Yg C) ?_;refine Fw 19 ?_;refine zo (zb Z Z (Kr C C)) ?_;refine zg ?_;refine zi<|zr ?_;(iterate 5 refine zz ?_);refine Fi ((AX (zp false)<|(xP Z Z).sub (yz c))) ?_;refine Fu ?_;refine Fl Z Z (JI C) ?_;exact zj zt
def zzy [ao G] {q:Rat} [h:Bq q k] (hq:0<=q) (a:4*k+15000<=cap):G0 G 409 [zl (zP q)] (zl (vI (q.floor+1))):=by
 have b:Bz q.floor k:=⟨by rw [nT hq,Dz];exact Cs (Cu _ _) h.num⟩
 refine Fq func409 ?_;refine Fm fun b2=>?_;refine Fl Z Z (zqe hq C) ?_;refine Fl Z Z (oi J J) ?_;refine Fl Z Z (JJ C) ?_;exact zj zt
def zDl [ao G] {j S:Nat} (h:Bq lo k) (w:S<=32*j) (u:j<=1000000) (t:2*(k+j)+12000<=cap):jk prog G 478 [yo (zP lo)] (Qi (pj lo) (List.range (S+1))) (fun k _ _=>k≠S+1):=by
 refine nZ func478 Z Z Z Z fun l E hy n=>zg ?_;refine ah [] [] [] Z Z Z Z (nK (by omega)) Z Z Z ?_
 rintro p H6 ⟨o,rfl,rfl⟩;rw [show zP lo=zP (Ve lo 0) by rw [zts]];refine Fh ?_;refine uK [0,3] (fun (g:Nat) z=>(4,ML g)::z) (fun g=>[⟨some o,156,zP (Ve lo g),0⟩]) (fun g=>(g,false)) (fun g=>g<=S+1) (fun g=>S+1-g) 0 (BL _) ?_;intro g v;by_cases d:g=S+1
 .exact zy3 (fun I F W m=>n _ I F W m d) Z
 have c:=mI h (C:g<=32*j);have r:=zwt c;obtain⟨i,f⟩:=c.lens;refine Fh ?_;refine ae.yield Z hy Z Z Z (zwu (C:g<S+1)) (yU _) Z Z Z fun y=>zM<|Fp ?_ ?_<;>intro b
 .obtain rfl:=b;refine Fl Z Z (kI (k:=1) J (by omega)) ?_;refine ah [] [_] [] Z Z Z Z (YG (by omega)) Z Z Z ?_;rintro e H29 ⟨rfl,rfl⟩;refine zg ?_;refine Do (g+1) ?_;exact⟨g+1,(by omega:g+1<=S+1),by omega,MM⟩
 .exact⟨.inr Z,.inr (by grind)⟩
def zDm:G0 G 408 [zl (zP lo)] (wD 478 [yo (zP lo)]):=by
 refine Fq func408 ?_;exact zj zt
def zBH [ao G] (h1:Bq lo k) (h2:Bq hi k) (h0:0<=lo) (hlt:lo<hi) (hk:k<=1000) (hs:2000*k+100000<=cap):G0 G 310 [zl (zP lo),zl (zP hi)] (yR [zl (zP (fC ((hi-lo).den+2) 0 lo hi)),zp true]):=by
 obtain⟨S,hS1,hS2,hfit,hmin⟩:=zfu hlt (inferInstance:Bq (hi-lo) (k+k+1));rw [mJ lo hi _ 0 S (BL _) (by omega) (fun t _ ht=>hmin t ht) hfit];obtain⟨hl1,hl2⟩:=h2.lens;have hh0:0<hi:=by grind
 have iN1:=kG▸isNat_dig;refine zs func310 ?_;refine zg ?_;refine yT fun b4=>?_;refine zg ?_;refine wO<|zi<|zr<|Fi ((AX (zl (zP lo))<|zG rfl rfl rfl rfl)) ?_;refine zo (zb rfl rfl (xo (by omega))) ?_;refine zg ?_;refine xK ?_ ?_<;>intro h13
 .have k13:=MO h13;exact M1 (YX.1 (MO h13)) (Rat.not_le.2 hlt)
 .refine zB<|zi<|Fh ?_;refine zo (zb Z Z (qe h2 C)) ?_;refine zg ?_;refine xK ?_ ?_<;>intro h17
  .have k17:=MO h17;exact M1 (nJ (MO h17)) (Rat.not_le.2 hh0)
  .refine zB<|zi<|Fh ?_;refine zo (zb Z Z (qe h1 C)) ?_;refine zg ?_;refine xK ?_ ?_<;>intro h31
   .have k31:=MO h31;exact M1 (vG.1 (MO h31)) (ED.2 h0)
   .refine zB<|zr<|Fh ?_;refine zo (zb rfl rfl (Yg (by omega))) ?_;refine yT fun b6=>?_;refine zg ?_;refine zi<|wN<|zsL [4,5,67] (fun (w:Rat) (D:G7) z=>z) (fun w D=>[⟨some b6,157,[yo (zP hi)],0⟩,⟨some b4,46,zP w,0⟩]) (fun w D=>D) (fun w D=>w=((abv lo S:Int):Rat)/2^S) ?_ ?_
    .refine Fh ?_;refine Fk zDm ?_;refine uN rfl rfl (zDl (S:=S) (j:=k+k+1) h1 (by omega) (by omega) (by omega)) (fun ss h=>Yq (m:=2) (fun _=>rfl) h) (by decide) rfl
      (fun k1 h i=>i=(0,false)/\h=[⟨some b6,157,[yo (zP hi)],0⟩,⟨some b4,46,[eqS (.bool false),G8,G8],0⟩]/\k1<=S)
      (fun e h i=>e= .exit 0/\i=(0,false)/\h=[⟨some b6,157,[yo (zP hi)],0⟩,⟨some b4,46,zP (((abv lo S:Int):Rat)/2^S),0⟩]) ⟨rfl,rfl,BL _⟩ ?_ ?_ ?_ (by omega)
     .rintro l k1 ss h i hkk ⟨rfl,rfl,hk1⟩;obtain⟨j,hj,rfl⟩:=uQ hkk;rw [Cx (show k1<S+1 by omega)] at hj
      cases hj
      have hbq:=mI h1 (show k1<=32*(k+k+1) by omega);obtain⟨hab,hab0⟩:=znO h1 h0 (show k1<=32*(k+k+1) by omega);have iA:=zws hab (by omega);have iU:=zzx h2 (Rat.le_of_lt hh0) (show k1<=32*(k+k+1) by omega);have iR:=znP hab (show k1<=32*(k+k+1) by omega);refine zr<|zg ?_;refine yT fun b8=>?_;refine zg ?_;refine⟨Z,?_⟩;refine zN<|zr<|zo ((AX (zl (zP (Ve lo k1)))<|zE 0 Z Z Z V Z)) ?_;refine zo (zb rfl rfl (zzy (ztu h0) (by omega))) ?_;refine yT fun b9=>?_;refine zg ?_;refine zU 20 V<|zo ((AX (zl (vI (abv lo k1)))<|zE 0 Z Z Z V Z)) ?_;refine zo ((xj [1] Z Z J Z B Z Z Z)) ?_;refine zo ((AX (zl [zp (decide (abv lo k1<0)),zD (dig (abv lo k1).natAbs),zD [1]])<|yQ Z Z V)) ?_;refine zg ?_;refine zo (zb rfl rfl (kI (by omega) (by omega))) ?_;refine zo ((AX (zl [zp false,zD (dig (hi.num.natAbs*2^k1))])<|yQ Z Z V)) ?_;(iterate 5 refine zz ?_);refine zo ((AX (zl [zp false,zD (dig (hi.num.natAbs*2^k1)),zD (dig hi.den)])<|yQ Z Z V)) ?_;refine zo (zb rfl rfl (xo (by omega))) ?_;refine zg ?_;refine xK ?_ ?_<;>intro h60
      .have k60:=MO h60;have hf:fit lo hi k1:=vG.1 (MO h60);obtain rfl:k1=S:=(by grind)
       refine zU 6 V<|zo ((AX (zl (vI (abv lo k1)))<|zE 0 Z Z Z V Z)) ?_;refine zo ((xj [1] Z Z J Z B Z Z Z)) ?_;refine zz ?_;refine zo (zb rfl rfl (kI (by omega) (by show 1+10000<=cap;omega))) ?_;refine zo ((AX (zl [zp (decide (abv lo k1<0)),zD (dig (abv lo k1).natAbs),zD (dig (1*2^k1))])<|yQ Z Z V)) ?_;refine zo (zb rfl rfl (wT (by omega))) ?_;refine zM<|zw ?_;refine ae.ghost _ Z (zF ((B5 _ _).trans (B5 _ _)))<|Fh ?_
       exact⟨Z,Z,Z⟩
      .refine zH (zF ((B5 _ _).trans (B5 _ _))) ?_;have hk2:k1≠S:=fun e=>MP h60 (vG.2 (by rw [e];exact hfit))
       exact zB ⟨Z,Z,by omega⟩
     .rintro h i D ⟨_,_,hk1⟩;rw [wn,DU] at hk1
      omega
     .rintro h i D e c hcc ⟨rfl,rfl,rfl⟩;exact⟨_,_,Z,MM⟩
    .rintro w D rfl;refine Fh ?_;refine zj ?_;exact⟨_,[],.many (.cons (.agg 1 inferInstance Z Z Z Z) (.cons (.tmp Z) (.nil))),BZ _,Z,Z⟩
theorem qp (h1:Bq lo k) (e:Bq hi k) (i:0<k):Bq (Vv lo hi) (5*k+5):=by
 have a:∀ {lo hi:Rat},Bq lo k->Bq hi k->0<=lo->lo<hi->Bq (fC ((hi-lo).den+2) 0 lo hi) (5*k+5):=fun {lo hi} h1 e f hlt=>by
  obtain⟨S,d,g,c,b⟩:=zfu hlt (inferInstance:Bq (hi-lo) (k+k+1));rw [mJ lo hi _ 0 S (BL _) C (fun t _ ht=>b t ht) c];exact xb (znP (znO h1 f d).1 d).bq C
 unfold Vv;split
 .exact xb bq_zero C
 .rename_i h;split
  .rename_i f;have:=a (lo:= -hi) (hi:= -lo) inferInstance inferInstance (by grind) (by grind);rw [(GZ:-lo- -hi=hi-lo)] at this;exact @bq_neg _ _ this
  .split
   .exact xb bq_zero C
   grind
def zDn [ao G] (h1:Bq lo k) (t:Bq hi k) (x:k<=1000) (v:2000*k+100000<=cap):G0 G 310 [zl (zP lo),zl (zP hi)] (yR [zl (zP (Vv lo hi)),zp (decide (lo<hi))]):=by
 by_cases a:0<=lo/\lo<hi
 .rw [show Vv lo hi=fC ((hi-lo).den+2) 0 lo hi by unfold Vv;grind,MR a.2];exact zBH h1 t a.1 a.2 x v
 refine Fq func310 ?_;refine yT fun A=>?_;refine zg ?_;refine wO<|Fh ?_;refine Fl Z Z (xo C) ?_;refine FP ?_ ?_<;>intro f r
 .have i:=YX.1 (MO f);refine Fl Z Z (wK J J) ?_;exact zj (zu (e:=by rw [show Vv lo hi=0 from MX i,MS (ED.2 i)];rfl))
 .have g:=Rat.not_le.1 fun h=>MP f (YX.2 h);rw [MR g];refine Fh ?_;refine Fk (qe t C) ?_;refine FQ ?_ ?_<;>intro d o
  .have j:=nJ (MO d);have y:Vv lo hi= -(fC ((-lo- -hi).den+2) 0 (-hi) (-lo)):=by unfold Vv;rw [MY (by grind),MX j,(GZ:-lo- -hi=hi-lo)]
   rw [y];obtain⟨w,u⟩:∃ w,w=fC ((-lo- -hi).den+2) 0 (-hi) (-lo):=⟨_,Z⟩;have z:Bq w (5*k+5):=by have h9:= @bq_neg _ _ (qp h1 t h1.pos);rwa [y,Rat.neg_neg,<-u] at h9
   have l:=zBH (G:=G) (lo:= -hi) (hi:= -lo) inferInstance inferInstance (by grind) (by grind) x v;rw [<-u] at l ⊢
   refine UG 8 _ V Z (.cons _ .slnil)<|FB ?_;refine FC (zb Z Z (QE C)) ?_;refine FC (zb Z Z (QE C)) ?_;refine FC (zb Z Z l) ?_;refine ab.nil<|aU.store 0 Z Z Z Z Z Z Z Z (.cons _ .slnil)<|zg ?_;refine Fl Z Z (QE C) ?_;exact zj zt
  .have j:=Rat.not_le.1 fun h=>MP d (by rcases Int.lt_or_le 0 (vK hi 0) with c | c;exact M1 (vQ.1 c) (ED.2 h);exact c)
   refine Fl Z Z (qe h1 C) ?_;refine Fo ?_ ?_<;>intro b m
   .have s:=vG.1 (MO b);refine Fl Z Z (wK J J) ?_;exact zj (zu (e:=by rw [show Vv lo hi=0 by unfold Vv;grind];rfl))
   .exact M1 ⟨ED.1 fun h=>MP b (vG.2 h),g⟩ a
end Go.Proofs
namespace Num.Pl
open Go Go.Proofs
def zdU (one two:Int) (a:Nat) (x:Rat) (y:List Rat) (i:Nat):List Ce:=
 (one,a,i,(x,y.getD i 0))::(if i+1<y.length then [(two,a,i,(x,Vv (y.getD i 0) (y.getD (i+1) 0)))] else [])
def fJ (one two:Int) (a:Nat) (x:Rat) (y:List Rat) (n:Nat):List Ce:=(List.range n).flatMap (zdU one two a x y)
def qr {one two:Int} {a:Nat} {x:Rat} {y:List Rat}:uP one two a x y=fJ one two a x y y.length:=rfl
section
variable {one two:Int} {a g:Nat} {x:Rat} {y:List Rat}
def ja:fJ one two a x y (g+1)=fJ one two a x y g++zdU one two a x y g:=by unfold fJ;rw [Co,CB,BM,Ef,BV]
theorem zjh:∀ {m n:Nat},m<=n->∃ r,fJ one two a x y n=fJ one two a x y m++r
  | m,0,h=>⟨[],by grind⟩
  | m,n+1,h=>by
    by_cases e:m=n+1
    . simp_all
    . obtain⟨r,b⟩:=zjh (m:=m) (n:=n) (by omega)
      exact⟨r++zdU one two a x y n,by rw [ja,b,Bw]⟩
def znQ {j:Nat} {c:Ce} (h:g<y.length) (b:(zdU one two a x y g)[j]? =some c):(uP one two a x y)[(fJ one two a x y g).length+j]? =some c:=by
 obtain⟨r,d⟩:=zjh (one:=one) (two:=two) (a:=a) (x:=x) (y:=y) (C:g+1<=y.length);have e:=(EC.1 b).1;rw [qr,d,ja,Bw,Ae (Dg _ _),C1,Ad e,b]
def znR (n:Nat):(fJ one two a x y n).length<=2*n:=by
 induction n with
 | zero=>exact Af _
 | succ n ih=>
  rw [ja,Aw];have:(zdU one two a x y n).length<=2:=by unfold zdU;split <;> simp
  omega
end
end Num.Pl
namespace Go.Proofs
open Go Go.Sv Num Num.Pl Tryz
theorem ztv {one two:Int} {a:Nat} {x:Rat} {y:List Rat} {k:Nat} (d:0<k) (hx:Bq x k) (hy:∀ q∈y,Bq q k):∀ c∈uP one two a x y,Bp c.2.2.2 (5*k+5):=fun c e=>by
 have b:∀ i,Bq (y.getD i 0) k:=fun i=>by
  rw [Ay];cases h:y[i]? with
  | none=>exact xb bq_zero d
  | some q=>grind
 unfold uP at e
 obtain⟨i,_,h⟩:=DP.1 e;rcases DZ.1 h with rfl | h
 .exact⟨xb hx C,xb (b i) C⟩
 .split at h
  .rw [AS.1 h];exact⟨xb hx C,qp (b i) (b _) d⟩
  grind
abbrev zDo (c:Pl.Ce):List SV:=[zl (cD c)]
variable {G:Imm}
variable {x lo:Rat} {k a:Nat} {ys:List Rat} {one two:Int}
def zxs [ao G] {hi:Rat} (h1:Bq lo k) (d:Bq hi k) (c:k<=1000) (b:2000*k+100000<=cap):G0 G 203 [zl (zP lo),zl (zP hi)] (zl (zP (Vv lo hi))):=by
 refine Fq func203 ?_;refine Fm fun g=>?_;refine Fk (zDn h1 d c b) ?_;refine Fm fun f=>?_;refine Fp ?_ ?_<;>intro a
 .exact Hj
 .refine Fl Z Z (wK J J) ?_;exact zj (zu (e:=by rw [show Vv lo hi=0 from MX (ED.1 (MP a))];rfl))
def zxt [ao G] {kd:Int} {i:Nat} {y:Rat} (hx:Bq x k) (hy:Bq y k) (b:2*k+11000<=cap):G0 G 309 [ze .i8 kd,ML i,zl (zP y),yo [ML a],yo (zP x)] (zl (cD (kd,a,i,(x,y)))):=by
 refine Fq func309 ?_;refine Fm fun c=>?_;refine Fw 9 ?_;refine Fl Z Z (wT C) ?_;refine Fl Z Z (wT C) ?_;exact Hj
def zxu [ao G] (hx:Bq x k) (i:∀ q∈ys,Bq q k) (u:k<=1000) (t:2000*k+100000<=cap) (v:ys.length<=1000000):xc prog G 308 [yo [ML a],yo (zP x),yo [zR 3 zP ys],yo [ze .i8 one],yo [ze .i8 two]] (Qi zDo (uP one two a x ys)):=by
 refine xM func308 Z Z Z Z fun l E hy=>Fh ?_;refine uK [0,3,4,5,7,11,12] (fun (g:Nat) z=>(13,ML g)::z) (fun g=>[]) (fun g=>((fJ one two a x ys g).length,false)) (fun g=>g<=ys.length) (fun g=>ys.length-g) 0 (BL _) ?_;intro g A;refine Fh ?_;refine Fo ?_ ?_<;>intro _ r
 .obtain⟨y,m⟩:=FU ys g;have d:=i y (AE m);have c:ys.getD g 0=y:=by rw [Ay,m];rfl
  refine Fh ?_;refine Fm fun D=>?_;refine Fi ((yY Z Z Z (zxt hx d C))) ?_;refine ae.yield Z hy Z Z Z (vk (znQ (j:=0) (by omega) (by unfold zdU;rw [c];rfl))) (yU _) Z Z Z fun y1=>zg ?_;refine Fp ?_ ?_<;>intro f
  .exact zj ⟨.inl Z,.inr f⟩
  .obtain rfl:y1=true:=by grind
   refine Fw 18 ?_;refine za ((g+1:Nat):Int) ?_;(iterate 2 refine zz ?_);refine FE ?_ ?_<;>intro _ h
   .have p:g+1<ys.length:=by omega
    obtain⟨w,n⟩:∃ w,ys[g+1]? =some w:=⟨_,AL p⟩;have o:=i w (AE n);have s:ys.getD (g+1) 0=w:=by rw [Ay,n];rfl
    have b:zdU one two a x ys g=[(one,a,g,(x,y)),(two,a,g,(x,Vv y w))]:=by unfold zdU;rw [MX p,c,s]
    refine Do (g+1) ?_;refine Fk (zxs d o u t) ?_;refine Fi ((yY Z Z Z (zxt (xb hx C) (qp d o (by have:=hx.pos;omega)) C))) ?_;refine ae.yield Z hy Z Z Z (vk (znQ (by omega) (by rw [b];rfl))) (yU _) (gB Z Z Z Z) Z Z fun y2=>zg ?_;refine xK ?_ ?_<;>intro e
    .exact zj ⟨.inl Z,.inr e⟩
    .obtain rfl:y2=true:=by grind
     refine zB<|Fv ?_;refine Do (g+1) ?_;exact⟨g+1,(by omega:g+1<=ys.length),by omega,by rw [ja,Aw,b];exact MM⟩
   .have b:zdU one two a x ys g=[(one,a,g,(x,y))]:=by unfold zdU;rw [MY (by omega),c]
    refine yM Z Z<|zB<|Fv ?_;refine Do (g+1) ?_;exact⟨g+1,(by omega:g+1<=ys.length),by omega,by rw [ja,Aw,b];exact MM⟩
 .exact⟨.inr Z,.inl (by rw [wn,qr,(C:g=ys.length)])⟩
def zBI:G0 G 202 [ze .i8 one,ze .i8 two,ML a,zl (zP x),zR 3 zP ys] (wD 308 [yo [ML a],yo (zP x),yo [zR 3 zP ys],yo [ze .i8 one],yo [ze .i8 two]]):=by
 refine Fq func202 ?_;exact Hj
end Go.Proofs
namespace Num.Pl
open Go Go.Proofs
variable {ls:List (List Lv)} {ps:List (List V2)} {xs:List Rat} {g n:Nat} {b:Bx}
def w1 (ls:List (List Lv)) (g:Nat):List Rat:=if 0<g then (ls.getD (g-1) []).map (·.2) else []
def w2 (ls:List (List Lv)) (g:Nat):List Rat:=(ls.getD g []).map (·.1)
def w3 (pt:List V2) (x:Rat):List Rat:=(pt.filter fun p=>decide (p.1=x)).map (·.2)
def gS (ps:List (List V2)) (b:Bx) (xs:List Rat) (ls:List (List Lv)) (g:Nat):List Rat:=[b.1.2,b.2.2]++w1 ls g++w2 ls g++w3 ps.flatten (xs.getD g 0)
def oX (h:g<xs.length):(vP ps b xs ls)[g]? =some (dd (Num.sortL ltR (gS ps b xs ls g))):=by
 unfold vP;exact K5
def XT:(vP ps b xs ls).length=xs.length:=by unfold vP;simp
def ztw (a:List V2) (x:Rat):(w3 a x).length<=a.length:=by unfold w3;grind
theorem zDp {a:List V2} {x:Rat} {m:Nat} {p:V2} (h:a[m]? =some p):w3 (a.take (m+1)) x=w3 (a.take m) x++if p.1=x then [p.2] else []:=by
 unfold w3;rw [yp h,DQ,Cp];grind
theorem zxv {v:Lv} (h:v∈ls.getD g []):∃ l∈ls,v∈l:=by
 grind
theorem iW (h:∀ l∈ls,l.length<=n):(ls.getD g []).length<=n:=by
 grind
theorem zji (h:∀ l∈ls,l.length<=n):(gS ps b xs ls g).length<=2+n+n+ps.flatten.length:=by
 have h1:=iW (g:=g) h;have a:=iW (g:=g-1) h;have e:=ztw ps.flatten (xs.getD g 0);have d:(w1 ls g).length<=n:=by unfold w1;split;rw [BR];exact a;exact BL _
 have c:(w2 ls g).length<=n:=by unfold w2;rw [BR];exact h1
 unfold gS;grind
end Num.Pl
namespace Go.Proofs
open Go Go.Sv Num Num.Pl
variable {ps:List (List V2)} {ls:List (List Lv)} {xs:List Rat} {k:Nat} {b:Bx}
theorem znS {g:Nat} (e:Bp b.1 k) (d:Bp b.2 k) (hp:∀ l∈ps,vE k l) (f:∀ l∈ls,∀v∈l,Bl k v):∀ q∈gS ps b xs ls g,Bq q k:=fun q hq=>by
 unfold gS at hq
 rcases Bu.1 hq with hq | hq
 .rcases Bu.1 hq with hq | hq
  .rcases Bu.1 hq with hq | hq
   .simp only [DZ,D6,or_false] at hq
    rcases hq with rfl | rfl
    .exact e.y
    .exact d.y
   .unfold w1 at hq
    grind
  .obtain⟨v,a,rfl⟩:=Bc.1 hq;grind
 .obtain⟨p,a,rfl⟩:=Bc.1 hq;obtain⟨l,h1,c⟩:=EH.1 (AG.1 a).1;exact (hp l h1 p c).y
theorem ztx (e:Bp b.1 k) (d:Bp b.2 k) (hp:∀ l∈ps,vE k l) (h:∀ l∈ls,∀v∈l,Bl k v):∀ w∈vP ps b xs ls,∀q∈w,Bq q k:=fun w f q hq=>by
 obtain⟨g,c⟩:=Dr f;have a:=(EC.1 c).1;rw [XT] at a
 rw [oX a] at c
 cases c
 exact znS e d hp h q ((Num.sortL_perm _ _).mem_iff.1 (Ug hq))
variable {G:Imm}
def zty {α:Type} {l:List α} {i:Nat} {x:α} (h:l[i]? =some x):l.set i x=l:=by
 obtain⟨h1,rfl⟩:=EC.1 h;simp
set_option maxHeartbeats 2000000 in
theorem zzz [ao G] {ps:List (List V2)} {b:Bx} {xs:List Rat} {ls:List (List Lv)} {k:Nat} (a1:Bp b.1 k) (a0:Bp b.2 k) (hp:∀ l∈ps,vE k l) (hl:∀ l∈ls,∀v∈l,Bl k v) (b3:∀ q∈xs,Bq q k) (hs:400*k+40000<=cap) (b8:ps.length<=1000000) (c5:ps.flatten.length<=200000) (o:∀ l∈ls,l.length<=200000) (c2:ls.length<=1000000) (c4:xs.length<=1000000):G0 G 120 [zR 1 Uq ps,zl (cq b),zR 3 zP xs,zR 1 fv ls] (zR 1 qR (vP ps b xs ls)):=by
 have P:=XT (ps:=ps) (b:=b) (xs:=xs) (ls:=ls);refine zs Tryz.func120 ?_;refine Fh ?_;refine zH (yI 77 1)<|Xt [0,3,5,8,20,21,117] (fun (g:Nat) (i:G3) z=>(22,ML g)::(9,eqS (rowV i g))::z) (fun g i=>[rowE i 77 1 g (((vP ps b xs ls).take g).flatMap qR)]) (fun g i=>g<=xs.length/\zX i g) (fun g i=>xs.length-g) 0 none ⟨BL _,Z⟩ ?_;rintro g i ⟨hg,R⟩;refine Fh ?_;refine FP ?_ ?_<;>intro _ b2
 .obtain⟨x,hx⟩:=FU xs g;have b5:=b3 x (AE hx);have b4:xs.getD g 0=x:=by rw [Ay,hx];rfl
  refine Fh ?_;refine yT fun e=>?_;refine zg ?_;refine ae.buildRow Z Z Z Z Z Z J Z (.inr B) Z V fun K E=>zg ?_;refine iQ [0,3,5,8,9,10,11,16,18,19,20,21,22,23,24,25,26,27,28,29,30,31,32,33,59,60,61,62,63,64,65,66,67,68,69,70,71,72,73,74,75,76,77,78,79,80,81,82,83,84,85,86,87,88,89,90,91,92,93,94,95,96,97,98,99,100,101,102,103,104,105,106,107,108,109,111,112,113,114,115,116,117] (fun (d:G3) (L0:List Rat) z=>(12,eqS (rowV d L0.length))::z) (fun d L0=>[rowE d 46 3 L0.length (L0.flatMap zP),⟨some e,46,zP x,0⟩,rowE i 77 1 g (((vP ps b xs ls).take g).flatMap qR)]) (fun d L0=>zX d L0.length/\L0=[b.1.2,b.2.2]++w1 ls g) ?_ ?_
  .refine Vx [0,3,5,8,9,10,11,12,14,16,18,19,20,21,22,23,24,25,26,27,28,29,30,31,32,33,43,44,45,46,47,48,49,50,51,52,53,54,55,56,57,58,59,60,61,62,63,64,65,66,67,68,69,70,71,72,73,74,75,76,77,78,79,80,81,82,83,84,85,86,87,88,89,90,91,92,93,94,95,96,97,98,99,100,101,102,103,104,105,106,107,108,109,111,112,113,114,115,116,117] (fun (c:Bool) z=>(42,zp c)::z) (fun c=>[rowE (some (K,2)) 46 3 [b.1.2,b.2.2].length ([b.1.2,b.2.2].flatMap zP),⟨some e,46,zP x,0⟩,rowE i 77 1 g (((vP ps b xs ls).take g).flatMap qR)]) (fun c=>c=(decide (0<g)&&decide (g-1<ls.length))) ?_ ?_
   .refine zJ<|zz ?_;refine FE ?_ ?_<;>intro _ O
    .refine Do (g-1) ?_;exact⟨decide (((g-1:Nat):Int)<(ls.length:Nat)),by grind,MM⟩
    .exact⟨_,by rw [MS (C:¬0<g),DK],MM⟩
   .rintro c hc;refine Fp ?_ ?_<;>intro D
    .rw [hc,AD,MQ,MQ] at D
     obtain⟨b9,H⟩:=D;obtain⟨a,s⟩:∃ a,ls[g-1]? =some a:=⟨_,AL H⟩;have r:ls.getD (g-1) []=a:=by rw [Ay,s];rfl
     have X:=o a (AE s);refine Do (g-1) ?_;refine Ju [0,3,5,8,9,10,11,16,18,19,20,21,22,23,24,25,26,27,28,29,30,31,32,33,34,35,36,37,38,39,40,41,42,43,44,45,46,47,48,59,60,61,62,63,64,65,66,67,68,69,70,71,72,73,74,75,76,77,78,79,80,81,82,83,84,85,86,87,88,89,90,91,92,93,94,95,96,97,98,99,100,101,102,103,104,105,106,107,108,109,111,112,113,114,115,116,117] (fun (m:Nat) (q:G3) (L:List Rat) z=>(49,ML m)::(12,eqS (rowV q L.length))::z) (fun m q L=>[rowE q 46 3 L.length (L.flatMap zP),⟨some e,46,zP x,0⟩,rowE i 77 1 g (((vP ps b xs ls).take g).flatMap qR)]) (fun m q L=>m<=a.length/\zX q L.length/\L=[b.1.2,b.2.2]++(a.take m).map (·.2)) (fun m q L=>a.length-m) 0 (some (K,2)) [b.1.2,b.2.2] ⟨BL _,E,Z⟩ ?_;rintro m q L ⟨hm,hq,j⟩;refine Fh ?_;refine Fo ?_ ?_<;>intro _ b1
     .obtain⟨v,M⟩:=FU a m;have w:L.length<=700010:=by rw [j];simp only [Aw,BR,BG,Ap,Ax];omega
      refine Fh ?_;refine Fm fun d0=>?_;refine FL 1 Z Z Z Z hq (by rw [yG (st:=3) GY]) fun a6 W=>?_;refine zz ?_;refine zM<|Fv ?_;refine Do (m+1) ?_
      exact⟨m+1,a6,L++[v.2],⟨by omega,by grind,by rw [j,yp M,Cp,Bw];rfl⟩,by omega,by rw [Aw];exact an zk Gv⟩
     .exact⟨q,L,⟨hq,by rw [j,(C:m=a.length),B3];unfold w1;grind⟩,MM⟩
    .exact⟨some (K,2),[b.1.2,b.2.2],⟨E,by unfold w1;grind⟩,MM⟩
  .rintro d L0 ⟨u,p⟩;refine iQ [0,3,5,8,9,10,11,14,18,19,20,21,22,23,24,25,26,27,28,29,30,31,32,33,34,35,36,37,38,39,40,41,42,43,44,45,46,47,48,49,50,51,52,53,54,55,56,57,58,78,79,80,81,82,83,84,85,86,87,88,89,90,91,92,93,94,95,96,97,98,99,100,101,102,103,104,105,106,107,108,109,111,112,113,114,115,116,117] (fun (d:G3) (L0:List Rat) z=>(12,eqS (rowV d L0.length))::z) (fun d L0=>[rowE d 46 3 L0.length (L0.flatMap zP),⟨some e,46,zP x,0⟩,rowE i 77 1 g (((vP ps b xs ls).take g).flatMap qR)]) (fun d L0=>zX d L0.length/\L0=[b.1.2,b.2.2]++w1 ls g++w2 ls g) ?_ ?_
   .refine zg ?_;refine Fo ?_ ?_<;>intro _ b0
    .have H:g<ls.length:=by omega
     obtain⟨a,s⟩:∃ a,ls[g]? =some a:=⟨_,AL H⟩;have r:ls.getD g []=a:=by rw [Ay,s];rfl
     have X:=o a (AE s);have a3:L0.length<=2+200000:=by have h9:=iW (g:=g-1) o;rw [p,Aw];unfold w1;split;rw [BR];simp only [Ap,Ax];omega;simp only [Ap,Ax];omega
     refine Fh ?_;refine Ju [0,3,5,8,9,10,11,14,18,19,20,21,22,23,24,25,26,27,28,29,30,31,32,33,34,35,36,37,38,39,40,41,42,43,44,45,46,47,48,49,50,51,52,53,54,55,56,57,58,59,60,61,62,63,64,65,66,67,78,79,80,81,82,83,84,85,86,87,88,89,90,91,92,93,94,95,96,97,98,99,100,101,102,103,104,105,106,107,108,109,111,112,113,114,115,116,117] (fun (m:Nat) (q:G3) (L:List Rat) z=>(68,ML m)::(12,eqS (rowV q L.length))::z) (fun m q L=>[rowE q 46 3 L.length (L.flatMap zP),⟨some e,46,zP x,0⟩,rowE i 77 1 g (((vP ps b xs ls).take g).flatMap qR)]) (fun m q L=>m<=a.length/\zX q L.length/\L=L0++(a.take m).map (·.1)) (fun m q L=>a.length-m) 0 d L0 ⟨BL _,u,(BV L0).symm⟩ ?_;rintro m q L ⟨hm,hq,j⟩;refine Fh ?_;refine Fo ?_ ?_<;>intro _ a9
     .obtain⟨v,M⟩:=FU a m;have w:L.length<=700010:=by rw [j];simp only [Aw,BR,BG,Ap,Ax];omega
      refine Fh ?_;refine Fm fun c9=>?_;refine FL 1 Z Z Z Z hq (by rw [yG (st:=3) GY]) fun a5 U=>?_;refine zz ?_;refine zM<|Fv ?_;refine Do (m+1) ?_
      exact⟨m+1,a5,L++[v.1],⟨by omega,by grind,by rw [j,yp M,Cp,Bw];rfl⟩,by omega,by rw [Aw];exact an zk Gv⟩
     .exact⟨q,L,⟨hq,by rw [j,(C:m=a.length),B3,p];unfold w2;rw [r]⟩,MM⟩
    .exact⟨d,L0,⟨u,by rw [p];unfold w2;grind⟩,MM⟩
   .rintro d L0 ⟨u,p⟩;refine Fh ?_;refine Fl Z Z (ng b8 C) ?_;have a3:L0.length<=2+200000+200000:=by have h9:=iW (g:=g-1) o;have c7:=iW (g:=g) o;rw [p,Aw,Aw];unfold w1 w2;rw [BR];split;rw [BR];simp only [Ap,Ax];omega;simp only [Ap,Ax];omega
    refine Ju [0,3,5,8,9,10,11,14,16,19,20,21,22,23,24,25,26,27,28,29,30,31,32,33,34,35,36,37,38,39,40,41,42,43,44,45,46,47,48,49,50,51,52,53,54,55,56,57,58,59,60,61,62,63,64,65,66,67,68,69,70,71,72,73,74,75,76,77,78,79,80,95,96,97,98,99,100,101,102,103,104,105,106,107,108,109,111,112,113,114,115,116,117] (fun (m:Nat) (q:G3) (L:List Rat) z=>(81,ML m)::(12,eqS (rowV q L.length))::z) (fun m q L=>[rowE q 46 3 L.length (L.flatMap zP),⟨some e,46,zP x,0⟩,rowE i 77 1 g (((vP ps b xs ls).take g).flatMap qR)]) (fun m q L=>m<=ps.flatten.length/\zX q L.length/\L=L0++w3 (ps.flatten.take m) x) (fun m q L=>ps.flatten.length-m) 0 d L0 ⟨BL _,u,(BV L0).symm⟩ ?_;rintro m q L ⟨hm,hq,j⟩;refine Fh ?_;refine FP ?_ ?_<;>intro _ a8
    .obtain⟨v,M⟩:=FU ps.flatten m;have b6:Bp v k:=by obtain⟨l,h1,h2⟩:=EH.1 (AE M);exact hp l h1 v h2
     have b7:=b6.x;have t:=zDp (x:=x) M;have w:L.length<=700010:=by have:=ztw (ps.flatten.take m) x;rw [BG] at this;rw [j,Aw];omega
     refine Fh ?_;refine Fm fun c8=>?_;refine Fl Z Z (zxa b7 b5 C) ?_;refine FR ?_ ?_<;>intro I
     .rw [MX (MO I)] at t
      refine FL 1 Z Z Z Z hq (by rw [yG (st:=3) GY]) fun a4 S=>?_;refine zz ?_;refine zM<|Fv ?_;refine Do (m+1) ?_
      exact⟨m+1,a4,L++[v.2],⟨by omega,by grind,by grind⟩,by omega,by rw [Aw];exact an zk Gv⟩
     .rw [MY (MP I),BV] at t
      refine zB<|Fv ?_;refine Do (m+1) ?_;exact⟨m+1,q,L,⟨by omega,hq,by rw [j,t]⟩,by omega,MM⟩
    .rw [(C:m=ps.flatten.length),B3,p,<-b4] at j
     have a2:L=gS ps b xs ls g:=j;have w:=zji (ps:=ps) (b:=b) (xs:=xs) (g:=g) o;have A:=znS (xs:=xs) (g:=g) a1 a0 hp hl;have c6:2<=L.length:=by rw [j,Aw,Aw,Aw];simp only [Ap,Ax];omega
     rw [<-a2] at w A
     obtain⟨bb,cc,rfl⟩:=zni hq (by omega);refine zK<|zi<|zg ?_;refine Fi ((xd Z Z hq)) ?_;refine Qj [0,3,5,8,9,10,11,12,14,16,18,20,21,22,23,24,25,26,27,28,29,30,31,32,33,34,35,36,37,38,39,40,41,42,43,44,45,46,47,48,49,50,51,52,53,54,55,56,57,58,59,60,61,62,63,64,65,66,67,68,69,70,71,72,73,74,75,76,77,78,79,80,81,82,83,84,85,86,87,88,89,90,91,92,93,94,95,96,109,111,112,113,114,115,116,117] (fun (m:Nat) z=>(97,ML m)::z) (fun m=>[rowE (some (bb,cc)) 46 3 L.length (L.flatMap zP),⟨some e,46,zP x,0⟩,rowE i 77 1 g (((vP ps b xs ls).take g).flatMap qR)]) (fun m=>m<=L.length) (fun m=>L.length-m) 0 (BL _) ?_;intro m hm;refine Fh ?_;refine Fo ?_ ?_<;>intro _ a7
     .obtain⟨y,hy⟩:=FU L m;have c3:=A y (AE hy);refine zo ((zY m Z Z Z Z C)) ?_;refine Fi ((AX (zl (zP y))<|zE 0 Z Z Z (QQ GY hy) Z)) ?_;refine Fl Z Z (wT (by omega)) ?_;refine zo ((zY m Z Z Z Z C)) ?_;refine wo (L.flatMap zP) 0 Z Z Z Z Z Z (by rw [yG (st:=3) GY];exact Ew (C:m*3+3<=L.length*3)) Z Z (by rw [Xi GY y (by omega),zty hy])<|zg ?_;refine Do (m+1) ?_
      exact⟨m+1,(by omega:m+1<=L.length),by omega,MM⟩
     .refine ah [] [_] [_,_] Z Z Z Z ((zxd.list (lt:=ltR) Z (by omega) A (zsF (by omega)) g7 g9 hq).args ⟨fun _ _ h=>h,Zs,trivial⟩) Z Z Z ?_;rintro c1 H110 ⟨rfl,rfl⟩;refine zg ?_;refine ah [] [_] [_,_] Z Z Z Z ((zxf.list (Num.sortL_len _ _) (by omega) (fun y hy=>A y ((Num.sortL_perm ltR L).mem_iff.1 hy)) (zCB (by omega)) hq).args ⟨fun _ _ h=>h,Zs,trivial⟩) Z Z Z ?_;rintro c0 H113 ⟨rfl,rfl⟩;have Y:=ZE (Num.sortL ltR L);rw [Num.sortL_len] at Y
      refine ae.ghost _ Z (yF 0 113 Z Z ⟨Ag Y hq.1,hq.2⟩ Z Z GX GK) ?_;have Q:=oX (ps:=ps) (b:=b) (ls:=ls) (C:g<xs.length);rw [<-a2] at Q
      refine Fh ?_;refine FL 1 Z Z Z Z R (by rw [yG (st:=1) GY,BG,P,AU C,Cr]) fun N F=>?_;refine zz ?_;refine zM<|Fv ?_;refine Do (g+1) ?_
      exact⟨g+1,N,⟨by omega,F⟩,by omega,MN (by rw [yp Q,CB];rfl)⟩
 .obtain rfl:g=xs.length:=by omega
  refine zK<|zr<|ae.ghost _ Z (yF 0 9 Z Z R P Gi GX GK)<|zg ?_;exact zj zt
end Go.Proofs
namespace Num.Pl
open Go Go.Proofs
variable {m:Md} {n i:Nat}
def gb (m:Md) (i:Nat):List Ce:=uP 0 1 i (m.xs.getD i 0) (m.walls.getD i [])
def zgX (m:Md) (i:Nat):List Ce:=if i+1<m.xs.length then uP 2 3 i (Vv (m.xs.getD i 0) (m.xs.getD (i+1) 0)) ((m.levels.getD i []).map (hgt (m.xs.getD i 0) (m.xs.getD (i+1) 0) (Vv (m.xs.getD i 0) (m.xs.getD (i+1) 0)))) else []
def WM (m:Md) (n:Nat):List Ce:=(List.range n).flatMap fun i=>gb m i++zgX m i
def oW:zV m=WM m m.xs.length:=rfl
def na:WM m (n+1)=WM m n++gb m n++zgX m n:=by unfold WM;rw [Co,CB,BM,Ef,BV,Bw]
def zjk (h:∀ w∈m.walls,w.length<=n):(gb m i).length<=2*n:=by
 unfold gb;rw [qr];refine Ag (znR _) (Cq _ ?_);grind
def zjl (h:∀ l∈m.levels,l.length<=n):(zgX m i).length<=2*n:=by
 unfold zgX;split
 .rw [qr];refine Ag (znR _) (Cq _ ?_);grind
 simp
def zfw (h1:∀ w∈m.walls,w.length<=n) (a:∀ l∈m.levels,l.length<=n) (g:Nat):(WM m g).length<=g*(4*n):=by
 induction g with
 | zero=>exact BL _
 | succ g ih=>
  have c:=zjk (i:=g) h1;have b:=zjl (i:=g) a;rw [na,Aw,Aw,Bj];omega
end Num.Pl
namespace Go.Proofs
open Go Go.Sv Num Num.Pl Tryz
abbrev lp (m:Num.Pl.Md) (s:SV):List SV:=cq m.box++[zR 3 zP m.xs,zR 1 fv m.levels,zR 1 qR m.walls,s]
abbrev bX (m:Num.Pl.Md):List SV:=lp m (zR 9 cD (zV m))
structure ck (m:Num.Pl.Md) (k n:Nat):Prop where
 pos:0<k
 kb:12*k+20<=1000
 b1:Bp m.box.1 k
 b2:Bp m.box.2 k
 xs:∀ q∈m.xs,Bq q k
 inc:∀ {i x z},m.xs[i]? =some x->m.xs[i+1]? =some z->x<z
 lv:∀ l∈m.levels,∀v∈l,Bl k v
 lvn:∀ l∈m.levels,l.length<=n
 wl:∀ w∈m.walls,∀q∈w,Bq q k
 wln:∀ w∈m.walls,w.length<=n
 num:m.xs.length*(4*n)<=1000000
 nx:m.xs.length<=1000000
 nn:n<=250000
 nl:m.levels.length<=1000000
 nw:m.walls.length<=1000000
theorem ztz {x z m:Rat} {v:Lv} {k:Nat} (hx:Bq x k) (b:Bq z k) (c:Bq m (5*k+5)) (a:Bl k v):Bq (hgt x z m v) (12*k+20):=by
 obtain⟨h1,d⟩:=a;exact xb (inferInstance:Bq (v.1+(m-x)/(z-x)*(v.2-v.1)) _) C
variable {G:Imm}
variable {m:Num.Pl.Md} {k n:Nat} {c:List SV} {kd r:Int}
set_option maxHeartbeats 2000000 in
def zzA [ao G] {s:SV} (a:ck m k n) (hs:2000000*k+2000000<=cap):G0 G 121 [zl (lp m s)] (zR 9 cD (zV m)):=by
 rw [oW];have K:=zfw a.wln a.lvn;have a0:=a.pos;have b3:=a.kb;have a8:=a.nx;have a3:=a.num;have b0:=a.nn;refine zs func121 ?_;refine Fh ?_;refine zH (yI 191 9)<|Xt [1,7,8,70] (fun (g:Nat) (q:G3) z=>(9,ML g)::(2,eqS (rowV q (WM m g).length))::z) (fun g q=>[rowE q 191 9 (WM m g).length ((WM m g).flatMap cD)]) (fun g q=>g<=m.xs.length/\zX q (WM m g).length) (fun g q=>m.xs.length-g) 0 none ⟨BL _,Z⟩ ?_;rintro g q ⟨hg,hq⟩;refine Fh ?_;refine FP ?_ ?_<;>intro _ O
 .obtain⟨x,hx⟩:=FU m.xs g;have b:=a.xs x (AE hx);have t:m.xs.getD g 0=x:=by rw [Ay,hx];rfl
  have b7:=K g;have a1:(g+1)*(4*n)<=m.xs.length*(4*n):=BK _ (by omega);rw [Bj] at a1
  have E:=zjk (i:=g) a.wln;have X:=zjl (i:=g) a.lvn;refine Fh ?_;refine yT fun b4=>?_;refine zg ?_;refine iQ [1,3,4,5,7,8,9,10,11,12,13,29,30,31,32,33,34,35,36,37,38,39,40,41,42,43,44,45,46,47,48,49,50,51,52,53,54,55,56,57,58,59,60,61,62,63,64,65,66,67,68,69,70] (fun (q:G3) (L:List Pl.Ce) z=>(2,eqS (rowV q L.length))::z) (fun q L=>[⟨some b4,46,zP x,0⟩,rowE q 191 9 L.length (L.flatMap cD)]) (fun q L=>zX q L.length/\L=(WM m g)++gb m g) ?_ ?_
  .refine zg ?_;refine Fo ?_ ?_<;>intro _ N
   .obtain⟨w,W⟩:=FU m.walls g;have D:m.walls.getD g []=w:=by rw [Ay,W];rfl
    have U:=a.wl w (AE W);have a6:=a.wln w (AE W);have a7:(uP 0 1 g x w).length<=2*n:=by unfold gb at E;rwa [t,D] at E
    refine wW 9 V<|Fh ?_;refine Fk zBI ?_;refine ah [_] [_] [] Z Z Z Z (zBn.o (zxu b U (by omega) (by omega) (by omega)) hq (by omega)) Z Z Z ?_
    rintro a5 H28 ⟨q2,Y,rfl,rfl⟩;refine zg ?_;exact⟨q2,_,⟨Y,by unfold gb;rw [t,D]⟩,MM⟩
   .exact⟨q,_,⟨hq,by unfold gb;rw [Ay (l:=m.walls),Ac (C:m.walls.length<=g)];exact (BV _).symm⟩,MM⟩
  .rintro q L ⟨hq,hL⟩;refine Vx [1,2,3,4,5,7,8,9,10,11,12,13,14,15,16,17,18,19,20,21,22,23,24,25,26,27,28,42,43,44,45,46,47,48,49,50,51,52,53,54,55,56,57,58,59,60,61,62,63,64,65,66,67,68,69,70] (fun (c:Bool) z=>(41,zp c)::z) (fun c=>[⟨some b4,46,zP x,0⟩,rowE q 191 9 L.length (L.flatMap cD)]) (fun c=>c=(decide (g<m.levels.length)&&decide (g+1<m.xs.length))) ?_ ?_
   .apply zJ;(iterate 2 refine zz ?_);refine zz ?_;refine zz ?_;refine FE ?_ ?_<;>intro _ A
    .refine Do (g+1) ?_;exact⟨decide (((g+1:Nat):Int)<(m.xs.length:Nat)),by grind,MM⟩
    .exact⟨_,by rw [MS (C:¬g<m.levels.length),DK],MM⟩
   .rintro c hc;refine xK ?_ ?_<;>intro p
    .rw [hc,AD,MQ,MQ] at p
     obtain⟨a2,M⟩:=p;obtain⟨r,u⟩:∃ r,m.levels[g]? =some r:=⟨_,AL a2⟩;have H:m.levels.getD g []=r:=by rw [Ay,u];rfl
     have I:=a.lv r (AE u);have b2:=a.lvn r (AE u);obtain⟨w,Q⟩:∃ w,m.xs[g+1]? =some w:=⟨_,AL M⟩;have e:=a.xs w (AE Q);have P:m.xs.getD (g+1) 0=w:=by rw [Ay,Q];rfl
     have S:=a.inc hx Q;have h:=qp b e a0;obtain⟨d,hd⟩:∃ d,d=Vv x w:=⟨_,Z⟩;rw [<-hd] at h
     have j:zgX m g=uP 2 3 g d (r.map (hgt x w d)):=by unfold zgX;rw [MX M,t,P,<-hd,H]
     rw [j] at X
     have R:∀ y∈r.map (hgt x w d),Bq y (12*k+20):=fun y hy=>by
      obtain⟨v,hv,rfl⟩:=Bc.1 hy;exact ztz b e h (I v hv)
     refine Zq 8 V Z Z<|FB ?_;refine FD (yK (z:=((g+1:Nat):Int)) Z Z Z (MW some (by omega)) (wrap_i64 (by omega) (by omega))) ?_;refine FD ((AX (zl (zP d))<|hd▸zb Z Z (zxs b e C C))) ?_;refine ab.nil<|aI Z Z Z Z Z Z Z Z GL Z Z Z fun b5=>zM<|wW 18 V<|zg ?_;refine Do (g+1) ?_;refine Fl Z Z (zi6 b e h S I (by omega) (by omega)) ?_;refine Fk zBI ?_;refine ah [_,_] [_] [] Z Z Z Z (zBn.o (zxu (k:=12*k+20) (xb h (by omega)) R (by omega) (by omega) (by grind)) hq (by grind)) Z Z Z ?_
     rintro a4 H68 ⟨q3,F,rfl,rfl⟩;refine zz ?_;refine zM<|zH (zF ((B5 _ _).trans (B5 _ _))) ?_;rw [show L++uP 2 3 g d (r.map (hgt x w d))=WM m (g+1) by rw [na,hL,j]] at F ⊢
     refine zJ<|Do (g+1) ?_;exact⟨g+1,q3,⟨by omega,F⟩,by omega,MM⟩
    .have j:zgX m g=[]:=by
      unfold zgX;split
      .rename_i h0;rw [Ay (l:=m.levels),Ac (show m.levels.length<=g by grind)];rfl
      .rfl
     refine zB<|zH (zF (B5 _ _)) ?_;rw [show L=WM m (g+1) by rw [na,hL,j,BV]] at hq ⊢
     refine zJ<|Do (g+1) ?_;exact⟨g+1,q,⟨by omega,hq⟩,by omega,MM⟩
 .obtain rfl:g=m.xs.length:=by omega
  have b6:=K m.xs.length;refine zK<|zr<|ae.ghost _ Z (yF 0 2 Z Z hq Z Z GX GK)<|zg ?_;exact zj zt
def ztA {α:Type} {p:α->Bool}:∀ {l:List α} {g:Nat} {c:α},l[g]? =some c->p c=true->(∀x∈l.take g,p x=false)->l.findIdx? p=some g
 | x::l,0,c,h,hc,_=>by grind
 | x::l,g+1,c,h,hc,hno=>by
  rw [List.findIdx?_cons,hno x (by simp),ztA (l:=l) h hc fun y hy=>hno y (by grind)];rfl
def YO {ds:List SV} (h:c.length=ds.length):xB c 0 ds=ds:=by
 have:=WI c ds [] h;grind
def gC (o:Option Nat):Int:=match o with
 | some i=>i
 | none=> -1
def zDq {cs:List Num.Pl.Ce} {p:Num.Pl.Ce->Bool} {fl:FuncId} {caps:List SV} (hp:∀ c,G0 G fl ([zl (cD c)]++caps) (zp (p c))) (i:cs.length<=1000000):G0 G 520 [zR 9 cD cs,wD fl caps] (MK (gC (cs.findIdx? p))):=by
 refine Fq func520 ?_;refine Qj [0,1,7] (fun (g:Nat) z=>(8,ML g)::z) (fun g=>[]) (fun g=>g<=cs.length/\∀ x∈cs.take g,p x=false) (fun g=>cs.length-g) 0 ⟨BL _,fun x hx=>by cases hx⟩ ?_;rintro g ⟨j,a⟩;refine Fh ?_;refine Fo ?_ ?_<;>intro _ f
 .obtain⟨c,d⟩:=FU cs g;refine Fh ?_;refine Fi ((yY Z Z Z (hp c))) ?_;refine Fp ?_ ?_<;>intro b
  .exact zj (zu (e:=by rw [ztA d b a];rfl))
  .refine Do (g+1) ?_;exact⟨g+1,⟨by omega,fun x hx=>by rw [yp d] at hx;grind⟩,by omega,MM⟩
 .exact zj (zu (e:=by rw [List.findIdx?_eq_none_iff.2 fun x hx=>a x (by grind)];rfl))
def zBJ {c:Num.Pl.Ce} {a:Nat}:G0 G 521 [zl (cD c),yo [ze .i8 kd],yo [ML a],yo [MK r]] (zp (jv kd a r c)):=by
 refine zs func521 ?_;apply zr;(iterate 2 refine zz ?_);apply zx;(iterate 3 refine zz ?_);refine FI ?_ ?_<;>intro _ b
 .iterate 5 refine zz ?_
  refine FF ?_ ?_<;>intro d
  .have f:=MU.1 d;exact zj (zu (e:=by unfold jv;rw [MR b,MR (C:c.2.1=a),C5,C5];rfl))
  .have f:=MT.1 d;exact zj (zu (e:=by unfold jv;rw [MR b,MS (C:¬c.2.1=a)];rfl))
 .refine zg ?_;exact zj (zu (e:=by unfold jv;grind))
def zBK {a:Nat} (b:(zV m).length<=1000000):G0 G 500 [zl (bX m),ze .i8 kd,ML a,MK r] (MK (gC (j6 (zV m) kd a r))):=by
 refine Fq func500 ?_;refine Fl Z Z (zDq (fun c=>zBJ) b) ?_;exact Hj
theorem zzB [ao G] {ps:List (List V2)} {K N:Nat} (u:0<k) (r:∀ l∈ps,vE k l/\l.length<=n) (x:n<=500) (hx:2+ps.length*n+ps.length*ps.length*(n*(2*n))<=1000000) (c:ps.length<=1000000) (q:ps.flatten.length<=200000) (y:N<=200000) (f:Bp (yP ps).1 (32*k)) (e:Bp (yP ps).2 (32*k)) (i:32*k<=K) (a:ck (wX ps) K N) (w:2000000*K+2000000<=cap):G0 G 81 [zR 1 Uq ps] (zl (bX (wX ps))):=by
 have d:=fun l h=>(r l h).1;have z:=a.pos;have v:=zzf (G:=G) u d C c C;have t:=zDi (G:=G) u f e r x C hx c;have o:=zDj (G:=G) (xs:=vo ps (yP ps)) C (fun l h=>⟨fun p hp=>wF (d l h p hp) C,by have:=(r l h).2;omega⟩) a.xs f e C c C a.nx
 have m:=zzz (G:=G) (xs:=vo ps (yP ps)) (ls:=ZT ps (yP ps) (vo ps (yP ps))) (wF f i) (wF e i) (fun l h p hp=>wF (d l h p hp) C) a.lv a.xs C c q (fun l h=>Ag (a.lvn l h) y) a.nl a.nx;have A:wX ps=⟨yP ps,vo ps (yP ps),ZT ps (yP ps) (vo ps (yP ps)),vP ps (yP ps) (vo ps (yP ps)) (ZT ps (yP ps) (vo ps (yP ps)))⟩:=rfl;rw [A] at a ⊢;have g:=fun s=>zzA (G:=G) (s:=s) a w
 generalize vP ps (yP ps) (vo ps (yP ps)) (ZT ps (yP ps) (vo ps (yP ps)))=W at m g ⊢
 generalize ZT ps (yP ps) (vo ps (yP ps))=V at o m g ⊢
 generalize vo ps (yP ps)=X at t o m g ⊢
 generalize yP ps=F at v t o m g ⊢
 show zm _ _ _ _ (zl (lp ⟨F,X,V,W⟩ (zR 9 cD (zV ⟨F,X,V,W⟩))));generalize zV ⟨F,X,V,W⟩=CE at g ⊢
 refine Fq func81 ?_;refine Fm fun b2=>?_;refine zf v ?_;refine zz ?_;refine wo (cq F++[(G8),(G8),(G8),(G8)]) 0 Z Z Z Z Z Z (by rfl) Z Z Z<|zg ?_;refine zf t ?_;refine zz ?_;refine wo (cq F++[zR 3 zP X,(G8),(G8),(G8)]) 0 Z Z Z Z Z Z (by rfl) Z Z Z<|zg ?_;refine zf o ?_;refine zz ?_;refine wo (cq F++[zR 3 zP X,zR 1 fv V,(G8),(G8)]) 0 Z Z Z Z Z Z (by rfl) Z Z Z<|zg ?_;refine zf m ?_;refine zz ?_;refine wo (cq F++[zR 3 zP X,zR 1 fv V,zR 1 qR W,(G8)]) 0 Z Z Z Z Z Z (by rfl) Z Z Z<|zg ?_;refine zf (g G8) ?_;refine zz ?_;refine wo (cq F++[zR 3 zP X,zR 1 fv V,zR 1 qR W,zR 9 cD CE]) 0 Z Z Z Z Z Z (by rfl) Z Z Z<|zx<|zz ?_;refine wo (lp ⟨F,X,V,W⟩ (zR 9 cD CE)) 0 Z Z Z Z Z Z (by rfl) Z Z (YO Z) ?_
 exact Ly
end Go.Proofs
