/- The planner in general: rows that may be empty sorted. -/
import Derived.Test.YtceodgbmninaoaaGreatDoorSqt
import Derived.Test.YtceodgbmninaoaaGreatDoorScn
import Derived.Test.YtceodgbmninaoaaGreatDoorSqf
set_option linter.all false
namespace Go.Proofs
open Go Go.Sv Num Num.Pl Tryz
section
variable (P:Program) (G:Imm)
abbrev iG:SV:=eqS (.slice none 0 0)
structure Sn0 (fid:FuncId):Prop where
 o:∀ {fl:FuncId} {caps:List SV},zm P G fid [iG,ze .i64 0,ze .i64 0,wD fl caps] (yR [])
structure Sp0 (fid:FuncId):Prop where
 o:∀ {fl:FuncId} {caps:List SV} {z:Int},zm P G fid [iG,ze .i64 0,ze .i64 0,ze .i64 z,wD fl caps] (yR [])
structure po (fid:FuncId):Prop where
 o:∀ {fl:FuncId} {caps:List SV},zm P G fid [iG,wD fl caps] (yR [])
structure Sc0 (fid:FuncId):Prop where
 o:∀ {fl:FuncId} {caps:List SV},zm P G fid [iG,wD fl caps] iG
end
variable {α:Type} {P:Program} {f:α->List SV} {caps:List SV} {k:TypeId} {a fl:FuncId} {l:List α} {p:α->Prop} {G:Imm} {st:Nat} {q:G3}
def zwj {E:aD} {r:Option Nat} {c:Code} {S:St} {Q:Hb} (h:T P G E r c S (fun e S'=>∃ S'',aF G E r S' S''/\Q e S'')):T P G E r c S Q:=fun n I F a W hs=>
 wpIn_mono (h n I F a W hs) fun _ _ _ ⟨S',I',F',h1,⟨S'',b,hq⟩,g⟩=>by
  obtain⟨I2,f,d⟩:=b I' F' _ _ h1;exact⟨S'',I2,F',f,hq,g.trans d⟩
def bB.any [Inhabited α] {T:TypeId} (h:bB P G f T st a) (j:po P G a) {lt:α->α->Bool} (d:l.length<=200000000) (hp:∀ x∈l,p x) (b:JU P G f p lt fl caps) (i:Sort.SWO lt) (g:∀ x y,lt x y=false->lt y x=false->x=y) (hq:zX q l.length):
 CallSpec P G a [eqS (rowV q l.length),wD fl caps] [rowE q T st l.length (l.flatMap f)] (fun v H'=>v=yR []/\H'=[rowE q T st (Num.sortL lt l).length ((Num.sortL lt l).flatMap f)]):=by
 rw [Num.sortL_len];cases q with
 | some z=>exact h.list Z d hp b i g hq
 | none=>
  have c:l.length=0:=hq;obtain rfl:=Aa c;have e:=Aa (Num.sortL_len lt []);rw [e];exact ((j.o).frame [] [rowE none T st 0 []]).mono fun v H' ⟨H1,⟨m,e2⟩,k⟩=>⟨m,by rw [k,e2];rfl⟩
def bM.any [Inhabited α] [DecidableEq α] {T:TypeId} (h:bM P G f T st a) (e:Sc0 P G a) (d:l.length<=200000000) (hp:∀ x∈l,p x) (c:gA P G f p fl caps) (hq:zX q l.length):
 CallSpec P G a [eqS (rowV q l.length),wD fl caps] [rowE q T st l.length (l.flatMap f)] (fun v H'=>v=eqS (rowV q (dd l).length)/\H'=[rowE q T st (dd l).length ((dd l).flatMap f)]):=by
 cases q with
 | some z=>exact h.list Z d hp c hq
 | none=>
  have b:l.length=0:=hq;obtain rfl:=Aa b;exact ((e.o).frame [] [rowE none T st 0 []]).mono fun v H' ⟨H1,⟨i,e2⟩,g⟩=>⟨i,by rw [g,e2];rfl⟩
variable {G:Imm}
variable {p q:List V2} {k:Nat} {S A0 A1:Prop} {s t:Sg}
def zxn (b:A0) (w:By A0->S:=by
 intro d;refine⟨?_⟩;intro fl caps;refine wR d.o Z Z Z<|zg ?_;refine za (1:Int) ?_;refine zg ?_;refine znf<|zi<|zg ?_;refine zd (fun c a=>?_) fun _ a=>?_
 .exact M1 (MO c) (by decide)
 .apply zK
  exact⟨_,[],.none,BZ _,Z,Z⟩):S:=w ⟨b⟩
def zBw:Sn0 prog G 457:=zxn func457
def zBx:Sn0 prog G 316:=zxn func316
def zxo (hA0:A0) (hA1:A1) (w:By A0->By A1->S:=by
 intro hF hi;refine⟨?_⟩;intro fl caps z9;refine wR hF.o rfl rfl rfl<|zr<|zz ?_;refine zx<|zz ?_;refine zM<|zN<|znf<|zN<|zr ?_;(iterate 2 refine zz ?_);refine za (0:Int) ?_;refine zz ?_;refine zM<|zi<|zr ?_;(iterate 2 refine zz ?_);refine zM<|xK ?_ ?_<;>intro h25
 .have k25:=MO h25;apply zr;(iterate 4 refine zz ?_);refine zf hi.o.o ?_;exact zM<|zj ⟨_,[],.none,BZ _,rfl,rfl⟩
 .have k25:=MP h25
  exact M1 (MP h25) (by decide)):S:=w ⟨hA0⟩ ⟨hA1⟩
def zBy:Sp0 prog G 388:=zxo func388 (zBw (G:=G))
def zBz:Sp0 prog G 212:=zxo func212 (zBx (G:=G))
def zta {A2:Prop} (c:A0) (b:A1) (a:A2) (w:By A0->By A1->By A2->S:=by
 intro e d hp;refine⟨?_⟩;intro fl caps;refine wR e.o Z Z Z<|zg ?_;refine zo ((QR Z Z)) ?_;refine zg ?_;refine zo ((yO (z:=((0:Nat):Int)) Z Z (xA (by omega) (by omega)))) ?_;refine zo (zb Z Z (d.o 0 (by omega))) ?_;refine zz ?_;refine zf hp.o.o ?_;apply zM
 exact⟨_,[],.none,BZ _,Z,Z⟩):S:=w ⟨c⟩ ⟨b⟩ ⟨a⟩
def zzg:po prog G 293:=zta func293 (gX (G:=G)) (zBy (G:=G))
def zzh:po prog G 126:=zta func126 (gX (G:=G)) (zBz (G:=G))
def zzi (b:A0) (w:By A0->S:=by
 intro c;refine⟨?_⟩;intro fl caps;refine wR c.o Z Z Z<|zr<|zz ?_;refine zM<|zi<|zg ?_;refine zo ((QR Z Z)) ?_;refine zg ?_;refine zd (fun _ a=>?_) fun h10 a=>?_
 .refine zg ?_;exact zj zt
 .exact M1 (MP h10) (by decide)):S:=w ⟨b⟩
def zzj:Sc0 prog G 294:=zzi func294
abbrev sC (s:Sg):List SV:=zL s.1++zL s.2
abbrev s1C (s:Sg):List SV:=[zl (sC s)]
def vp (l:List V2):List Sg:=(uc l).map fun e=>wk e.1 e.2
def vY (l:List V2):(vp l).length=l.length:=by unfold vp;rw [BR,Vw]
def ztb {l:List V2} {i:Nat} (h:i<l.length):(vp l)[i]? =some (wk (vc l i) (vc l (i+1))):=by unfold vp;rw [Ba,oC h];rfl
theorem kT {l:List V2} (a:vE k l) (c:s∈vp l):Bp s.1 k/\Bp s.2 k:=by
 obtain⟨e,d,rfl⟩:=Bc.1 c;obtain⟨h1,b⟩:=n6 d;unfold wk;grind
theorem zBA [ao G] {a b:V2} (d:0<k) (g:Bp a k) (f:Bp b k) (c:400*k+21000<=cap):G0 G 383 [zl (zL a),zl (zL b)] (zl (sC (wk a b))):=by
 have h:=oQ (G:=G) d (Wf g) (Wf f) c;have e:sgc (fr (Xs a) (Xs b))=sC (wk a b):=by unfold fr wk;rw [vj,vj];split <;> rfl
 grind
def zzk [ao G] (c:0<k) (h1:Bp s.1 k/\Bp s.2 k) (a:Bp t.1 k/\Bp t.2 k) (b:100000*k+100000<=cap):G0 G 292 [zl (sC s),zl (sC t)] (zl (gk (qB s t))):=by
 have h:=zcW (G:=G) (s:=(Xs s.1,Xs s.2)) (t:=(Xs t.1,Xs t.2)) c ⟨Wf h1.1,Wf h1.2⟩ ⟨Wf a.1,Wf a.2⟩ b;unfold Vb at h
 simp only [vj] at h
 exact h
def zBB (f:0<k) (h1:Bp s.1 k/\Bp s.2 k) (b:Bp t.1 k/\Bp t.2 k):Bp (qB s t).2.1 (32*k)/\Bp (qB s t).2.2 (32*k):=by
 have a:Bp ((0,0):V2) (32*k):=⟨xb bq_zero C,xb bq_zero C⟩;have c:Bp (QZ s t) (32*k):=by unfold QZ;split;exact wF b.1 C;exact wF h1.1 C
 have e:Bp (Ja s t) (32*k):=by unfold Ja;split;exact wF b.2 C;exact wF h1.2 C
 unfold qB;split
 .exact⟨a,a⟩
 .split
  .grind
  .split
   .exact⟨a,a⟩
   .rename_i g;have d:=zrA f h1.1 h1.2 b.1 b.2;rw [MY g] at d
    split
    .grind
    .exact⟨a,a⟩
def fP (s t:Sg):List V2:=if (qB s t).1=0 then [] else [(qB s t).2.1,(qB s t).2.2]
theorem zwl (s t:Sg):(fP s t).length<=2:=by unfold fP;grind
def mtR (s:Sg) (q:List Sg):List V2:=q.flatMap (fP s)
def eI (p q:List Sg):List V2:=p.flatMap fun s=>mtR s q
def JZ (p q:List V2):Yp p q=dd (Num.sortL Jr (eI (vp p) (vp q))):=by
 unfold Yp eI mtR vp;rw [Eb];congr 2;congr 1;funext s;rw [Eb];rfl
theorem znD (s:Sg) (q:List Sg):(mtR s q).length<=2*q.length:=by
 unfold mtR
 induction q with
 | nil=>simp
 | cons t q ih=>rw [BM,Aw,Ap];have:=zwl s t;omega
def nc (p q:List Sg):(eI p q).length<=p.length*(2*q.length):=by
 unfold eI
 induction p with
 | nil=>simp
 | cons s p ih=>rw [BM,Aw,Ap,Bj];have:=znD s q;omega
theorem ztc (c:0<k) (hp:vE k p) (hq:vE k q):vE (32*k) (eI (vp p) (vp q)):=fun v a=>by
 unfold eI mtR at a
 obtain⟨s,b,a⟩:=DP.1 a;obtain⟨t,ht,a⟩:=DP.1 a;obtain⟨d,b2⟩:=zBB c (kT hp b) (kT hq ht);unfold fP at a
 grind
theorem zdK (b:0<k) (hp:vE k p) (hq:vE k q):vE (32*k) (Yp p q):=fun v a=>by
 rw [JZ] at a
 exact ztc b hp hq v ((Num.sortL_perm _ _).mem_iff.1 (Ug a))
def zbc (p q:List V2):(Yp p q).length<=p.length*(2*q.length):=by
 rw [JZ];refine Ag (ZE _) ?_;rw [Num.sortL_len];have:=nc (vp p) (vp q);rwa [vY,vY] at this
theorem zxp [ao G] {xs:List V2} (e:0<k) (b:vE k xs) (d:400*k+21000<=cap) (f:xs.length<=1000000):xc prog G 382 [yo [zR 6 zL xs]] (Qi s1C (vp xs)):=by
 refine xM func382 Z Z Z Z fun l E hy=>Fh ?_;refine uK [0,1,5,6] (fun (g:Nat) z=>(7,ML g)::z) (fun g=>[]) (fun g=>(g,false)) (fun g=>g<=xs.length) (fun g=>xs.length-g) 0 (BL _) ?_;intro g h;refine Fh ?_;refine Fo ?_ ?_<;>intro _ c
 .have hg1:g<xs.length:=by omega
  refine Fi (zh Z Z Z (by omega) Gd) ?_;refine Fm fun i=>?_;refine Fw 11 ?_;refine Do (g+1) ?_;refine Fi ((wt Z Z Z (by omega) (by omega)).sub (zI (n:=(((g+1)%xs.length:Nat):Int)) (Dc _ _).symm)) ?_;refine Fi (zh Z Z Z (by omega) (YV (by omega))) ?_;refine Fl Z Z (zBA e (b _ (vS C)) (b _ (vS C)) d) ?_;refine ae.yield Z hy Z Z Z (vk (ztb hg1)) (yU _) Z Z Z fun y=>zg ?_;refine xK ?_ ?_<;>intro a
  .exact zj ⟨.inl Z,.inr a⟩
  .obtain rfl:y=true:=by grind
   refine zB<|Fv ?_;refine Do (g+1) ?_;exact⟨g+1,(by omega:g+1<=xs.length),by omega,MM⟩
 .exact⟨.inr Z,.inl (by rw [wn,vY,(C:g=xs.length)])⟩
def zBC {xs:List V2}:G0 G 291 [zR 6 zL xs] (wD 382 [yo [zR 6 zL xs]]):=by
 refine Fq func291 ?_;exact zj zt
theorem ztd {q:G3} {n m:Nat} (h:zX q n) (a:m<=n):zX q m:=by
 cases q with
 | none=>have:n=0:=h;grind
 | some z=>exact⟨Ag a h.1,h.2⟩
theorem zDg [ao G] (hk:0<k) (hp:vE k p) (hq:vE k q) (hs:100000*k+100000<=cap) (hnp:p.length<=500) (hnq:q.length<=500):G0 G 193 [zR 6 zL p,zR 6 zL q] (zR 6 zL (Yp p q)):=by
 have hml:=nc (vp p) (vp q);rw [vY,vY] at hml
 have hm2:p.length*(2*q.length)<=500*1000:=CL hnp (by omega);rw [JZ];refine zs func193 ?_;refine zg ?_;refine yT fun b4=>?_;refine ae.ghost _ Z (yI 48 6)<|ae.ghost _ Z (vO (En _ _ _))<|Fh ?_;refine Fk zBC ?_;refine uN rfl rfl (zxp hk hp (by omega) (by omega)) (fun ss h=>Yq (m:=1) (fun _=>rfl) h) (by decide) rfl
  (fun k1 h i=>i=(0,false)/\∃ q1,zX q1 (eI ((vp p).take k1) (vp q)).length/\h=[⟨some b4,29,[eqS (rowV q1 (eI ((vp p).take k1) (vp q)).length)],0⟩,rowE q1 48 6 (eI ((vp p).take k1) (vp q)).length ((eI ((vp p).take k1) (vp q)).flatMap zL)])
  (fun _ _ _=>False) ⟨rfl,none,rfl,rfl⟩ ?_ ?_ ?_
 .rintro l k1 ss h i hk1 ⟨rfl,q1,hq1,rfl⟩;obtain⟨s,hs1,rfl⟩:=uQ hk1;have hsb:=kT hp (AE hs1);have hk1l:=(EC.1 hs1).1;rw [vY] at hk1l
  obtain⟨A,hA⟩:∃ A,A=(eI ((vp p).take k1) (vp q)):=⟨_,rfl⟩;rw [<-hA] at hq1 ⊢
  have hAl:=nc ((vp p).take k1) (vp q);rw [<-hA,BG,vY,vY,AU (by omega)] at hAl
  have hk2:k1*(2*q.length)+2*q.length<=p.length*(2*q.length):=by rw [<-Bj];exact BK _ hk1l
  refine zJ<|yT fun b5=>?_;refine Fh ?_;refine⟨Z,?_⟩;refine zN<|wO<|zi<|wN<|zr<|zz ?_;refine Fk zBC ?_;refine zwj<|uN rfl rfl (zxp hk hq (by omega) (by omega)) (fun ss h=>Yq (m:=1) (fun _=>rfl) h) (by decide) rfl
   (fun k2 h i=>i=(0,false)/\∃ q2,zX q2 (A++mtR s ((vp q).take k2)).length/\h=⟨some b5,356,sC s,0⟩::[⟨some b4,29,[eqS (rowV q2 (A++mtR s ((vp q).take k2)).length)],0⟩,rowE q2 48 6 (A++mtR s ((vp q).take k2)).length ((A++mtR s ((vp q).take k2)).flatMap zL)])
   (fun _ _ _=>False) ⟨rfl,q1,by rw [Di];exact (BV A).symm▸hq1,by rw [Di,show mtR s []=[] from rfl,BV];rfl⟩ ?_ ?_ ?_
  .rintro l k2 ss h i hk2 ⟨rfl,q2,hq2,rfl⟩;obtain⟨t,ht1,rfl⟩:=uQ hk2;have htb:=kT hq (AE ht1);have hk2l:=(EC.1 ht1).1;rw [vY] at hk2l
   obtain⟨B,hB⟩:∃ B,B=(A++mtR s ((vp q).take k2)):=⟨_,rfl⟩;have hBn:(A++mtR s ((vp q).take (k2+1)))=B++fP s t:=by rw [hB,yp ht1];unfold mtR;rw [CB,Bw];simp
   rw [<-hB] at hq2 ⊢
   have hBl:B.length<=A.length+2*q.length:=by rw [hB,Aw];have:=znD s ((vp q).take k2);rw [BG,vY] at this;omega
   refine zJ<|yT fun b6=>?_;refine zg ?_;refine⟨Z,?_⟩;refine zN<|zr<|zo ((AX (zl (sC s))<|zE 1 Z Z Z V Z)) ?_;refine zo ((AX (zl (sC t))<|zE 0 Z Z Z V Z)) ?_;refine zf (zzk hk hsb htb hs) ?_;refine yT fun b7=>?_;refine Fh ?_;refine xK ?_ ?_<;>intro h19
   .have k19:=MU.1 h19;refine zH (zF ((B5 _ _).trans (B5 _ _))) ?_;have hk0:(qB s t).1=0:=by simpa using h19
    exact zK ⟨rfl,q2,by rw [hBn];unfold fP;grind,by rw [hBn];unfold fP;rw [MX hk0,BV];rfl⟩
   .have hk0:¬ (qB s t).1=0:=by simpa using h19
    refine zB<|zJ<|zo (zQ 3 Z Z Z Z) ?_;refine zz ?_;refine zo ((AX (zl (zL ((qB s t).2.1)))<|zE 0 Z Z Z V Z)) ?_;refine zz ?_;refine Fi ((AX (zl (zL ((qB s t).2.2)))<|zE 0 rfl rfl rfl (by kernel_rfl) rfl)) ?_;refine ae.append 4 rfl rfl rfl rfl rfl rfl rfl rfl hq2 (by rw [yG (st:=6) (fun _=>rfl)]) (f:=id) (l:=[zL (qB s t).2.1,zL (qB s t).2.2]) (fun z hz=>by grind) (by unfold yE;grind) (by unfold yE;grind) fun q26 hq26=>zw ?_;refine ae.ghost _ Z (zF ((B5 _ _).trans (B5 _ _)))<|zM ?_
    exact⟨rfl,q26,by rw [hBn];unfold fP;grind,by rw [hBn];unfold fP;rw [MY hk0,Aw,CB];rfl⟩
  .rintro h i D2 ⟨rfl,q2,hq2,rfl⟩;rw [wn,vY] at hq2 ⊢
   rw [BC (by rw [vY];omega)] at hq2 ⊢
   refine⟨_,zF (B5 _ _),?_⟩;refine⟨Z,q2,?_⟩;rw [yp hs1];unfold eI at hA ⊢
   grind
  simp
 .rintro h i D ⟨rfl,q1,hq1,rfl⟩;rw [wn,vY] at hq1 ⊢
  rw [BC (by rw [vY];omega)] at hq1 ⊢
  have hAb:=ztc hk hp hq;obtain⟨A,hA⟩:∃ A,A=eI (vp p) (vp q):=⟨_,rfl⟩;rw [<-hA] at hq1 hml hAb ⊢
  refine zr<|zz ?_;refine ah [_] [_] [] rfl rfl rfl rfl ((zxe.any zzg (by omega) hAb (zsP (by omega)) iL iP hq1).args ⟨fun _ _ h=>h,Zs,trivial⟩) rfl rfl rfl ?_
  rintro s28 H28 ⟨rfl,rfl⟩;rw [Num.sortL_len];refine zg ?_;have hcc:=zxg.any (G:=G) zzj (l:=Num.sortL Jr A) (by rw [Num.sortL_len];omega) (fun y hy=>hAb y ((Num.sortL_perm Jr A).mem_iff.1 hy)) (jL (by omega)) (by rw [Num.sortL_len];exact hq1);rw [Num.sortL_len] at hcc
  refine ah [_] [_] [] rfl rfl rfl rfl (hcc.args ⟨fun _ _ h=>h,Zs,trivial⟩) rfl rfl rfl ?_;rintro s30 H30 ⟨rfl,rfl⟩;refine zw ?_;refine ae.ghost _ Z (vO (En _ _ _))<|ae.ghost _ rfl (uF [] [] [] (ztd hq1 (Ag (ZE _) (by rw [Num.sortL_len];exact Af _))) rfl rfl (fun _ _=>rfl) (by have:=ZE (Num.sortL Jr A);rw [Num.sortL_len] at this;unfold yE;omega))<|zM<|zj ?_
  exact⟨_,[],.one (.own 0 inferInstance Z Z Z),BZ _,Z,Z⟩
 simp
end Go.Proofs
namespace Num.Hp
open Go Go.Sort Go.Proofs
section
variable {α:Type} [Inhabited α] {lt:α->α->Bool}
variable {n k:Nat}
def par (k:Nat):Nat:=(k-1)/2
def Ys (h:0<k):par k<k:=by unfold par;omega
def eA (lt:α->α->Bool) (n:Nat) (d:Array α):Prop:=∀ k,0<k->k<n->lt d[k]! d[par k]! =false
structure fE (lt:α->α->Bool) (n j:Nat) (d:Array α):Prop where
 a:∀ k,0<k->k<n->k≠j->lt d[k]! d[par k]! =false
 b:∀ k,0<k->k<n->par k=j->0<j->lt d[k]! d[par j]! =false
structure fG (lt:α->α->Bool) (n i:Nat) (d:Array α):Prop where
 a:∀ k,0<k->k<n->par k≠i->lt d[k]! d[par k]! =false
 b:∀ k,0<k->k<n->par k=i->0<i->lt d[k]! d[par i]! =false
theorem ly (a:SWO lt) {x y:α} (h:lt x y=true):lt y x=false:=by
 cases e:lt y x with
 | false=>rfl
 | true=>have:=a.trans x y x h e;rw [a.irrefl] at this;grind
def fE.stop {j:Nat} {d:Array α} (h:fE lt n j d) (b:j=0\/lt d[j]! d[par j]! =false):eA lt n d:=fun k f c=>by
 by_cases e:k=j
 .grind
 .exact h.a k f c e
def fE.step (i:SWO lt) {j:Nat} {d:Array α} (h:fE lt n j d) (p:0<j) (v:j<n) (t:n<=d.size) (o:lt d[j]! d[par j]! =true):fE lt n (par j) (swp d (par j) j):=by
 have s:=Ys p;have q:=swp_left d (par j) j C C;have l:=swp_right d (par j) j C;have f:=fun k h1 h2=>swp_other d (par j) j k h1 h2;refine⟨fun k k0 c g=>?_,fun k k0 c hp hi0=>?_⟩
 .by_cases e:k=j
  .subst e;rw [l,q];exact ly i o
  .rw [f k g e];by_cases e2:par k=j
   .rw [e2,l];exact h.b k k0 c e2 p
   .by_cases m:par k=par j
    .rw [m,q];cases e4:lt d[k]! d[j]! with
     | false=>rfl
     | true=>have:=i.trans _ _ _ e4 o;rw [<-m,h.a k k0 c e] at this;grind
    .rw [f (par k) m e2];exact h.a k k0 c e
 .have r:=Ys hi0;rw [f (par (par j)) C C];by_cases e:k=j
  .subst e;rw [l];exact h.a _ hi0 C C
  .have u:=Ys k0;rw [f k C e];have h1:=h.a k k0 c e;rw [hp] at h1
   exact i.ntrans _ _ _ h1 (h.a _ hi0 C C)
def fG.stop {i:Nat} {d:Array α} (h:fG lt n i d) (f:∀ k,0<k->k<n->par k=i->lt d[k]! d[i]! =false):eA lt n d:=fun k c b=>by
 by_cases e:par k=i
 .grind
 .exact h.a k c b e
def fG.step (t:SWO lt) {i c:Nat} {d:Array α} (h:fG lt n i d) (o:0<c) (r:c<n) (hp:par c=i) (w:n<=d.size) (p:lt d[c]! d[i]! =true) (s:∀ k,0<k->k<n->par k=i->lt d[k]! d[c]! =false):fG lt n c (swp d i c):=by
 have q:=Ys o;have m:=swp_left d i c C C;have u:=swp_right d i c C;have f:=fun k h1 h2=>swp_other d i c k h1 h2;refine⟨fun k k0 g l=>?_,fun k k0 g hk _=>?_⟩
 .have j:=Ys k0;by_cases e:par k=i
  .rw [e,m];by_cases e2:k=c
   .rw [e2,u];exact ly t p
   grind
  .by_cases e2:k=i
   .subst e2;rw [m,f (par k) C C];exact h.b c o r hp k0
   .rw [f k e2 (by grind),f (par k) e l];exact h.a k k0 g e
 .have j:=Ys k0;rw [f k C C,hp,m];have:=h.a k k0 g C;grind
theorem eA.root (a:SWO lt) {d:Array α} (h:eA lt n d):∀ k,k<n->lt d[k]! d[0]! =false:=by
  intro k
  induction k using Nat.strongRecOn with
  | ind k ih=>
    intro b
    by_cases e:k=0
    . subst e;exact a.irrefl _
    . have hp:=Ys (k:=k) C
      exact a.ntrans _ _ _ (h k C b) (ih (par k) hp C)
def eA.congr {d d':Array α} (h:eA lt n d) (b:∀ k,k<n->d'[k]! =d[k]!):eA lt n d':=fun k c a=>by
 rw [b k a,b _ (Nat.lt_trans (Ys c) a)];exact h k c a
def znE {d:Array α} {x:α} (h:k<d.size):(d.push x)[k]! =d[k]! :=by
 grind
def fE.pushed {d:Array α} {x:α} (h:eA lt d.size d):fE lt (d.push x).size d.size (d.push x):=by
 refine⟨fun k k0 a b=>?_,fun k k0 a hp h0=>?_⟩
 .rw [Eo] at a;have hp:=Ys k0;rw [znE C,znE C];exact h k k0 C
 .rw [Eo] at a;have:=Ys k0;omega
def fG.popped {d:Array α} (h:eA lt (n+1) d) (c:n+1<=d.size):fG lt n 0 (swp d 0 n):=by
 refine⟨fun k k0 b a=>?_,fun k k0 b hp h0=>M1 h0 C⟩;have hp:=Ys k0;rw [swp_other d 0 n k C C,swp_other d 0 n (par k) a C];exact h k k0 C
def Qm {d d':Array α} (h:PermIn 0 n d d') (b:n<=d.size):d'.toList.Perm d.toList:=by
 have a:=permIn_mono d d' 0 n 0 d.size (BL _) b (Af _) h;have c:=a.2.2;have e:d.extract 0 d.size=d:=B;have e2:d'.extract 0 d.size=d':=by rw [<-a.1];simp
 grind
structure bF (lt:α->α->Bool) (D:Array α) (q:List α):Prop where
 hp:eA lt D.size D
 pm:D.toList.Perm q
 st:q.Pairwise fun x y=>lt y x=false
def bF.size {D:Array α} {q:List α} (h:bF lt D q):D.size=q.length:=by rw [<-BH];exact h.pm.length_eq
def bF.first (b:SWO lt) (g:∀ x y,lt x y=false->lt y x=false->x=y) {D:Array α} {w:α} {q:List α} (h:bF lt D (w::q)):D[0]! =w:=by
 have hsz:=h.size;have c:0<D.size:=by rw [hsz];simp
 have f:D[0]! ∈w::q:=h.pm.mem_iff.1 (by grind);have d:=h.pm.mem_iff.2 (Dv ..);obtain⟨i,hi,e⟩:=List.getElem_of_mem d;rw [BH] at hi
 have j:D[i]! =w:=by rw [getElem!_pos D i hi,<-e,Array.getElem_toList]
 have h1:=h.hp.root b i hi;rw [j] at h1
 refine g _ _ ?_ h1;rcases DZ.1 f with a | a
 .grind
 .exact (EF.1 h.st).1 _ a
def ins (lt:α->α->Bool) (x:α):List α->List α
 | []=>[x]
 | y::l=>if lt y x then y::ins lt x l else x::y::l
theorem Wl (x:α):∀ l:List α,(ins lt x l).Perm (x::l)
 | []=>.refl _
 | y::l=>by
  unfold ins;split
  . exact ((Wl x l).cons y).trans (.swap ..)
  rfl
theorem zwm (x:α) (l:List α):(ins lt x l).length=l.length+1:=(Wl x l).length_eq
theorem zdL (c:SWO lt) (x:α):∀ {l:List α},(l.Pairwise fun x y=>lt y x=false)->(ins lt x l).Pairwise fun x y=>lt y x=false
  | [],_=>by unfold ins;simp
  | y::l,h=>by
    obtain⟨h1,d⟩:=EF.1 h;unfold ins
    split
    . rename_i a
      refine EF.2 ⟨fun z b=>?_,zdL c x d⟩;rcases DZ.1 ((Wl x l).mem_iff.1 b) with e | e
      . rw [e];exact ly c a
      grind
    . rename_i a
      have a:lt y x=false:=by simpa using a
      refine EF.2 ⟨fun z b=>?_,h⟩;rcases DZ.1 b with e | e
      . grind
      . exact c.ntrans _ _ _ (h1 z e) a
def bF.pushed (b:SWO lt) {D D':Array α} {q:List α} {x:α} (h:bF lt D q) (a:eA lt D'.size D') (hp:D'.toList.Perm (D.push x).toList):bF lt D' (ins lt x q):=by
 refine⟨a,hp.trans ?_,zdL b x h.st⟩;rw [Ep];exact (List.perm_append_comm.trans (h.pm.cons x)).trans (Wl x q).symm
def bF.popped (i:SWO lt) (g:∀ x y,lt x y=false->lt y x=false->x=y) {D D':Array α} {w:α} {q:List α} (h:bF lt D (w::q)) (f:eA lt (D.size-1) D') (hp:PermIn 0 (D.size-1) (swp D 0 (D.size-1)) D'):
 D'[D.size-1]! =w/\D'.size=D.size/\bF lt D'.pop q:=by
 have hsz:=h.size;rw [Ap] at hsz
 have hf:=h.first i g;have b:=hp.1.trans (size_swp ..);have e2:D'[D.size-1]! =w:=by
  rw [hp.2.1 _ (.inr (Af _)),swp_right D 0 (D.size-1) C,hf]
 refine⟨e2,b,⟨?_,?_,(EF.1 h.st).2⟩⟩
 .rw [El,b];refine f.congr fun k l=>?_;grind
 .have d:=(Qm hp (by rw [size_swp];omega)).trans (Qm (swp_permIn D 0 D.size 0 (D.size-1) (Af _) C (BL _) C (Af _)) (Af _));have c:=d.trans h.pm;have a:D'.toList≠[]:=fun e=>by simp_all
  have j:D'.toList.getLast a=w:=by
   rw [<-e2,List.getLast_eq_getElem,getElem!_pos D' (D.size-1) C];simp [b]
  rw [<-Ek a,j] at c;rw [Array.toList_pop];exact (List.perm_cons w).1 (List.perm_append_comm.symm.trans c)
end
end Num.Hp
namespace Num.Pl
open Go Go.Proofs Num.Hp
variable {done:List Bool} {n k:Nat}
abbrev Wt:=Rat×Nat×Nat
def fq (x y:Wt):Prop:=x.1<y.1\/(x.1=y.1/\(x.2.1<y.2.1\/(x.2.1=y.2.1/\x.2.2<y.2.2)))
instance {x y:Wt}:Decidable (fq x y):=by unfold fq;infer_instance
def Uw (x y:Wt):Bool:=decide (fq x y)
def WL:Sort.SWO Uw where
 irrefl:=fun x=>MS (by unfold fq;grind)
 trans:=fun x y z a b=>by
  have a:=MO a;have b:=MO b;refine MR ?_;unfold fq at *;grind
 ntrans:=fun x y z a b=>by
  have a:=MP a;have b:=MP b;refine MS ?_;unfold fq at *;grind
def zte:∀ x y,Uw x y=false->Uw y x=false->x=y:=fun x y a b=>by
 have a:=MP a;have b:=MP b;unfold fq at *;grind
abbrev Rd:=Nat×Rat
abbrev Gr:=List (List Rd)
def Yt (w:Wt) (done:List Bool) (q:List Wt) (rs:List Rd):List Wt:=rs.foldl (fun q r=>if done.getD r.1 false then q else ins Uw (w.1+r.2,w.2.1+1,r.1) q) q
def Ur (g:Gr):Nat->List Wt->List Bool->List Wt
 | 0,_,_=>[]
 | _+1,[],_=>[]
 | f+1,w::q,done=>if done.getD w.2.2 false then Ur g f q done else w::Ur g f (Yt w (done.set w.2.2 true) q (g.getD w.2.2 [])) (done.set w.2.2 true)
def Jf (g:Gr) (done:List Bool):Nat:=((List.range g.length).map fun i=>if done.getD i false then 0 else (g.getD i []).length).sum
def Zw (g:Gr) (q:List Wt) (done:List Bool):Nat:=q.length+Jf g done
theorem zi9 {f f':Nat->Nat} (a:∀ i,i≠n->f' i=f i) (b:f' n=0):∀ m,n<m->((List.range m).map f').sum+f n=((List.range m).map f).sum
  | 0,h=>by omega
  | m+1,h=>by
    rw [Co,Cp,Cp,CA,CA]
    by_cases e:n=m
    . subst e
      have:(List.range n).map f'=(List.range n).map f:=Bk fun i hi=>a i (by grind)
      grind
    . have:=zi9 a b m C
      grind
def YW {i:Nat} (h:n<done.length):(done.set n true).getD i false=(decide (i=n)||done.getD i false):=by
 grind
def zja {g:Gr} (b:done.length=g.length) (h:n<g.length) (a:done.getD n false=false):Jf g (done.set n true)+(g.getD n []).length=Jf g done:=by
 unfold Jf;have:=zi9 (f:=fun i=>if done.getD i false then 0 else (g.getD i []).length) (f':=fun i=>if (done.set n true).getD i false then 0 else (g.getD i []).length) (n:=n)
  (fun i hi=>by grind) (by grind) g.length h
 grind
def zfn {w:Wt} {done:List Bool}:∀ (a:List Rd) (q:List Wt),(Yt w done q a).length<=q.length+a.length
 | [],q=>by unfold Yt;simp
 | r::a,q=>by
  unfold Yt;rw [Au];have:=zfn (w:=w) (done:=done) a (if done.getD r.1 false then q else ins Uw (w.1+r.2,w.2.1+1,r.1) q);unfold Yt at this;refine Ag this ?_
  split
  . rw [Ap];omega
  . rw [zwm,Ap];omega
theorem YN {w:Wt} {done:List Bool} {v:Wt}:∀ (a:List Rd) (q:List Wt),v∈Yt w done q a↔v∈q\/∃ r∈a,done.getD r.1 false=false/\v=(w.1+r.2,w.2.1+1,r.1)
  | [],q=>by unfold Yt;simp
  | r::a,q=>by
    unfold Yt;rw [Au];have:=YN (w:=w) (done:=done) (v:=v) a (if done.getD r.1 false then q else ins Uw (w.1+r.2,w.2.1+1,r.1) q);unfold Yt at this;rw [this]
    constructor
    . rintro (h | ⟨d,h1,c,b⟩)
      . split at h
        . exact .inl h
        . rename_i f
          rcases DZ.1 ((Wl _ _).mem_iff.1 h) with e | e
          . exact .inr ⟨r,Dv ..,by simpa using f,e⟩
          . exact .inl e
      . exact .inr ⟨d,Bi _ h1,c,b⟩
    . rintro (h | ⟨d,h1,c,b⟩)
      . left
        split
        . exact h
        . exact (Wl _ _).mem_iff.2 (Bi _ h)
      . rcases DZ.1 h1 with e | e
        . subst e
          left;rw [c];exact (Wl _ _).mem_iff.2 (b▸Dv ..)
        . exact .inr ⟨d,e,c,b⟩
def nX {g:Gr} {w:Wt} {q:List Wt} (a:done.length=g.length) (b:done.getD w.2.2 false=false) (h:w.2.2<g.length):Zw g (Yt w (done.set w.2.2 true) q (g.getD w.2.2 [])) (done.set w.2.2 true)+1<=Zw g (w::q) done:=by
 unfold Zw;have h1:=zfn (w:=w) (done:=done.set w.2.2 true) (g.getD w.2.2 []) q;have c:=zja a h b;grind
structure GrOk (g:Gr) (k:Nat):Prop where
 nod:∀ a,∀r∈g.getD a [],r.1<g.length
 far:∀ a,∀r∈g.getD a [],Bq r.2 k
def Ka {g:Gr} (d:GrOk g k) {w:Wt} {q:List Wt} {a:Nat} (hq:∀ v∈q,v.2.2<g.length):∀ v∈Yt w done q (g.getD a []),v.2.2<g.length:=fun v b=>by
 rcases (YN _ _).1 b with h | ⟨r,c,_,rfl⟩
 .grind
 .exact d.nod a r c
theorem Kb {g:Gr} (b:GrOk g k):∀ (f f':Nat) (q:List Wt) (done:List Bool),done.length=g.length->(∀w∈q,w.2.2<g.length)->Zw g q done<=f->Zw g q done<=f'->Ur g f q done=Ur g f' q done
  | f,f',[],done,_,_,_,_=>by cases f <;> cases f' <;> rfl
  | 0,f',w::q,done,_,_,h,_=>by unfold Zw at h;grind
  | f,0,w::q,done,_,_,_,h=>by unfold Zw at h;grind
  | f+1,f'+1,w::q,done,hl,hq,h,h'=>by
    unfold Ur;have d:=hq w (Dv ..);have a:=fun v hv=>hq v (Bi _ hv)
    split
    . exact Kb b f f' q done hl a (by unfold Zw at h ⊢;grind) (by unfold Zw at h' ⊢;grind)
    . rename_i c
      have c:done.getD w.2.2 false=false:=by simpa using c
      have hf:=nX (q:=q) hl c d
      congr 1
      exact Kb b f f' _ _ (by grind) (Ka b a) C C
def eZ (g:Gr) (q:List Wt) (done:List Bool):List Wt:=Ur g (Zw g q done) q done
def ztf (g:Gr) (done:List Bool):eZ g [] done=[]:=by unfold eZ;cases Zw g [] done <;> rfl
section
variable {g:Gr} {k:Nat} {w:Wt} {q:List Wt} {done:List Bool}
def ztg (c:GrOk g k) (b:done.length=g.length) (hq:∀ v∈w::q,v.2.2<g.length) (a:done.getD w.2.2 false=true):eZ g (w::q) done=eZ g q done:=by
 unfold eZ;rw [show Zw g (w::q) done=Zw g q done+1 by unfold Zw;grind,Ur,MX a]
def zth (b:GrOk g k) (a:done.length=g.length) (hq:∀ v∈w::q,v.2.2<g.length) (c:done.getD w.2.2 false=false):eZ g (w::q) done=w::eZ g (Yt w (done.set w.2.2 true) q (g.getD w.2.2 [])) (done.set w.2.2 true):=by
 unfold eZ;have hf:=nX (q:=q) a c (hq w (Dv ..));rw [(C:Zw g (w::q) done=(Zw g (w::q) done-1)+1),Ur,MY (by grind)];congr 1;exact Kb b _ _ _ _ (by grind) (Ka b fun v d=>hq v (Bi _ d)) (by omega) (Af _)
end
def xD (g:Gr) (fr:Nat):List Wt:=eZ g [(0,0,fr)] (List.replicate g.length false)
abbrev nds (S:List Wt):List Nat:=S.map (·.2.2)
def jA (g:Gr) (fr:Nat) (S:List Wt) (w:Wt):Prop:=w=(0,0,fr)\/∃ p∈S,∃r∈g.getD p.2.2 [],r.1=w.2.2/\w.1=p.1+r.2/\w.2.1=p.2.1+1
def jA.mono {g:Gr} {fr:Nat} {S S':List Wt} {w:Wt} (h:jA g fr S w) (a:∀ x∈S,x∈S'):jA g fr S' w:=h.imp id fun⟨p,hp,r⟩=>⟨p,a p hp,r⟩
structure SI (g:Gr) (k fr:Nat) (q:List Wt) (done:List Bool) (S:List Wt):Prop where
 len:done.length=g.length
 nd:(nds S).Nodup
 dn:∀ n,done.getD n false=true↔n∈nds S
 nq:∀ w∈q,w.2.2<g.length
 ns:∀ w∈S,w.2.2<g.length
 pq:∀ w∈q,jA g fr S w
 ps:∀ w∈S,jA g fr S w
 cl:∀ w∈S,∀r∈g.getD w.2.2 [],r.1∈nds S\/∃ v∈q,v.2.2=r.1
 st:fr∈nds S\/∃ v∈q,v.2.2=fr
 bq:∀ w∈q,Bq w.1 (1+w.2.1*(k+1))/\w.2.1<=S.length
 bs:∀ w∈S,Bq w.1 (1+w.2.1*(k+1))/\w.2.1<=S.length
section
variable {g:Gr} {k fr:Nat} {w:Wt} {q:List Wt} {done:List Bool} {S:List Wt}
theorem SI.start (hf:fr<g.length):SI g k fr [(0,0,fr)] (List.replicate g.length false) [] where
 len:=CN
 nd:=BX
 dn:=fun n=>by
  grind
 nq:=fun w a=>by grind
 ns:=fun w a=>M1 a B
 pq:=fun w a=>.inl (AS.1 a)
 ps:=fun w a=>M1 a B
 cl:=fun w a=>M1 a B
 st:=.inr ⟨_,AS.2 Z,Z⟩
 bq:=fun w a=>by rw [AS.1 a];exact⟨xb bq_zero C,BL _⟩
 bs:=fun w a=>M1 a B
def SI.old (h:SI g k fr (w::q) done S) (c:done.getD w.2.2 false=true):SI g k fr q done S where
 len:=h.len
 nd:=h.nd
 dn:=h.dn
 nq:=fun v a=>h.nq v (Bi _ a)
 ns:=h.ns
 pq:=fun v a=>h.pq v (Bi _ a)
 ps:=h.ps
 cl:=fun v a r d=>(h.cl v a r d).elim .inl fun⟨u,b,e⟩=>by
  rcases DZ.1 b with rfl | b
  .exact .inl (e▸(h.dn _).1 c)
  grind
 st:=h.st.elim .inl fun⟨u,b,e⟩=>by
  rcases DZ.1 b with rfl | b
  .exact .inl (e▸(h.dn _).1 c)
  grind
 bq:=fun v a=>h.bq v (Bi _ a)
 bs:=h.bs
theorem SI.new (t:GrOk g k) (h:SI g k fr (w::q) done S) (u:done.getD w.2.2 false=false):SI g k fr (Yt w (done.set w.2.2 true) q (g.getD w.2.2 [])) (done.set w.2.2 true) (S++[w]):=by
  have s:=h.nq w (Dv ..);have j:w.2.2<done.length:=by rw [h.len];exact s
  have p:w.2.2∉nds S:=fun e=>by rw [(h.dn _).2 e] at u;cases u
  have d:nds (S++[w])=nds S++[w.2.2]:=by unfold nds;rw [Cp];rfl
  have f:∀ x∈S,x∈S++[w]:=fun x hx=>Ei _ hx;have m:=h.bq w (Dv ..);refine⟨by rw [Cd];exact h.len,?_,fun n=>?_,Ka t fun v c=>h.nq v (Bi _ c),?_,?_,?_,?_,?_,?_,?_⟩
  . rw [d]
    exact Bt.2 ⟨h.nd,B,fun a z b y=>by grind⟩
  . rw [YW j,d,Bu,AS,<-h.dn n]
    grind
  . intro v c
    rcases Bu.1 c with c | c
    . exact h.ns v c
    grind
  . intro v c
    rcases (YN _ _).1 c with c | ⟨r,i,_,rfl⟩
    . exact (h.pq v (Bi _ c)).mono f
    . exact .inr ⟨w,Ej _ (AS.2 Z),r,i,Z,Z,Z⟩
  . intro v c
    rcases Bu.1 c with c | c
    . exact (h.ps v c).mono f
    . rw [AS.1 c];exact (h.pq w (Dv ..)).mono f
  . have o:∀ n,(n∈nds S\/∃ v∈w::q,v.2.2=n)->n∈nds (S++[w])\/∃ v∈Yt w (done.set w.2.2 true) q (g.getD w.2.2 []),v.2.2=n:=fun n l=>by
      rcases l with l | ⟨v,c,e⟩
      . grind
      . rcases DZ.1 c with rfl | c
        . grind
        . exact .inr ⟨v,(YN _ _).2 (.inl c),e⟩
    intro v c r i;rcases Bu.1 c with c | c
    . exact o _ (h.cl v c r i)
    . rw [AS.1 c] at i
      cases e:(done.set w.2.2 true).getD r.1 false with
      | true=>
        rw [YW j,Av,MQ,h.dn] at e
        grind
      | false=>exact .inr ⟨_,(YN _ _).2 (.inr ⟨r,i,e,Z⟩),Z⟩
  . rcases h.st with l | ⟨v,c,e⟩
    . grind
    . rcases DZ.1 c with rfl | c
      . grind
      . exact .inr ⟨v,(YN _ _).2 (.inl c),e⟩
  . intro v c
    rw [Aw,DX];rcases (YN _ _).1 c with c | ⟨r,i,_,rfl⟩
    . have:=h.bq v (Bi _ c)
      grind
    . refine⟨?_,by grind⟩
      have h1:=m.1;have A:=t.far _ r i;exact xb (inferInstance:Bq (w.1+r.2) _) (by grind)
  . intro v c
    rw [Aw,DX];rcases Bu.1 c with c | c
    . have:=h.bs v c
      grind
    grind
def SI.size (h:SI g k fr q done S):S.length<=g.length:=by
 have h1:=h.nd;have b:∀ n∈nds S,n∈List.range g.length:=fun n hn=>by
  obtain⟨w,a,rfl⟩:=Bc.1 hn;exact AI.2 (h.ns w a)
 have:=h1.length_le_of_subset b;grind
theorem SI.fin (b:GrOk g k):∀ (f:Nat) (q:List Wt) (done:List Bool) (S:List Wt),Zw g q done<=f->SI g k fr q done S->∃ done',SI g k fr [] done' (S++Ur g f q done)
  | f,[],done,S,_,h=>⟨done,by rw [show Ur g f [] done=[] by cases f <;> rfl,BV];exact h⟩
  | 0,w::q,done,S,hf,h=>by unfold Zw at hf;grind
  | f+1,w::q,done,S,hf,h=>by
    unfold Ur
    split
    . rename_i a
      exact SI.fin b f q done S (by unfold Zw at hf ⊢;grind) (h.old a)
    . rename_i a
      have a:done.getD w.2.2 false=false:=by simpa using a
      have c:=nX (q:=q) h.len a (h.nq w (Dv ..));have:=SI.fin b f _ _ (S++[w]) C (h.new b a)
      grind
end
variable {β:Type} {f:Wt->β} {k:Nat}
theorem Qn {g:Gr} {fr:Nat} (a:GrOk g k) (hf:fr<g.length):∃ done,SI g k fr [] done (xD g fr):=by
 have:=SI.fin a _ _ _ [] (Af _) (SI.start hf);assumption
def csF (n:Nat) (S:List Wt):List Rat:=S.foldl (fun c w=>c.set w.2.2 w.1) (List.replicate n 0)
def Kd (n:Nat) (S:List Wt):List Int:=S.foldl (fun c w=>c.set w.2.2 (w.2.1:Int)) (List.replicate n (-1))
def nW:∀ (S:List Wt) (c:List β),(S.foldl (fun c w=>c.set w.2.2 (f w)) c).length=c.length
 | [],_=>rfl
 | w::S,c=>by rw [Au,nW S,Cd]
def nV {n:Nat}:∀ (S:List Wt) (c:List β),n∉nds S->(S.foldl (fun c w=>c.set w.2.2 (f w)) c)[n]? =c[n]?
 | [],_,_=>rfl
 | w::S,c,h=>by
  rw [Au,nV S _ fun e=>h (Bi _ e),AY fun e=>h (by grind)]
def nb {v:Wt}:∀ (S:List Wt) (c:List β),(nds S).Nodup->v∈S->v.2.2<c.length->(S.foldl (fun c w=>c.set w.2.2 (f w)) c)[v.2.2]? =some (f v)
 | w::S,c,hn,a,hl=>by
  obtain⟨h1,b⟩:=List.nodup_cons.1 hn;rw [Au];rcases DZ.1 a with rfl | a
  . rw [nV S _ h1,Cf hl]
  . exact nb S _ b a (by grind)
def kS (n:Nat) (S:List Wt):(csF n S).length=n:=by unfold csF;rw [nW,CN]
def Ul (n:Nat) (S:List Wt):(Kd n S).length=n:=by unfold Kd;rw [nW,CN]
section
variable {g:Gr} {k fr:Nat} {done:List Bool} {S:List Wt}
def SI.cs (h:SI g k fr [] done S) {w:Wt} (a:w∈S):(csF g.length S)[w.2.2]? =some w.1:=nb S _ h.nd a (by rw [CN];exact h.ns w a)
def SI.stp (h:SI g k fr [] done S) {w:Wt} (a:w∈S):(Kd g.length S)[w.2.2]? =some (w.2.1:Int):=nb (f:=fun w=>(w.2.1:Int)) S _ h.nd a (by rw [CN];exact h.ns w a)
def zzl {n m:Nat} {S:List Wt} (h:m∉nds S) (a:m<n):(Kd n S)[m]? =some (-1):=by unfold Kd;rw [nV S _ h,CK,MX a]
def lL {n m:Nat} {z:Int} {S:List Wt} (h:(Kd n S)[m]? =some z) (b:0<=z):m∈nds S:=by
 by_cases e:m∈nds S
 .exact e
 .have a:m<n:=by have:=(EC.1 h).1;rwa [Ul] at this
  rw [zzl e a] at h;grind
end
variable {fr a:Nat} {ls:List Rat} {g:Gr} {js:List Jn}
def Us (cs:List Rat) (st:List Int) (at':Nat) (r:Rd):Bool:=decide (st.getD r.1 0=st.getD at' 0-1)&&decide (cs.getD r.1 0+r.2=cs.getD at' 0)
def VA (cs:List Rat) (st:List Int) (at' b0:Nat) (rs:List Rd):Nat:=rs.foldl (fun b r=>if Us cs st at' r&&decide (r.1<b) then r.1 else b) b0
theorem zfp {cs:List Rat} {st:List Int} {a:Nat}:∀ (d:List Rd) (b0:Nat),(VA cs st a b0 d=b0\/∃ r∈d,Us cs st a r=true/\r.1=VA cs st a b0 d)/\VA cs st a b0 d<=b0/\∀ r∈d,Us cs st a r=true->VA cs st a b0 d<=r.1
  | [],b0=>⟨.inl Z,Af _,fun r m=>M1 m B⟩
  | r::d,b0=>by
    unfold VA;rw [Au];have l:=zfp (cs:=cs) (st:=st) (a:=a) d (if Us cs st a r&&decide (r.1<b0) then r.1 else b0);unfold VA at l;obtain⟨h1,h,g⟩:=l
    by_cases f:(Us cs st a r&&decide (r.1<b0))=true
    . rw [MX f] at h1 h g ⊢
      rw [AD,MQ] at f
      refine⟨.inr ?_,C,fun e b c=>?_⟩
      . rcases h1 with h1 | ⟨e,k,j,i⟩
        . exact⟨r,Dv ..,f.1,h1.symm⟩
        . exact⟨e,Bi _ k,j,i⟩
      . rcases DZ.1 b with rfl | b
        . exact h
        . exact g e b c
    . rw [MY f] at h1 h g ⊢
      refine⟨h1.imp id fun⟨e,k,j,i⟩=>⟨e,Bi _ k,j,i⟩,h,fun e b c=>?_⟩;rcases DZ.1 b with rfl | b
      . rw [c,C5,MQ] at f;omega
      . exact g e b c
def VB (g:Gr) (cs:List Rat) (st:List Int) (at':Nat):Nat:=VA cs st at' g.length (g.getD at' [])
def Wm (g:Gr) (cs:List Rat) (st:List Int) (fr:Nat):Nat->Nat->G7
 | 0,at'=>[at']
 | f+1,at'=>if at'=fr then [at'] else at'::Wm g cs st fr f (VB g cs st at')
def Sym (g:Gr):Prop:=∀ a b f,(b,f)∈g.getD a []->(a,f)∈g.getD b []
def zqa {k:Nat} {done:List Bool} {S:List Wt} (h:SI g k fr [] done S) (H:Sym g) {w:Wt} (n:w∈S) (q:w.2.2≠fr):VB g (csF g.length S) (Kd g.length S) w.2.2<g.length/\∃ p∈S,p.2.2=VB g (csF g.length S) (Kd g.length S) w.2.2/\p.2.1+1=w.2.1:=by
 obtain⟨p,hp,r,K,O,e2,y⟩:=(h.ps w n).resolve_left fun e=>q (by rw [e])
 have f:(p.2.2,r.2)∈g.getD w.2.2 []:=H _ _ _ (by grind);have gd:∀ {β:Type} {l:List β} {i:Nat} {x d:β},l[i]? =some x->l.getD i d=x:=fun h=>by grind
 have j:=gd (d:=0) (h.stp n);have t:=gd (d:=0) (h.cs n);have L:Us (csF g.length S) (Kd g.length S) w.2.2 (p.2.2,r.2)=true:=by
  unfold Us;rw [AD,MQ,MQ,j,t];show (Kd g.length S).getD p.2.2 0=_/\(csF g.length S).getD p.2.2 0+r.2=_;rw [gd (d:=0) (h.stp hp),gd (d:=0) (h.cs hp),e2,y];exact⟨C,Z⟩
 obtain⟨z,b2,P⟩:=zfp (cs:=csF g.length S) (st:=Kd g.length S) (a:=w.2.2) (g.getD w.2.2 []) g.length;have s:=P _ f L;have o:=h.ns p hp;have b:VB g (csF g.length S) (Kd g.length S) w.2.2<g.length:=Cs s o;refine⟨b,?_⟩;rcases z with z | ⟨m,I,c,G⟩
 .omega
 .unfold Us at c
  rw [AD,MQ,MQ,j,y] at c
  have D:m.1<(Kd g.length S).length:=by rw [Ul,G];exact b
  have E:(Kd g.length S)[m.1]? =some (p.2.1:Int):=by
   rw [AL D];have:=c.1;rw [Ay,AL D] at this;have N:(Kd g.length S)[m.1]=(p.2.1:Int):=by
    have M:(Kd g.length S)[m.1]=((p.2.1+1:Nat):Int)-1:=this;rw [M];omega
   rw [N]
  obtain⟨u,A,F⟩:=Bc.1 (lL E (Da _));have v:=h.stp A;rw [F,E] at v
  have v:=BA v;exact⟨u,A,F.trans G,by omega⟩
def qg (g:Gr) (a:Nat) (r:Rd):Gr:=g.set a (g.getD a []++[r])
def okJ (n:Nat) (j:Jn):Bool:=decide (j.1≠j.2)&&(decide (0<=j.1/\j.1<n)&&decide (0<=j.2/\j.2<n))
def uR (ls:List Rat) (i:Nat):Rat:=if 0<ls.getD i 0 then ls.getD i 0 else 0
def grN (n:Nat) (js:List Jn) (ls:List Rat):Nat->Gr
  | 0=>List.replicate n []
  | m+1=>match js[m]? with
    | some j=>if okJ n j then qg (qg (grN n js ls m) j.1.toNat (j.2.toNat,uR ls m)) j.2.toNat (j.1.toNat,uR ls m) else grN n js ls m
    | none=>grN n js ls m
def qh (n:Nat) (js:List Jn) (ls:List Rat):Gr:=grN n js ls js.length
def qi (g:Gr) (a:Nat) (r:Rd):(qg g a r).length=g.length:=by unfold qg;rw [Cd]
def zjb {b:Nat} {r x:Rd} (h:a<g.length):x∈(qg g a r).getD b []↔x∈g.getD b []\/(b=a/\x=r):=by
 unfold qg;grind
def nU {n:Nat} {j:Jn} (h:okJ n j=true):j.1≠j.2/\j.1.toNat<n/\j.2.toNat<n/\(j.1.toNat:Int)=j.1/\(j.2.toNat:Int)=j.2:=by
 unfold okJ at h
 grind
theorem ZA (n:Nat) (js:List Jn) (ls:List Rat):∀ m,(grN n js ls m).length=n
  | 0=>CN
  | m+1=>by
    unfold grN
    split
    . split
      . rw [qi,qi];exact ZA n js ls m
      . exact ZA n js ls m
    . exact ZA n js ls m
theorem kR {n:Nat} {js:List Jn} {ls:List Rat} {a b:Nat} {f:Rat}:∀ m,(b,f)∈(grN n js ls m).getD a []↔∃ i j,i<m/\js[i]? =some j/\okJ n j=true/\f=uR ls i/\((a=j.1.toNat/\b=j.2.toNat)\/(a=j.2.toNat/\b=j.1.toNat))
  | 0=>by
    unfold grN;rw [Ay,CK]
    constructor
    . intro h;split at h <;> simp at h
    . rintro⟨i,j,h,_⟩;omega
  | m+1=>by
    have q:=kR (n:=n) (js:=js) (ls:=ls) (a:=a) (b:=b) (f:=f) m;have g:(∀j,js[m]? =some j->okJ n j=false)->((∃i j,i<m+1/\js[i]? =some j/\okJ n j=true/\f=uR ls i/\((a=j.1.toNat/\b=j.2.toNat)\/(a=j.2.toNat/\b=j.1.toNat)))↔∃ i j,i<m/\js[i]? =some j/\okJ n j=true/\f=uR ls i/\((a=j.1.toNat/\b=j.2.toNat)\/(a=j.2.toNat/\b=j.1.toNat))):=fun hno=>
      ⟨fun⟨i,j,h1,l,r,u⟩=>⟨i,j,(by
        rcases Ab i m with h | h
        . exact h
        . obtain rfl:i=m:=C
          rw [hno j l] at r;cases r),l,r,u⟩,fun⟨i,j,h1,l⟩=>⟨i,j,C,l⟩⟩
    unfold grN
    split
    . rename_i j k
      split
      . rename_i c
        obtain⟨x,h1,l,_,_⟩:=nU c;rw [zjb (by rw [qi,ZA];exact l),zjb (by rw [ZA];exact h1),q]
        constructor
        . rintro ((⟨i,o,w,p⟩ | ⟨rfl,e⟩) | ⟨rfl,e⟩)
          . exact⟨i,o,C,p⟩
          . cases e;exact⟨m,j,C,k,c,Z,.inl ⟨Z,Z⟩⟩
          . cases e;exact⟨m,j,C,k,c,Z,.inr ⟨Z,Z⟩⟩
        . rintro⟨i,o,w,p,v,s,t⟩
          rcases Ab i m with h | h
          . exact .inl (.inl ⟨i,o,h,p,v,s,t⟩)
          . obtain rfl:i=m:=C
            rw [k] at p;cases p
            rcases t with ⟨rfl,rfl⟩ | ⟨rfl,rfl⟩
            . exact .inl (.inr ⟨Z,by rw [s]⟩)
            . exact .inr ⟨Z,by rw [s]⟩
      . rename_i c
        rw [q,g fun o d=>by rw [k] at d;cases d;simpa using c]
    . rename_i k
      rw [q,g fun o d=>by rw [k] at d;cases d]
def iN (n:Nat) (js:List Jn) (ls:List Rat):Sym (qh n js ls):=fun a b f h=>by
 obtain⟨i,j,h1,g,e,d,c⟩:=(kR _).1 h;exact (kR _).2 ⟨i,j,h1,g,e,d,c.symm.imp (fun⟨x,y⟩=>⟨y,x⟩) fun⟨x,y⟩=>⟨y,x⟩⟩
theorem zzo {k:Nat} (a:0<k) (b:∀ q∈ls,Bq q k) (i:Nat):Bq (uR ls i) k:=by
 unfold uR;split
 .grind
 .exact xb bq_zero a
def gr_ok {n:Nat} {k:Nat} (g:0<k) (e:∀ q∈ls,Bq q k):GrOk (qh n js ls) k:=by
 have c:∀ a,∀r∈(qh n js ls).getD a [],r.1<(qh n js ls).length/\Bq r.2 k:=fun a ⟨b,f⟩ h=>by
  unfold qh at *;obtain⟨i,j,h1,s,o,m,l⟩:=(kR _).1 h;obtain⟨_,p,e2,_,_⟩:=nU o;rw [ZA];refine⟨?_,by rw [m];exact zzo g e i⟩
  omega
 exact {nod:=fun a r d=>(c a r d).1,far:=fun a r d=>(c a r d).2}
def zbd (h:g.length<=fr):xD g fr=[(0,0,fr)]:=by
 have e:g.getD fr []=[]:=by rw [Ay,Ac h];rfl
 have a:(List.replicate g.length false).getD fr false=false:=by rw [Ay,Ac (by grind)];rfl
 unfold xD eZ;rw [show Zw g [(0,0,fr)] (List.replicate g.length false)=Jf g (List.replicate g.length false)+1 by unfold Zw;grind,Ur,MY (by grind),e];congr 1;cases Jf g (List.replicate g.length false) <;> rfl
def zwn (h:g.length<=fr):csF g.length (xD g fr)=List.replicate g.length 0:=K9
def km (h:g.length<=fr):Kd g.length (xD g fr)=List.replicate g.length (-1):=K9
def wU (g:Gr) (fr t:Nat):Option (G7×Rat):=
 let S:=xD g fr
 if 0<=(Kd g.length S).getD t (-1) then some ((Wm g (csF g.length S) (Kd g.length S) fr ((Kd g.length S).getD t 0).toNat t).reverse,(csF g.length S).getD t 0) else none
def Yu (xs:List Rat) (x:Rat):Nat->Int
 | 0=> -1
 | g+1=>if 0<=Yu xs x g\/xs.length<=g+1\/x<xs.getD g 0\/xs.getD (g+1) 0<=x then Yu xs x g else (g:Int)
def gT (xs:List Rat) (x:Rat):Option Nat:=xs.findIdx? fun w=>decide (w=x)
def Wn (xs:List Rat) (x:Rat):Nat×Bool×Bool:=match gT xs x with
 | some i=>(i,true,true)
 | none=>if Yu xs x xs.length<0 then (0,false,false) else ((Yu xs x xs.length).toNat,false,true)
def Yy (ys:List Rat) (y:Rat):Int×Bool:=match gT ys y with
 | some i=>(i,true)
 | none=>(((ys.countP fun w=>decide (w<y)):Int)-1,false)
def jv (k:Int) (a:Nat) (r:Int) (c:Num.Pl.Ce):Bool:=decide (c.1=k)&&(decide (c.2.1=a)&&decide ((c.2.2.1:Int)=r))
def j6 (cs:List Num.Pl.Ce) (k:Int) (a:Nat) (r:Int):Option Nat:=cs.findIdx? (jv k a r)
def kindF (m:Md) (p:V2):Option (Int×Nat×Int):=
 let f:=Wn m.xs p.1
 if f.2.2=true/\f.1<(if f.2.1 then m.walls.length else m.levels.length) then
  if f.2.1 then
   let r:=Yy (m.walls.getD f.1 []) p.2
   some (if r.2 then 0 else 1,f.1,r.1)
  else
   let r:=Yy ((m.levels.getD f.1 []).map (hgt (m.xs.getD f.1 0) (m.xs.getD (f.1+1) 0) p.1)) p.2
   some (if r.2 then 2 else 3,f.1,r.1)
 else none
def KB (m:Md) (cs:List Num.Pl.Ce) (p:V2):Option Nat:=match kindF m p with
 | some (k,a,r)=>j6 cs k a r
 | none=>none
def qj (p q:V2):Rat:=fc p.1 q.1+fc p.2 q.2
def Jv (l:List V2):Rat:=((l.zip l.tail).map fun e=>qj e.1 e.2).sum
def iM (cs:List Num.Pl.Ce) (w:G7):Option (List V2):=if w.all fun n=>decide (n<cs.length) then some (w.map fun n=>(cs.getD n (0,0,0,0,0)).2.2.2) else none
def QW (cs:List Num.Pl.Ce) (s t:V2) (w:G7):Option (List V2):=(iM cs w).map fun l=>ZS ([s]++l++[t])
structure cI where
 rob:List V2
 tris:List T3
 ps:List (List V2)
 md:Md
 cells:List Num.Pl.Ce
 free:List Bool
 joins:List Jn
 lens:List Rat
def zfq (a:cI) (p:V2):Option Nat:=match KB a.md a.cells p with
 | some n=>if a.free.getD n false then some n else none
 | none=>none
def uL (a:cI) (s t:V2):Option (List V2):=match zfq a s,zfq a t with
  | some f,some g=>if f=g then some (ZS [s,t]) else match wU (qh (min a.cells.length 131072) a.joins a.lens) f g with
    | some w=>QW a.cells s t w.1
    | none=>none
  | _,_=>none
def Zn (a:cI) (s t:V2):Option (List V2):=
 let s':=wY a.md.box s
 let t':=wY a.md.box t
 if (KB a.md a.cells s').isSome/\(KB a.md a.cells t').isSome then (uL a s' t').map fun l=>ZS ([s]++l++[t]) else none
abbrev Vd:=Int×List V2×Rat
def wV (a:cI) (q:V2×V2):Vd:=
 if (Js a.rob a.tris q.1&&Js a.rob a.tris q.2)=false then (2,[],0)
 else if q.1=q.2 then (0,[q.1],0)
 else match Zn a q.1 q.2 with
  | some l=>(0,l,Jv l)
  | none=>(1,[],0)
def VC (cs:List Num.Pl.Ce) (js:List Jn):List Rat:=js.map fun j=>if min j.1 j.2<0\/(cs.length:Int)<=max j.1 j.2 then 0 else qj (cs.getD j.1.toNat (0,0,0,0,0)).2.2.2 (cs.getD j.2.toNat (0,0,0,0,0)).2.2.2
variable {ps:List (List V2)} {m:Nat}
def Jg (ps:List (List V2)):Nat->List (List V2×List V2)
 | 0=>[]
 | m+1=>Jg ps m++(ps.take m).map fun p=>(p,ps.getD m [])
def zfr (ps:List (List V2)):∀ m,m<=ps.length->((List.range m).flatMap fun i=>(ps.take i).flatMap fun p=>match ps[i]? with
 | some q=>[(p,q)]
 | none=>[])=Jg ps m
 | 0,_=>rfl
 | m+1,h=>by
  rw [Co,CB,zfr ps m (by omega)];refine MW (Jg ps m++ ·) ?_;rw [BM,Ef,BV];have a:ps[m]? =some (ps.getD m []):=by rw [Ay,AL (C:m<ps.length)];rfl
  rw [a]
  induction ps.take m with
  | nil=>rfl
  | cons x l ih=>grind
def zwo (ps:List (List V2)):lF ps=Jg ps ps.length:=by
 rw [<-zfr ps ps.length (Af _)];show List.flatMap _ _=List.flatMap _ _;grind
def zxq (h:m<=ps.length):(Jg ps (m+1)).length=(Jg ps m).length+m:=by
 show (Jg ps m++(ps.take m).map fun p=>(p,ps.getD m [])).length=_;grind
theorem znI (ps:List (List V2)):∀ {n:Nat},m<=n->∃ r,Jg ps n=Jg ps m++r
  | 0,h=>⟨[],by grind⟩
  | n+1,h=>by
    by_cases e:m=n+1
    . simp_all
    . obtain⟨r,a⟩:=znI ps (C:m<=n)
      exact⟨r++(ps.take n).map fun p=>(p,ps.getD n []),by show Jg ps n++_=_;grind⟩
def znJ (ps:List (List V2)):∀ m,m<=ps.length->(Jg ps m).length<=m*m
 | 0,_=>Af _
 | m+1,h=>by
  have:=znJ ps m C;unfold Jg;grind
def qk {x:List V2×List V2}:∀ {m:Nat},m<=ps.length->x∈Jg ps m->x.1∈ps/\x.2∈ps
 | 0,_,h=>by cases h
 | m+1,hm,h=>by
  unfold Jg at h
  rcases Bu.1 h with h | h
  . exact qk C h
  grind
end Num.Pl
namespace Go.Proofs
open Go Go.Sv Num Num.Pl Tryz
abbrev o7 (x:List V2×List V2):List SV:=[zR 6 zL x.1,zR 6 zL x.2]
def zzp {ps:List (List V2)} {m g:Nat} {x p:List V2} (e:m<ps.length) (hx:ps[m]? =some x) (c:(ps.take m)[g]? =some p):(Qi o7 (Jg ps ps.length))[(Jg ps m).length+g]? =some (o7 (p,x)):=by
 refine vk ?_;obtain⟨r,d⟩:=znI ps (m:=m+1) (n:=ps.length) C;have b:ps.getD m []=x:=by rw [Ay,hx];rfl
 have a:=(EC.1 c).1;rw [d];show (Jg ps m++((ps.take m).map fun p=>(p,ps.getD m []))++r)[_]? =_;rw [Bw,Ae (Dg _ _),C1,Ad (by grind),Ba,c,b];rfl
variable {G:Imm}
variable {ps:List (List V2)} {k m j:Nat} {b:Bx} {l:List V2}
def zzq (f:ps.length<=1000000):xc prog G 290 [yo [zR 1 Uq ps]] (Qi o7 (Jg ps ps.length)):=by
 refine xM func290 Z Z Z Z fun l E hy=>Fh ?_;refine uK [0,1,7,8] (fun (m:Nat) z=>(9,ML m)::z) (fun m=>[]) (fun m=>((Jg ps m).length,false)) (fun m=>m<=ps.length) (fun m=>ps.length-m) 0 (BL _) ?_;intro m e;refine Fh ?_;refine Fo ?_ ?_<;>intro _ d
 .have b:m<ps.length:=by omega
  obtain⟨x,hx⟩:∃ x,ps[m]? =some x:=⟨_,AL b⟩;refine Fh ?_;refine zo ((AX (zR 1 Uq (ps.take m))<|xU (m:=0) Z Z (.inl ⟨Z,Z⟩) (.inr ⟨_,_,Z,Z⟩) (.inl Z) (BL _) e)) ?_;refine Fi ((wI Z Z).sub (zI (by rw [BG,AU e]))) ?_;refine uK [0,1,3,4,7,8,9,10,11,12,13,14,15,16,17,28] (fun (g:Nat) z=>(18,ML g)::z) (fun g=>[]) (fun g=>((Jg ps m).length+g,false)) (fun g=>g<=m) (fun g=>m-g) 0 (BL _) ?_;intro g h;refine Fh ?_;refine Fo ?_ ?_<;>intro _ c
  .obtain⟨p,hp⟩:∃ p,(ps.take m)[g]? =some p:=⟨_,AL (Gz:g<(ps.take m).length)⟩;refine Fh ?_;refine ae.yield Z hy Z Z Z (zzp b hx hp) (yU _) Z Z Z fun y=>zg ?_;refine Fp ?_ ?_<;>intro a
   .exact zj ⟨.inl Z,.inr a⟩
   .obtain rfl:y=true:=by grind
    refine Do (g+1) ?_;exact⟨g+1,(by omega:g+1<=m),by omega,MM⟩
  .obtain rfl:g=m:=by omega
   refine Do (g+1) ?_;exact⟨g+1,(by omega:g+1<=ps.length),by omega,by rw [zxq e];exact MM⟩
 .exact⟨.inr Z,.inl (by rw [wn,(C:m=ps.length)])⟩
def zBD:G0 G 192 [zR 1 Uq ps] (wD 290 [yo [zR 1 Uq ps]]):=by
 refine Fq func192 ?_;exact zj zt
def call1 [ao G] {xs:List Rat} {d:Nat} {b:G3} (n:vE k l) (p:2*k+11000<=cap) (h:zX b xs.length) (r:xs.length+l.length<=1000000):CallSpec prog G 191 [zR 6 zL l,G9 d] [⟨some d,77,[eqS (rowV b xs.length)],0⟩,rowE b 46 3 xs.length (xs.flatMap zP)] (fun v H1=>v=yR []/\∃ q',zX q' (xs++l.map (·.1)).length/\H1=[⟨some d,77,[eqS (rowV q' (xs++l.map (·.1)).length)],0⟩,rowE q' 46 3 (xs++l.map (·.1)).length ((xs++l.map (·.1)).flatMap zP)]):=by
 refine Fq func191 ?_;refine Ju [1,5,6] (fun (g:Nat) (q:G3) (L:List Rat) z=>(7,ML g)::z) (fun g q L=>[⟨some d,77,[eqS (rowV q L.length)],0⟩,rowE q 46 3 L.length (L.flatMap zP)]) (fun g q L=>g<=l.length/\zX q L.length/\L=xs++(l.take g).map (·.1)) (fun g q L=>l.length-g) 0 b xs ⟨BL _,h,by simp⟩ ?_;rintro g q L ⟨o,hq,c⟩;have i:L.length=xs.length+g:=by rw [c,Aw,BR,BG,AU o]
 refine Fh ?_;refine Fo ?_ ?_<;>intro _ j
 .obtain⟨x,hx⟩:=FU l g;have f:=n x (AE hx);have m:=f.x;refine Fh ?_;refine Fm fun s=>?_;refine vA 7 [5,6] _ V (.cons_cons _ (.cons _ (.cons _ .slnil)))<|FB ?_;refine FC (zb Z Z (wT (by omega))) ?_
  refine FH 2 Z Z Z Z hq (by rw [yG (st:=3) GY]) fun e a=>⟨(.cons_cons _ (.cons _ (.cons _ .slnil))),?_⟩
  refine FB ?_;refine .loc1n 1 (xf Z Z Z Z Gg) Z Z Z ?_;rintro s1 H1 ⟨rfl,rfl⟩;refine⟨(.cons_cons _ (.cons _ (.cons _ .slnil))),?_⟩;refine ab.nil<|zM<|Fv ?_;refine Do (g+1) ?_;exact⟨g+1,e,L++[x.1],⟨by omega,by grind,by rw [c,yp hx,Cp,Bw];rfl⟩,by omega,by rw [Aw];exact an zk Gv⟩
 .rw [(C:g=l.length),B3] at c
  subst c;exact⟨_,[_,_],.none,Dd _,Z,q,hq,Z⟩
def WX (ps:List (List V2)) (b:Bx) (m j:Nat):List Rat:=[b.1.1,b.2.1]++(ps.take m).flatMap (fun l=>l.map (·.1))++((Jg ps ps.length).take j).flatMap fun x=>(Yp x.1 x.2).map (·.1)
def qm (ps:List (List V2)) (b:Bx):vo ps b=dd (Num.sortL ltR (WX ps b ps.length (Jg ps ps.length).length)):=by
 unfold vo WX;rw [B3,B3,zwo]
def ztj {x:List V2} (hx:ps[m]? =some x):WX ps b (m+1) 0=WX ps b m 0++x.map (·.1):=by
 unfold WX;rw [yp hx,CB];simp
def ztk {x:List V2×List V2} (hx:(Jg ps ps.length)[j]? =some x):WX ps b m (j+1)=WX ps b m j++(Yp x.1 x.2).map (·.1):=by
 unfold WX;rw [yp hx,CB,Bw];simp
def WY {α β:Type} {f:α->List β} {n:Nat}:∀ {l:List α},(∀x∈l,(f x).length<=n)->(l.flatMap f).length<=l.length*n
 | [],_=>by simp
 | x::l,h=>by
  have h1:=h x (Dv ..);have a:=WY fun y hy=>h y (Bi _ hy);rw [BM,Aw,Ap,Bj];omega
def ztl {n:Nat} (a:∀ l∈ps,l.length<=n) (c:m<=ps.length) (d:j<=(Jg ps ps.length).length):(WX ps b m j).length<=2+ps.length*n+ps.length*ps.length*(n*(2*n)):=by
 unfold WX;have h1:=WY (f:=fun l:List V2=>l.map (·.1)) (n:=n) (l:=ps.take m) fun l h=>by grind
 have e:=WY (f:=fun x:List V2×List V2=>(Yp x.1 x.2).map (·.1)) (n:=n*(2*n)) (l:=(Jg ps ps.length).take j) fun x h=>by
  rw [BR];have hx:=qk (Af _) (BT h);have g:=a _ hx.1;have p:=a _ hx.2;exact Ag (zbc _ _) (CL g C)
 have o:=znJ ps ps.length (Af _);have k:m*n<=ps.length*n:=BK _ c;have i:j*(n*(2*n))<=ps.length*ps.length*(n*(2*n)):=BK _ C;grind
theorem znK (g:0<k) (d:Bp b.1 (32*k)) (c:Bp b.2 (32*k)) (a:∀ l∈ps,vE k l):∀ q∈WX ps b m j,Bq q (32*k):=fun q hq=>by
 rcases Bu.1 hq with hq | hq
 .rcases Bu.1 hq with hq | hq
  .simp only [DZ,D6,or_false] at hq
   rcases hq with rfl | rfl
   .exact d.x
   .exact c.x
  .obtain⟨l,h1,f⟩:=DP.1 hq;obtain⟨p,e,rfl⟩:=Bc.1 f;exact xb (a l (BT h1) p e).x C
 .obtain⟨x,h1,f⟩:=DP.1 hq;obtain⟨p,e,rfl⟩:=Bc.1 f;have hx:=qk (Af _) (BT h1);exact (zdK g (a _ hx.1) (a _ hx.2) p e).x
theorem zwp (e:0<k) (c:Bp b.1 (32*k)) (a:Bp b.2 (32*k)) (d:∀ l∈ps,vE k l):∀ q∈vo ps b,Bq q (32*k):=fun q hq=>by
 rw [qm] at hq
 exact znK e c a d q ((Num.sortL_perm _ _).mem_iff.1 (Ug hq))
def g7:Sort.SWO ltR where
 irrefl:=fun x=>MS (DL)
 trans:=fun x y z a b=>MR (by have a:=MO a;have b:=MO b;grind)
 ntrans:=fun x y z a b=>MS (by have a:=MP a;have b:=MP b;grind)
def g9:∀ x y,ltR x y=false->ltR y x=false->x=y:=fun x y a b=>by
 have a:=MP a;have b:=MP b;grind
set_option maxHeartbeats 1000000 in
def zDi [ao G] {n:Nat} (U:0<k) (F:Bp b.1 (32*k)) (A:Bp b.2 (32*k)) (u:∀ l∈ps,vE k l/\l.length<=n) (hn:n<=500) (hs:100000*k+100000<=cap) (hx:2+ps.length*n+ps.length*ps.length*(n*(2*n))<=1000000) (O:ps.length<=1000000):G0 G 118 [zR 1 Uq ps,zl (cq b)] (zR 3 zP (vo ps b)):=by
 have S:=fun l h=>(u l h).2;have R:=fun l h=>(u l h).1;have hx1:=F.x;have hx2:=A.x;have g:=fun m j hm W=>ztl (b:=b) (m:=m) (j:=j) S hm W;have X:=fun m j=>znK (m:=m) (j:=j) U F A R;rw [qm];obtain⟨PR,s⟩:∃ PR,PR=Jg ps ps.length:=⟨_,Z⟩;rw [<-s] at g ⊢
 refine zs func118 ?_;refine zg ?_;apply iK
 .refine qA 8 9 J ?_ (dQ [0,1,2,3,4,5,6,7,9,8,10] V ?_)
  .refine Kt 11 [8,9,10] _ V (.refl _) ?_;(iterate 2 refine ag (yC Z Z Z) Z Z Z ?_);refine ag ((AX (zl (zP (b.1.1)))<|zG Z Z Z Z)) Z Z Z<|ag (zb Z Z (wT (q:=b.1.1) (k:=32*k) (by omega))) Z Z Z ?_;(iterate 2 refine ag (yC Z Z Z) Z Z Z ?_);refine ag ((AX (zl (zP (b.2.1)))<|zG Z Z Z Z)) Z Z Z<|ag (zb Z Z (wT (by omega))) Z Z Z ?_
   refine ab.nil ⟨_,Z,ar.buildRow Z Z J Z (.inr B) Z V Z Z Z fun a=>?_⟩;refine⟨.cons _ (.refl _),ab.nil ⟨_,Z,ar.alloc Z Z Z Z fun o=>⟨.cons _ (.cons _ (.refl _)),ab.nil ⟨_,Z,ar.store 0 Z Z Z Z Z Z Z Z (.cons _ (.cons _ (.refl _))) (ab.nil (ae.nil ?_))⟩⟩⟩⟩;exact⟨Z,o,a,.refl⟩
  .refine Kt 11 [8,9,10] _ V (.refl _) ?_;(iterate 2 refine FB ?_);refine FD ((AX (zl (zP (b.1.1)))<|zG Z Z Z Z)) ?_;refine FD (zb Z Z (wT (q:=b.1.1) (k:=32*k) (by omega))) ?_;refine FD ((AX (zl (zP (b.2.1)))<|zG Z Z Z Z)) ?_;refine ag (zb Z Z (wT (by omega))) Z Z Z ?_;refine ab.nil ⟨_,Z,ar.alloc Z Z Z Z fun o=>⟨.cons _ (.refl _),ab.nil ⟨_,Z,ar.buildRow Z Z J Z (.inr B) Z V Z Z Z fun a=>?_⟩⟩⟩;refine⟨.cons _ (.cons _ (.refl _)),ab.nil ⟨_,Z,ar.store 1 Z Z Z Z Z Z Z Z (.cons _ (.cons _ (.refl _))) (ab.nil (ae.nil ?_))⟩⟩;exact⟨Z,o,a,(vO (.swap _ _ _)).trans (aC.ghost MM)⟩
 intro o a;have E:zX (some (a,2)) 2:=⟨Af _,by unfold maxLen;omega⟩
 refine zg ?_;refine yT fun b6=>?_;refine Fh ?_;refine Ju [0,4,5,6,9,10,21,22,31,32,33,34,35,36,37,38,40,42,43] (fun (m:Nat) (q:G3) (L:List Rat) z=>(23,ML m)::z) (fun m q L=>[⟨some b6,269,[wD 191 [G9 o]],0⟩,⟨some o,77,[eqS (rowV q L.length)],0⟩,rowE q 46 3 L.length (L.flatMap zP)]) (fun m q L=>m<=ps.length/\zX q L.length/\L=WX ps b m 0) (fun m q L=>ps.length-m) 0 (some (a,2)) [b.1.1,b.2.1] ⟨BL _,E,by rfl⟩ ?_
 rintro m q L ⟨hm,hq,d⟩;refine Fh ?_;refine zd ?_ ?_<;>intro _ M
 .obtain⟨x,hx⟩:=FU ps m;obtain⟨N,a5⟩:=u x (AE hx);have r:=g (m+1) 0 (by omega) (BL _);rw [ztj hx,<-d,Aw,BR] at r
  refine zB<|zi<|Fh ?_;refine bJ [_] [_,_] [] Z Z Z Z Z (call1 N (by omega) hq (by omega)) Z Z Z ?_
  rintro a4 H29 ⟨rfl,K,p,rfl⟩;refine zg ?_;refine Do (m+1) ?_;exact⟨m+1,K,L++x.map (·.1),⟨by omega,p,by rw [d,ztj hx]⟩,by omega,MM⟩
 .rw [(C:m=ps.length)] at d
  refine Fh ?_;refine Fk zBD ?_;refine uN Z Z (zzq O) (fun ss h=>Yq GY h) J Z
   (fun j h i=>i=(0,false)/\∃ q L,zX q L.length/\L=WX ps b ps.length j/\h=[⟨some b6,269,[wD 191 [G9 o]],0⟩,⟨some o,77,[eqS (rowV q L.length)],0⟩,rowE q 46 3 L.length (L.flatMap zP)])
   (fun _ _ _=>False) ⟨Z,q,L,hq,d,Z⟩ ?_ ?_ ?_
  .rintro l j ss h i W ⟨rfl,q,L,hq,d,rfl⟩;obtain⟨x,hx,rfl⟩:=uQ W;obtain⟨Q,P⟩:=qk (Af _) (AE hx);obtain⟨H,a8⟩:=u _ Q;obtain⟨w,a7⟩:=u _ P;have a6:=(EC.1 hx).1;have r:=g ps.length (j+1) (Af _) (by grind);rw [ztk hx,<-d,Aw,BR] at r
   refine zr<|Fh ?_;refine⟨Z,?_⟩;refine zN<|wW 4 V<|Fi ((zQ 0 Z Z Z Z)) ?_;refine Fk (zDg U H w hs (by omega) (by omega)) ?_;refine bJ [_] [_,_] [] Z Z Z Z Z (call1 (zdK U H w) (by omega) hq (by omega)) Z Z Z ?_
   rintro a3 H39 ⟨rfl,K,p,rfl⟩;exact zM ⟨Z,K,_,p,by rw [ztk hx,<-d],Z⟩
  .rintro h i D ⟨rfl,q,L,hq,d,rfl⟩;rw [wn,<-s] at d
   have t:=X ps.length PR.length;have Y:=g ps.length PR.length (Af _) (Af _);have a0:2<=(WX ps b ps.length PR.length).length:=by unfold WX;rw [Aw,Aw];simp only [Ap,Ax];omega
   rw [<-d] at t Y a0 ⊢
   obtain⟨bb,cc,rfl⟩:∃ bb cc,q=some (bb,cc):=by
    cases q with
    | none=>have:L.length=0:=hq;omega
    | some z=>grind
   refine zg ?_;refine ah [_,_] [_] [] Z Z Z Z ((zxd.list (lt:=ltR) Z (by omega) t (zsF (by omega)) g7 g9 hq).args ⟨fun _ _ h=>h,Zs,trivial⟩) Z Z Z ?_;rintro a2 H41 ⟨rfl,rfl⟩;refine zg ?_;refine ah [_,_] [_] [] Z Z Z Z ((zxf.list (Num.sortL_len _ _) (by omega) (fun y hy=>t y ((Num.sortL_perm ltR L).mem_iff.1 hy)) (zCA (by omega)) hq).args ⟨fun _ _ h=>h,Zs,trivial⟩) Z Z Z ?_;rintro a1 H43 ⟨rfl,rfl⟩;have v:=ZE (Num.sortL ltR L);rw [Num.sortL_len] at v
   refine ae.ghost _ Z (yF 2 43 Z Z ⟨Ag v hq.1,hq.2⟩ Z Z GX GK)<|zg ?_;exact zj (zu (e:=by rw [d]))
  simp
end Go.Proofs
