/- The planner in general: points in order, once. -/
import Derived.Test.YtceodgbmninaoaaGreatDoorSqf
import Derived.ArgAppend
set_option linter.all false
namespace Go.Proofs
open Go Go.Sv Num Num.Pl Tryz
variable {α:Type} {f:α->List SV} {n st bb cc:Nat} {P:Program} {caps:List SV} {d D:Array α} {k:TypeId} {a fl:FuncId} {l:List α} {p:α->Prop} {G:Imm}
def bB.list [Inhabited α] {T:TypeId} (h:bB P G f T st a) {lt:α->α->Bool} (i:l.length=n) (k:n<=200000000) (hp:∀ x∈l,p x) (b:JU P G f p lt fl caps) (g:Sort.SWO lt) (m:∀ x y,lt x y=false->lt y x=false->x=y) (hq:zX (some (bb,cc)) n):
 CallSpec P G a [eqS (rowV (some (bb,cc)) n),wD fl caps] [rowE (some (bb,cc)) T st n (l.flatMap f)] (fun v H'=>v=yR []/\H'=[rowE (some (bb,cc)) T st n ((Num.sortL lt l).flatMap f)]):=by
 have c:l.toArray.size=n:=by simpa using i
 have j:=h.o ⟨c,k,hp,b⟩ g hq;refine j.mono ?_;rintro v H' ⟨h1,d',s,r,q⟩;refine⟨h1,?_⟩;have e:=zsB g m (by rw [c];exact s) (by rw [c];exact r);rw [q];unfold vr;rw [e]
def bM.list [Inhabited α] [DecidableEq α] {T:TypeId} (h:bM P G f T st a) (b:l.length=n) (e:n<=200000000) (hp:∀ x∈l,p x) (c:gA P G f p fl caps) (hq:zX (some (bb,cc)) n):
 CallSpec P G a [eqS (rowV (some (bb,cc)) n),wD fl caps] [rowE (some (bb,cc)) T st n (l.flatMap f)] (fun v H'=>v=eqS (rowV (some (bb,cc)) (dd l).length)/\H'=[rowE (some (bb,cc)) T st (dd l).length ((dd l).flatMap f)]):=
 h.o (d:=l.toArray) ⟨by omega,e,hp,c,hq⟩
def iL:Sort.SWO Jr:=zng (k1:=fun p=>p.1) (k2:=fun p=>p.2) fun x y=>by
 unfold Jr kLt;rw [MQ,UV];unfold le2;grind
def iP:∀ x y,Jr x y=false->Jr y x=false->x=y:=fun x y h1 a=>by
 unfold Jr at h1 a
 have h1:=MP h1;have a:=MP a;rw [UV] at h1 a;unfold le2 at h1 a
 grind
def iC {α:Type} [Inhabited α] (d D:Array α) (n i j:Nat):Prop:=D.size=n/\i+j+1=n/\∀ k,k<n->D[k]! =if k<i\/j<k then d[n-1-k]! else d[k]!
def iC.step [Inhabited α] {i j:Nat} (h:iC d D n i j) (g:i<j) (l:d.size=n):iC d (Sort.swp D i j) n (i+1) (j-1):=by
 obtain⟨h1,m,a⟩:=h;refine⟨by rw [Sort.swp_size];exact h1,by omega,fun k f=>?_⟩;have c:(Sort.swp D i j)[k]! =if k=j then D[i]! else if k=i then D[j]! else D[k]! :=by
  unfold Sort.swp;rw [zlF Gm];by_cases e:k=j
  .grind
  .grind
 rw [c,a i (by omega),a j (by omega),a k f];by_cases e:k=j
 .subst e;rw [MX Z,MY (by omega),MX (by omega),(C:n-1-k=i)]
 .rw [MY e];by_cases e2:k=i
  .subst e2;rw [MX Z,MY (by omega),MX (by omega),(C:n-1-k=j)]
  grind
def iC.done [Inhabited α] {i j:Nat} (h:iC d D n i j) (f:¬ i<j) (g:d.size=n):D.toList=d.toList.reverse:=by
 obtain⟨h1,p,l⟩:=h;refine Dj (by grind) fun k a c=>?_
 rw [BH] at a
 have b:=qd a;have e2:d.toList[n-1-k]? =some d[n-1-k]! :=qd (by omega);grind
section
variable (P:Program) (G:Imm) {α:Type} [Inhabited α] (f0:α->List SV) (T0:TypeId) (s0:Nat)
structure gO (fid:FuncId):Prop where
 o:let f:=f0;let T:=T0;let st:=s0;∀{d:Array α} {bb cc n:Nat} (_:d.size=n) (_:0<n) (_:n<=2000000000) (_:zX (some (bb,cc)) n),CallSpec P G fid [eqS (rowV (some (bb,cc)) n)] [rowE (some (bb,cc)) T st n (vr f d)] (fun v H'=>v=yR []/\∃ d',d'.toList=d.toList.reverse/\H'=[rowE (some (bb,cc)) T st n (vr f d')])
end
variable {G:Imm}
def zsP [ao G] {k:Nat} (a:400*k+21000<=cap):JU prog G zL (fun q=>Bp q k) Jr 270 []:=fun x y hx hy=>
 ⟨vN x y,by have:=hx.x;have:=hx.y;have:=hy.x;have:=hy.y;exact oS C,Z⟩
def jL [ao G] {k:Nat} (a:400*k+21000<=cap):gA prog G zL (fun q=>Bp q k) 176 []:=fun x y hx hy=>by
 have:=hx.x;have:=hx.y;have:=hy.x;have:=hy.y;rw [decide_eq_decide.2 (show x=y↔_ from Prod.ext_iff)];exact zcM C
def zsQ [ao G] {xs:List ((G5)×(G5))} {k:Nat} (r:0<k) (t:∀ p∈xs,wL k p) (o:2*k+11000<=cap) (h:xs.length<=cap) (x:0<xs.length):CallSpec prog G 78 [zR 6 pc xs] [] (fun v H1=>∃ bb cc,zX (some (bb,cc)) xs.length/\v=eqS (rowV (some (bb,cc)) xs.length)/\H1=[rowE (some (bb,cc)) 48 6 xs.length ((xs.map pv).flatMap zL)]):=by
 unfold cap at h
 refine zs func78 ?_;refine Fh ?_;refine zH (yI 48 6)<|xz (fun (i:Nat) (q:G3)=>⟨_,[(7,ML i),(6,MK xs.length),(5,zR 6 pc xs),(2,eqS (rowV q i))],[rowE q 48 6 i (((xs.take i).map pv).flatMap zL)],[],(0,false)⟩)
  (fun i q=>i<=xs.length/\zX q i) (fun i q=>xs.length-i)
  0 none ⟨BL _,Z⟩ MM ?_
 rintro i q ⟨hi,hq⟩;refine Fh ?_;refine Fo ?_ ?_<;>intro _ s
 .obtain⟨⟨⟨b,l,d⟩,⟨c,m,e⟩⟩,hp⟩:=FU xs i;have f:=t _ (AE hp);have w:IsQ b l d (qv (b,l,d)) k:=xH f.1 r;have u:IsQ c m e (qv (c,m,e)) k:=xH f.2 r;have j:(xs.take (i+1)).map pv=(xs.take i).map pv++[(qv (b,l,d),qv (c,m,e))]:=by rw [Cz,hp];simp [pv]
  refine Fh ?_;refine Fm fun y=>?_;refine wW 9 V<|zg ?_;refine Fk (wT o) ?_;refine Fk (wT o) ?_;refine FL 1 Z Z Z Z hq (by rw [uI];grind) fun g a=>?_;refine zz ?_;refine zM<|Fv ?_;refine Do (i+1) ?_
  exact⟨i+1,g,⟨C,a⟩,C,MN (by rw [j,CB];rfl)⟩
 .have n:i=xs.length:=C;subst n;obtain⟨bb,cc,rfl⟩:∃ bb cc,q=some (bb,cc):=by
   cases q with
   | none=>exact M1 hq (by show ¬xs.length=0;omega)
   | some z=>grind
  refine Fh ?_;exact zj ⟨_,[_],.one (.tmp Z),Dd _,⟨_,_,hq,Z,by rw [B3]⟩⟩
def zv7 {l:List V2} (f:l.length<=200000000) (hne:l≠[]):CallSpec prog G 375 [zR 6 zL l] [] (fun v H1=>∃ bb cc,zX (some (bb,cc)) l.length/\v=eqS (rowV (some (bb,cc)) l.length)/\H1=[rowE (some (bb,cc)) 48 6 l.length (l.flatMap zL)]):=by
 refine Fq func375 ?_;refine Fi (WQ Z Z Z) ?_;refine qH Z Z (fun e=>?_) ?_
 .exact M1 e hne
 .refine zg ?_;refine ae.buildRow Z Z Z Z Z Z J Z (.inl Z) Z Z fun g a=>zz ?_;refine Fx 0 Z Z Z Z a Z fun d hq7=>?_;obtain _ | ⟨b,c⟩:=d
  .exact K8
  exact IC
def zBi {S A0:Prop} (b:A0) (w:By A0->S:=by
 intro g;refine⟨?_⟩;intro f T st d bb cc n a m l hq;refine wR g.o Z Z Z<|zg ?_;refine Fi (xd Z Z hq) ?_;refine za ((n-1:Nat):Int) ?_;refine Fi ((yt Z Z).sub (zI (n:=((0:Nat):Int)) Z)) ?_;refine uu (fun (i j:Nat) (D:Array _)=>⟨_,[(2,ML i),(3,ML j),(0,eqS (rowV (some (bb,cc)) n))],[rowE (some (bb,cc)) T st n (vr f D)],[],(0,false)⟩) (fun i j D=>iC d D n i j) (fun i j _=>j-i) 0 (n-1) d ⟨a,C,fun k hk=>by rw [MY C]⟩ (an (aa Z (aa Z (aa Z (trivial)))) Z) ?_
 rintro i j D hI;have h:=hI.1;have e:=hI.2.1;refine Fh ?_;refine Fo ?_ ?_<;>intro _ c
 .refine vA 16 [13,15] _ V (.cons _ .slnil)<|FB ?_;refine FC ((zY j Z Z Z Z C)) ?_;refine FC ((yA 0 (f:=f) GY (d:=D) (i:=j) C Z Z Z)) ?_;refine FC ((zY i Z Z Z Z C)) ?_;refine FC ((yA 0 (f:=f) GY (d:=D) (i:=i) C Z Z Z)) ?_;refine FC ((zY i Z Z Z Z C)) ?_;refine .loc1n 0 (xk (f:=f) GY (d:=D) (i:=i) C D[j]! Z Z Z) Z Z Z ?_;rintro s1 H1 ⟨rfl,rfl⟩;refine⟨(.cons _ .slnil),?_⟩;refine FC ((zY j Z Z Z Z C)) ?_;refine .loc1n 0 (xk (f:=f) GY (d:=D.setIfInBounds i D[j]!) (i:=j) Gm D[i]! Z Z Z) Z Z Z ?_;rintro s2 H2 ⟨rfl,rfl⟩;refine⟨(.cons _ .slnil),?_⟩;refine ab.nil<|zg ?_;refine Do (i+1) ?_;refine Do (j-1) ?_;exact⟨i+1,j-1,Sort.swp D i j,hI.step C a,C,MM⟩
 .exact⟨_,[_],.none,Dd _,Z,⟨_,hI.done C a,Z⟩⟩):S:=w ⟨b⟩
def zBj:gO prog G zL 48 6 376:=zBi func376
variable {α:Type} {D:Array α} {k:Array V2} {st:Nat} {p:V2}
def zns [Inhabited α] (h:0<D.size):D.toList.reverse=D[D.size-1]! ::D.pop.toList.reverse:=by
 have a:D.toList≠[]:=fun e=>by simp_all
 have b:=Ek a;grind
def zfh {f:α->List SV} (hf:∀ x,(f x).length=st) (D:Array α):vr f D.pop=(vr f D).take ((D.size-1)*st):=by
 unfold vr;rw [oD hf,Array.toList_pop,D8,BH]
theorem zyV [Inhabited α] {i:Nat} (h:i+1<D.size):D.pop[i]! =D[i]! :=by
 grind
def znt {p:α->Prop} (h:∀ x∈D.toList,p x):∀ x∈D.pop.toList,p x:=fun x hx=>by
 rw [Array.toList_pop] at hx;exact h x (List.dropLast_subset _ hx)
theorem zpZ {D:Array V2} (h:2<=D.size):Zv p D.toList.reverse=if x3 (Yw D[D.size-1]! D[D.size-2]!) (Yw p D[D.size-1]!)<=0 then Zv p D.pop.toList.reverse else D.toList.reverse:=by
 rw [zns (by omega),zns (by rw [El];omega),El,show D.size-1-1=D.size-2 by omega,zyV (by omega)];rfl
def zp0 {D:Array V2} (h:D.size<=1):Zv p D.toList.reverse=D.toList.reverse:=by
 match hl:D.toList.reverse with
 | []=>rfl
 | [x]=>rfl
 | x::y::r=>have:=MW List.length hl;grind
variable {G:Imm}
def zBk [ao G] {p:V2} {k l:Nat} {j:G3} {D0:Array V2} (hp:Bp p k) (n:∀ x∈D0.toList,Bp x k) (s:6000*k+60000<=cap) (o:D0.size<=1000000) (h:zX j D0.size):CallSpec Tryz.prog G 454 [zl (zL p),G9 l] [⟨some l,29,[eqS (rowV j D0.size)],0⟩,rowE j 48 6 D0.size (vr zL D0)] (fun v H1=>v=yR []/\∃ q' D',zX q' D'.size/\D'.toList.reverse=Zv p D0.toList.reverse/\H1=[⟨some l,29,[eqS (rowV q' D'.size)],0⟩,rowE q' 48 6 D'.size (vr zL D')]):=by
 refine zs Tryz.func454 ?_;refine zg ?_;refine Fi (xd Z Z h) ?_;refine Xt [1,2] (fun (D:Array V2) (q:G3) z=>(3,MK (D.size:Nat))::z) (fun D q=>[⟨some l,29,[eqS (rowV q D.size)],0⟩,rowE q 48 6 D.size (vr zL D)]) (fun D q=>zX q D.size/\D.size<=1000000/\(∀x∈D.toList,Bp x k)/\Zv p D.toList.reverse=Zv p D0.toList.reverse) (fun D _=>D.size) D0 j ⟨h,o,n,Z⟩ ?_;rintro D q ⟨hq,r,b,c⟩;refine zi<|zU 24 V<|zz ?_;refine FE ?_ ?_<;>intro _ g
 .obtain⟨bb,cc,rfl⟩:∃ bb cc,q=some (bb,cc):=by
   cases q with
   | none=>exact M1 hq (by show ¬D.size=0;omega)
   | some z=>grind
  have hy:=xI b (i:=D.size-1) C;have hx:=xI b (i:=D.size-2) C;have a:=zpZ (p:=p) (D:=D) C;refine Do (D.size-1) ?_;refine Fi ((zY (D.size-1) Z Z Z Z C)) ?_;refine Fi ((yA 1 GY C Z Z Z)) ?_;refine Do (D.size-2) ?_;refine Fi ((zY (D.size-2) Z Z Z Z C)) ?_;refine Fi ((yA 1 GY C Z Z Z)) ?_;refine Fl Z Z (gW hy hx C) ?_;refine Do (D.size-1) ?_;refine Fi ((zY (D.size-1) Z Z Z Z C)) ?_;refine Fi ((yA 1 GY C Z Z Z)) ?_;refine Fl Z Z (gW hp hy C) ?_;refine Fl Z Z (zxi (Xp hy hx) (Xp hp hy) C) ?_;refine Fo ?_ ?_<;>intro e m
  .rw [MX (MO e)] at a
   refine Do (D.size-1) ?_;refine zo ((Wk Z Z hq Z Z C C)) ?_;refine zw ?_;refine zM<|Fs (QT [_] [] (m':=D.size-1) (cs':=vr zL D.pop) (qa GY D) (zfh GY D) C hq) ?_;refine Do (D.size-1) ?_;exact⟨D.pop,some (bb,cc),⟨by rw [El];exact⟨Ag (Nat.sub_le _ _) hq.1,hq.2⟩,by grind,znt b,a.symm.trans c⟩,by grind,by rw [El];exact MM⟩
  .rw [MY (MP e)] at a
   exact⟨_,[_,_],.none,Dd _,Z,⟨_,D,hq,a.symm.trans c,Z⟩⟩
 .refine Fu ?_;exact⟨_,[_,_],.none,Dd _,Z,⟨_,D,hq,(zp0 C).symm.trans c,Z⟩⟩
theorem QU (p:V2):∀ L:List V2,∃k,Zv p L=L.drop k
  | []=>⟨0,Z⟩
  | [x]=>⟨0,Z⟩
  | y::x::r=>by
    unfold Zv
    split
    . obtain⟨k,a⟩:=QU p (x::r)
      exact⟨k+1,by grind⟩
    . exact⟨0,Z⟩
theorem zsR {p:V2} {D D2:Array V2} {n:Nat} {P:V2->Prop} (h:D2.toList.reverse=Zv p D.toList.reverse) (c:D.size<=n) (hp:∀ x∈D.toList,P x):D2.size<=n/\∀ x∈D2.toList,P x:=by
 obtain⟨k,b⟩:=QU p D.toList.reverse;rw [b] at h
 refine⟨?_,fun x hx=>hp x ?_⟩
 .have:=MW List.length h;grind
 .have a:=Eg.2 hx;grind
theorem zsS [ao G] {xs:List V2} {k:Nat} (F:vE k xs) (E:6000*k+60000<=cap) (I:xs.length<=1000000):G0 G 374 [zR 6 zL xs] (zR 6 zL (ud xs)):=by
 refine Fq Tryz.func374 ?_;refine yT fun v=>?_;refine zM<|zH (yI 48 6)<|Fs (vO (En _ _ _)) ?_;refine uu (fun (m:Nat) (D:Array V2) (q:G3)=>⟨_,[(10,ML m),(9,MK xs.length),(8,zR 6 zL xs),(4,wD 454 [G9 v]),(3,G9 v)],[⟨some v,29,[eqS (rowV q D.size)],0⟩,rowE q 48 6 D.size (vr zL D)],[],(0,false)⟩) (fun m D q=>m<=xs.length/\zX q D.size/\D.size<=m/\(∀x∈D.toList,Bp x k)/\D.toList.reverse=(xs.take m).foldl (fun o p=>p::Zv p o) []) (fun m _ _=>xs.length-m) 0 #[] none ⟨BL _,Z,Af _,fun x h=>M1 h B,Z⟩ (an (aa Z (aa Z (aa Z (aa Z (aa Z (trivial)))))) Z) ?_;rintro m D q ⟨K,hq,u,d,a⟩;refine Fh ?_;refine FP ?_ ?_<;>intro _ n
 .obtain⟨x,hx⟩:=FU xs m;have b:=F x (AE hx);have s:=yp hx;refine Fh ?_;refine Fm fun L=>?_;refine bJ [_] [_,_] [] Z Z Z Z Z (zBk b d E C hq) Z Z Z ?_;rintro A H16 ⟨rfl,H,D2,r,i,rfl⟩;obtain⟨y,g⟩:=zsR i u d;refine Fh ?_;refine FL 2 Z Z Z Z r (qa GY D2) fun j c=>?_;refine zw ?_;refine zM<|Fv ?_;refine Do (m+1) ?_;exact⟨m+1,D2.push x,j,⟨C,by grind,by grind,fun z w=>by grind,by grind⟩,C,by rw [Eo];exact MN (by rw [show vr zL (D2.push x)=vr zL D2++[x].flatMap zL by unfold vr;simp];rfl)⟩
 .obtain rfl:m=xs.length:=C;rw [B3] at a
  have t:D.toList=ud xs:=by unfold ud;rw [<-a,List.reverse_reverse]
  refine zK<|zr<|zz ?_;refine ae.ghost _ Z (yF 1 22 Z Z hq (l:=D.toList) (f:=zL) (by rfl) Z GX GK)<|zg ?_
  exact zj (zu (e:=by rw [t]))
end Go.Proofs
namespace Go.Sv
open Go Go.RowKit Go.Proofs
def slF {α:Type} (st:Nat) (f:α->List SV) (l:List α):SV:=
 ⟨fun I v=>∃ a,v= .slice a l.length l.length/\l.length<=yE/\(l=[]\/∃ b o,a=some ⟨b,o,none⟩/\∀ i x,l[i]? =some x->cellsAt I b (o+i*st) (f x)),
  fun _ _ _ hl ⟨a,hv,h2,h3⟩=>⟨a,hv,h2,h3.imp id fun⟨b,o,ha,h⟩=>⟨b,o,ha,fun i x hx=>(h i x hx).mono hl⟩⟩⟩
theorem ziZ {G I:Imm} {W:World} (D:Holds G I W) {α:Type} {st:Nat} {f:α->List SV} {l:List α} {b p:Nat} (hf:∀ z∈l,(f z).length=st) (F:∀ i x,l[i]? =some x->cellsAt I b (p+i*st) (f x)):
    ∃a:List Value,a.length=l.length*st/\dens I (l.flatMap f) a/\KK a/\∀ j u,a[j]? =some u->W.cell? (Addr.add ⟨b,p,none⟩ j)=some u:=by
  have:∀ (m:List α) (k:Nat),(∀z∈m,(f z).length=st)->(∀i x,m[i]? =some x->cellsAt I b (p+(k+i)*st) (f x))->∃ a:List Value,a.length=m.length*st/\dens I (m.flatMap f) a/\KK a/\∀ j u,a[j]? =some u->W.cell? (Addr.add ⟨b,p,none⟩ (k*st+j))=some u:=by
    intro m
    induction m with
    | nil=>intro k _ _;exact⟨[],B,aq,bg,B⟩
    | cons y m ih=>
      intro k e v;obtain⟨a,t,s,r,q⟩:=ih (k+1) (fun z hz=>e z (by grind)) fun i x hx=>by have:=v (i+1) x (by assumption);grind
      obtain⟨c,o,n⟩:=v 0 y Z;obtain⟨M,fr,g⟩:=D.mem b c o;obtain⟨ys,w,L,K,H⟩:=YB (e y B) n;refine⟨ys++a,?_,?_,?_,?_⟩
      . grind
      . rw [BM];exact K.append s
      . intro u A;rcases Bu.1 A with h | h;exact H u h;exact r u h
      . intro j u d
        by_cases E:j<st
        . rw [Ad (by omega)] at d
          have:=L j u d;rw [XU,xC g];grind
        grind
  obtain⟨a,t,s,r,q⟩:=this l 0 hf (by grind)
  grind
section
variable {P:Program} {G:Imm} {o:Oper} {H:HL} {g:Ha}
variable {α:Type} {f:α->List SV} {x y:Operand} {l:List α} {t e st m:Nat}
def zi0 [am P t e st] {z:Operand} {high mx:Option Operand} {k r:IntKind} (hop:o.op= .slice t x none high mx) (hx:yW g x=some (zR st f l)) (d:high=some y) (v:mx=some z) (hy:yW g y=some (ze k m)) (L:yW g z=some (ze r m)) (R:m<=l.length):OpOK P G H o g (slF st f (l.take m)):=by
 subst d;subst v;refine yy GW fun I W a _ _ s=>?_;obtain⟨w,cap,A,M,F,Q⟩:=s.get GB hx;have n:a.eval y= .int k m:=s.get GB hy;have h:a.eval z= .int r m:=s.get GB L;obtain⟨j,E,D⟩:=am.i (P:=P) (t:=t);have q:=wQ (P:=P) (W:=W) (len:=l.length) (cap:=cap) (mx:=some (.int r m)) (.inl ⟨Z,Z⟩) (.inr ⟨k,Z⟩) (.inr ⟨r,Z⟩) (BL _) (Af _) C;have c:(l.take m).length=m:=by rw [BG];omega
 refine⟨.slice w m m,?_,w,by rw [c],by omega,?_⟩
 .by_cases K:m=0
  .subst K;simp only [execOp,hop,A,Option.map_none,AM,n,h,Instr.sliceAt,Instr.slice,Sem.run_bind,run_underlying (am.u),Result.andThen_ok,q,sizeOf,typeInfo,Sem.run_pure,run_program,E,D,if_true,Nat.sub_zero]
  .cases w <;> simp [execOp,hop,A,n,h,Instr.sliceAt,Instr.slice,run_underlying (am.u),q,sizeOf,typeInfo,E,D,K,Addr.add]
 grind
def zgK {d:Nat} {zs:List Value} [am P t e st] [he:av P e zs d] {m:List α}
 (hop:o.op= .call {callee:=.builtin .append,args:= #[x,y],argTypes:= #[t,t]}) (hx:yW g x=some (slF st f l)) (hy:yW g y=some (zR st f m)) (hf:∀ z∈l,(f z).length=st) (a4:∀ z∈m,(f z).length=st) (hl:l≠[]) (h0:m≠[]) (k:(l.length+m.length)*d<=yE) (hm:l.length+m.length<=yE):
 OpL P G o g [] (fun s H'=>∃ n,zX n (l.length+m.length)/\s=eqS (rowV n (l.length+m.length))/\H'=[rowE n e st (l.length+m.length) ((l++m).flatMap f)]):=by
 intro nn r I W a a8 Q j hh hr kk;obtain⟨ad,X,_,h3⟩:=hr.get Gl hx;obtain⟨b1,w,U,_,_,h4⟩:=hr.get Gl hy;obtain⟨b,p,rfl,hc⟩:=h3.resolve_left hl;obtain⟨b2,p2,rfl,a5⟩:=h4.resolve_left h0;obtain⟨q,o1,o2,o3,o4⟩:=ziZ j hf hc;obtain⟨v,n1,n2,n3,n4⟩:=ziZ j a4 a5;obtain⟨i,hi,E⟩:=am.i (P:=P) (t:=t);obtain⟨i',z,F,S,R,O,N⟩:=he.i;rw [hi] at F;cases F
 have hu:=am.u (P:=P) (t:=t);have Y:0<st:=by rw [<-E,O];exact Er.2 he.pos
 have b0:=Er.2 h0;obtain⟨v',W',e1,e2,D⟩:=run_append_arg_grows (P:=P) W t o.type e i z st d hu hi S E N (by grind) Y ⟨b,p,none⟩ l.length l.length q o1 o4 ⟨b2,p2,none⟩ m.length w v n1 n4 C (by unfold maxLen;unfold yE at hm;omega) (by assumption);have H:∀ b,v'.ownBlock=some b->W.heap.size<=b/\I b=none:=by
  intro b k;rcases e2.2 with ⟨rfl,_⟩ | ⟨M,cp,K,rfl,a3,_⟩
  .omega
  .simp [Value.ownBlock] at k;subst k;refine⟨a3,?_⟩;cases hI:I M with
   | none=>rfl
   | some c=>obtain⟨ee,fr,L⟩:=j.mem M c hI;grind
 have a7:W'.ownsRow 0 e st v' (l.length+m.length) (q++v):=⟨e2.1,e2.2.imp id fun⟨M,cp,K,h1,_,h2⟩=>⟨M,cp,K,h1,BL _,h2⟩⟩;obtain⟨n,a0,rfl,a2,a9⟩:=YQ a7 (o2.append n2) (by intro x hx;rcases Bu.1 hx with h | h;exact o3 x h;exact n3 x h) fun b k=>(H b k).2
 have a6:∀ b,b∈bs [rowE n e st (l.length+m.length) (l.flatMap f++m.flatMap f)]↔(rowV n (l.length+m.length)).ownBlock=some b:=by
  intro b;cases n <;> simp [bs,rowE,rowV,Value.ownBlock];exact M3
 have a1:Holds G I W':=⟨j.glob,fun b c hc=>by
  obtain⟨ee,fr,L⟩:=j.mem b c hc
  exact⟨ee,fr,(D.block b (yv L) B).trans L⟩⟩
 have A:(execOp a.eval o).run P W= .ok (.value (rowV n (l.length+m.length))) W':=by
  simp only [execOp,hop,resolve,Sem.run_bind,Sem.run_pure,Result.andThen_ok,invoke,builtin];have:Array.map a.eval #[x,y]= #[.slice (some ⟨b,p,none⟩) l.length l.length,.slice (some ⟨b2,p2,none⟩) m.length w]:=by simp [X,U]
  rw [this,e1];rfl
 refine xg GW A<|kk _ I W' _ _ ⟨n,a0,Z,by rw [CB]⟩ ?_ a1 a2 Z
 exact⟨D.os,D.tape,D.output,Imm.le_refl _,D.size,fun b k _=>D.block b k B,fun b h h'=>M1 h h',fun b k=>.inr (H b ((a6 b).1 k)).1⟩
end
end Go.Sv
namespace Go.Proofs
open Go Go.Sv Num Num.Pl
variable {xs:List V2} {x:V2}
def znu {α β:Type} {st:Nat} {f:α->List SV} {g:β->α} {h:β->List SV} (e:∀ x,f (g x)=h x) {l:List β} (I:Imm) (v:Value) (d:(zR st h l).den I v):(zR st f (l.map g)).den I v:=by
 obtain⟨a,c,h1,m,k,j⟩:=d;refine⟨a,c,by grind,by grind,by grind,j.imp (fun e=>by grind) fun⟨b,o,n,e2⟩=>⟨b,o,n,fun i x hx=>?_⟩⟩;grind
def zi1 {p:V2} {L:List V2} (h:L≠[]):Zv p L≠[]:=by
 match L with
 | []=>assumption
 | [x]=>assumption
 | y::x::r=>
  unfold Zv;split
  . exact zi1 (by simp)
  omega
def oz (h:2<=xs.length):2<=(ud xs).length:=by
 unfold ud;rw [Em];obtain⟨ys,x,rfl⟩:∃ ys x,xs=ys++[x]:=⟨xs.dropLast,xs.getLast (by grind),(Ek _).symm⟩
 obtain⟨zs,y,rfl⟩:∃ zs y,ys=zs++[y]:=⟨ys.dropLast,ys.getLast (by grind),(Ek _).symm⟩
 rw [Dt,Dt];show 2<=(x::Zv x (y::Zv y _)).length;have:=Er.2 (zi1 (p:=x) (L:=y::Zv y (zs.foldl (fun o p=>p::Zv p o) [])) (by simp));grind
theorem zfi (h:x∈ud xs):x∈xs:=by
  unfold ud at h
  rw [Eg] at h
  have:∀ (l o:List V2),x∈l.foldl (fun o p=>p::Zv p o) o->x∈o\/x∈l:=by
    intro l
    induction l with
    | nil=>simp
    | cons y l ih=>
      intro o h;rcases ih _ h with h | h
      . rcases DZ.1 h with h | h
        . grind
        . obtain⟨k,a⟩:=QU y o
          grind
      grind
  grind
theorem Vy:(ud xs).length<=xs.length:=by
 unfold ud;rw [Em];have:∀ (l o:List V2),(l.foldl (fun o p=>p::Zv p o) o).length<=o.length+l.length:=by
  intro l
  induction l with
  | nil=>simp
  | cons y l ih=>
   intro o;refine Ag (ih _) ?_;obtain⟨k,a⟩:=QU y o;grind
 grind
def Ql {l:List V2} (h:x∈wM l):x∈l:=by
 have h1:∀ y,y∈ZS (Num.sortL Jr l)->y∈l:=fun y hy=>(Num.sortL_perm Jr l).mem_iff.1 (Ug hy);unfold wM at h
 simp only at h
 split at h
 .grind
 .rcases Bu.1 h with h | h
  .exact h1 x (zfi (List.dropLast_subset _ h))
  .exact h1 x (Eg.1 (zfi (List.dropLast_subset _ h)))
variable {G:Imm}
variable {l:List V2} {k:Nat}
def zyW [ao G] (d:0<k) (c:vE k l) (b:2*k+11000<=cap) (f:l.length<=1000000) (e:0<l.length):CallSpec Tryz.prog G 78 [zR 6 zL l] [] (fun v H1=>∃ bb cc,zX (some (bb,cc)) l.length/\v=eqS (rowV (some (bb,cc)) l.length)/\H1=[rowE (some (bb,cc)) 48 6 l.length (l.flatMap zL)]):=by
 have h:=zsQ (G:=G) (xs:=l.map Xs) d (fun p hp=>by obtain⟨q,hq,rfl⟩:=Bc.1 hp;exact Wf (c q hq)) b Gj (by grind);refine (h.args (args':=[zR 6 zL l]) ⟨fun I v a=>znu GY I v a,trivial⟩).mono fun v H1 ⟨bb,cc,h1,h2,h3⟩=>⟨bb,cc,?_,?_,?_⟩
 .grind
 .grind
 .rw [h3,BR,As,show (pv∘Xs)=id from funext vj,Dm]
theorem lX [ao G] (D:0<k) (p:vE k l) (s:6000*k+60000<=cap) (A:l.length<=1000000) (K:0<l.length):G0 G 282 [zR 6 zL l] (zR 6 zL (wM l)):=by
 obtain⟨E,j⟩:∃ E,E=ZS (Num.sortL Jr l):=⟨_,Z⟩;have q:E.length<=l.length:=by rw [j];exact Ag (ZE _) (by rw [Num.sortL_len];omega)
 have i:vE k E:=fun y hy=>by rw [j] at hy;exact p y ((Num.sortL_perm Jr l).mem_iff.1 (Ug hy))
 refine Fq Tryz.func282 ?_;refine ah [] [] [] Z Z Z Z (zyW D p C A K) Z Z Z ?_;rintro L H8 ⟨bb,cc,hq,rfl,rfl⟩;refine zg ?_;refine ah [] [_] [] Z Z Z Z ((zxe.list Z C p (zsP C) iL iP hq).args ⟨fun _ _ h=>h,Zs,trivial⟩) Z Z Z ?_;rintro w H10 ⟨rfl,rfl⟩;refine zg ?_;refine ah [] [_] [] Z Z Z Z ((zxg.list (Num.sortL_len _ _) C (fun y hy=>p y ((Num.sortL_perm Jr l).mem_iff.1 hy)) (jL C) hq).args ⟨fun _ _ h=>h,Zs,trivial⟩) Z Z Z ?_;rintro v H12 ⟨rfl,rfl⟩;rw [show dd (Num.sortL Jr l)=E from j.symm];refine ae.ghost _ Z (yF 0 12 Z Z ⟨Ag q hq.1,hq.2⟩ Z Z GX GK)<|Fh ?_;refine Fo ?_ ?_<;>intro _ a
 .exact zj (zu (e:=by unfold wM;grind))
 .have I:=oz (xs:=E) C;have F:=oz (xs:=E.reverse) Gs;have H:=Vy (xs:=E);have r:=Vy (xs:=E.reverse);rw [Em] at r
  refine Fl Z Z (zsS i s C) ?_;refine ah [] [] [] Z Z Z Z (zv7 (l:=E) C (by grind)) Z Z Z ?_;rintro u H20 ⟨b2,c2,c,rfl,rfl⟩;refine zg ?_;refine ah [] [_] [] Z Z Z Z (zBj.o (d:=E.toArray) Z C C c) Z Z Z ?_;rintro t H22 ⟨rfl,d2,b,rfl⟩;have b:d2.toList=E.reverse:=b;refine zM<|Fs (yF 0 5 Z Z c (l:=E.reverse) (f:=zL) (Em ..) (by show d2.toList.flatMap zL=_;rw [b]) GX GK) ?_;refine Fk (zsS (fun y hy=>i y (Eg.1 hy)) s Gs) ?_;refine xv 14 [13] _ V .slnil<|FB ?_;refine FC (yK (z:=(((ud E).length-1:Nat):Int)) Z Z Z (MW some C) (wrap_i64 C C)) ?_;refine FC (yK (z:=(((ud E).length-1:Nat):Int)) Z Z Z (MW some C) (wrap_i64 C C)) ?_;refine FC ((zi0 Z Z Z Z Z Z C)) ?_;refine FC (yK (z:=(((ud E.reverse).length-1:Nat):Int)) Z Z Z (MW some C) (wrap_i64 C C)) ?_;refine FC ((AX (zR 6 zL ((ud E.reverse).take ((ud E.reverse).length-1)))<|xU (m:=0) Z Z (.inl ⟨Z,Z⟩) (.inr ⟨_,_,Z,Z⟩) (.inl Z) (BL _) C)) ?_
  refine .loc0 (zgK Z Z Z GX GX (by rw [<-Er,BG];omega) (by rw [<-Er,BG];omega) Gc Gc) Z Z Z ?_;rintro s1 H1 ⟨x,g,rfl,rfl⟩;refine⟨(.cons _ .slnil),?_⟩;refine ab.nil<|ae.ghost _ Z (yF 0 38 Z Z g (l:=(ud E).take ((ud E).length-1)++(ud E.reverse).take ((ud E.reverse).length-1)) (f:=zL) (Aw ..) Z GX Gc)<|zg ?_;exact zj (zu (e:=by unfold wM;rw [<-j];rw [MY C,D8,D8]))
end Go.Proofs
namespace Num.Pl
open Go Go.Proofs
variable {P Q l A O:List V2} {d:V2}
def QV (P:List V2):vy P []=P:=by cases P <;> rw [vy];simp
def XS (Q:List V2):vy [] Q=Q:=by rw [vy]
def smB (P Q:List V2):Bool:=match Q,P with
 | [],_=>true
 | _::_,[]=>false
 | e::_,d::_=>JV d e
theorem JX (h:¬ (P=[]/\Q=[])):(smB P Q=true->∃ d P',P=d::P'/\vy P Q=d::vy P' Q)/\(smB P Q=false->∃ d Q',Q=d::Q'/\vy P Q=d::vy P Q'):=by
  cases Q with
  | nil=>
    cases P with
    | nil=>grind
    | cons d P=>exact⟨fun _=>⟨d,P,Z,by rw [QV,QV]⟩,fun e=>(by cases e)⟩
  | cons e Q=>
    cases P with
    | nil=>exact⟨fun e=>(by cases e),fun _=>⟨e,Q,Z,by rw [XS,XS]⟩⟩
    | cons d P=>
      refine⟨fun h1=>⟨d,P,Z,?_⟩,fun h1=>⟨e,Q,Z,?_⟩⟩
      . have h1:JV d e=true:=h1
        rw [vy,MX h1]
      . have h1:JV d e=false:=h1
        rw [vy,MY (by grind)]
theorem oy (P Q:List V2):(vy P Q).length=P.length+Q.length:=by
  have:∀ (n:Nat) (P Q:List V2),P.length+Q.length<=n->(vy P Q).length=P.length+Q.length:=by
    intro n
    induction n with
    | zero=>intro P Q h;rw [Aa (l:=P) C,XS];simp
    | succ n ih=>
      intro P Q h
      by_cases b:P=[]/\Q=[]
      . grind
      . obtain⟨h1,c⟩:=JX b
        cases hb:smB P Q with
        | true=>grind
        | false=>grind
  exact this _ P Q (Af _)
def smO (x:V2) (ds:List V2):List V2:=ds.foldl (fun o d=>add2 (o.headD (0,0)) d::o) [x]
def zi2 (x:V2) (ds:List V2) (d:V2):smO x (ds++[d])=add2 ((smO x ds).headD (0,0)) d::smO x ds:=by unfold smO;simp
def ni (x:V2) (ds:List V2):(smO x ds).length=ds.length+1:=by
 have:∀ (ds o:List V2),(ds.foldl (fun o d=>add2 (o.headD (0,0)) d::o) o).length=o.length+ds.length:=by
  intro ds
  induction ds with
  | nil=>simp
  | cons d ds ih=>grind
 unfold smO;grind
def mB {a b:List V2} (h1:0<(wM a).length) (c:0<(wM b).length):iF a b=wM (smO (add2 (vc (wM a) 0) (vc (wM b) 0)) (vy (wv (wM a)) (wv (wM b))).dropLast).reverse:=by
 unfold iF;cases ha:wM a with
 | nil=>grind
 | cons x a'=>
  cases hb:wM b with
  | nil=>grind
  | cons y b'=>rfl
def Vz (h:0<l.length):0<(wM l).length:=by
 have a:0<(ZS (Num.sortL Jr l)).length:=by
  refine Er.2 fun e=>?_;have:=kX (Num.sortL Jr l);rw [show dd (Num.sortL Jr l)=[] from e] at this;have b:Num.sortL Jr l=[]:=EB.1 this.symm;have:=Num.sortL_len Jr l;rw [b] at this;simp at this;omega
 unfold wM;simp only;split
 .exact a
 .rename_i c;have:=oz (xs:=ZS (Num.sortL Jr l)) C;grind
theorem zi3:(wM l).length<=2*l.length:=by
 have b:(ZS (Num.sortL Jr l)).length<=l.length:=Ag (ZE _) (by rw [Num.sortL_len];omega);unfold wM;simp only;split
 .omega
 .have h1:=Vy (xs:=ZS (Num.sortL Jr l));have a:=Vy (xs:=(ZS (Num.sortL Jr l)).reverse);grind
def Ui {i:Nat} (h:(wv l).drop i=d::P):P=(wv l).drop (i+1)/\d=Yw (vc l (i+1)) (vc l i)/\0<l.length:=by
 have h1:(wv l)[i]? =some d:=by rw [<-List.head?_drop,h];rfl
 have b:=(EC.1 h1).1;rw [aO] at b
 have a:i<l.length/\1<l.length:=by split at b <;> omega
 refine⟨?_,?_,C⟩
 .rw [<-List.tail_drop,h];rfl
 .rw [zfg a.1 a.2] at h1;grind
structure fX (A B P Q O:List V2):Prop where
 ex:∃ (i j:Nat) (ds:List V2),P=(wv A).drop i/\Q=(wv B).drop j/\O.headD (0,0)=add2 (vc A i) (vc B j)/\vy (wv A) (wv B)=ds++vy P Q/\O=smO (add2 (vc A 0) (vc B 0)) ds/\(ds=[]\/¬ (P=[]/\Q=[]))
def fX.step {B:List V2} {P' Q':List V2} (h:fX A B P Q O) (k:vy P Q=d::vy P' Q') (q:(P=d::P'/\Q'=Q)\/(Q=d::Q'/\P'=P)):
 (∃i j,add2 (O.headD (0,0)) d=add2 (vc A i) (vc B j))/\(¬(P'=[]/\Q'=[])->fX A B P' Q' (add2 (O.headD (0,0)) d::O))/\(P'=[]/\Q'=[]->O=smO (add2 (vc A 0) (vc B 0)) (vy (wv A) (wv B)).dropLast):=by
 obtain⟨i,j,ds,h1,o,n,m,l,t⟩:=h.ex;have c:∃ i' a,P'=(wv A).drop i'/\Q'=(wv B).drop a/\add2 (O.headD (0,0)) d=add2 (vc A i') (vc B a):=by
  rcases q with ⟨b,e2⟩ | ⟨b,e2⟩
  .obtain⟨g,f,_⟩:=Ui (h1.symm.trans b);refine⟨i+1,j,g,e2.trans o,?_⟩;rw [n,f];unfold add2 Yw;grind
  .obtain⟨g,f,_⟩:=Ui (o.symm.trans b);refine⟨i,j+1,e2.trans h1,g,?_⟩;rw [n,f];unfold add2 Yw;grind
 obtain⟨i',a,s,r,p⟩:=c;refine⟨⟨i',a,p⟩,fun e=>⟨i',a,ds++[d],s,r,p,by grind,by rw [zi2,<-l],.inr e⟩,fun⟨b,e2⟩=>?_⟩;rw [m,k,b,e2,XS,List.dropLast_concat,l]
def fX.done {B:List V2} (h:fX A B [] [] O):O=smO (add2 (vc A 0) (vc B 0)) (vy (wv A) (wv B)).dropLast:=by
 obtain⟨i,j,ds,h1,e,d,c,b,a⟩:=h.ex;rcases a with rfl | a
 .rw [c,XS,b];rfl
 grind
theorem fX.len {B:List V2} (h:fX A B P Q O):O.length<=A.length+B.length+1/\P.length<=A.length/\Q.length<=B.length:=by
 obtain⟨i,j,ds,h1,c,k,b,a,g⟩:=h.ex;have e:=MW List.length b;rw [oy,Aw,oy] at e;have f:(wv A).length<=A.length:=by rw [aO];split <;> omega
 have d:(wv B).length<=B.length:=by rw [aO];split <;> omega
 refine⟨by rw [a,ni];omega,?_,?_⟩
 .grind
 grind
end Num.Pl
namespace Go.Proofs
open Go Go.Sv Num Num.Pl Tryz
variable {G:Imm}
variable {l a:List V2} {k j:Nat}
def ZU {α β:Type} {st:Nat} {f:α->List SV} {g:β->α} {h:β->List SV} (e:∀ x,f (g x)=h x) (l:List β):zR st f (l.map g)=zR st h l:=by
 have d:(zR st f (l.map g)).den=(zR st h l).den:=by
  funext I v;refine propext ⟨fun⟨a,c,h1,m,k,j⟩=>⟨a,c,by grind,by grind,by grind,j.imp (fun e=>by grind) fun⟨b,o,e1,e2⟩=>⟨b,o,e1,fun i x hx=>by grind⟩⟩,znu e I v⟩
 cases hs:zR st f (l.map g);simp_all
def zxj {f:FuncId} {caps:List SV} (a:xc prog G f caps (Qi o8 l)) (b:l.length<=2000000000):G0 G 283 [wD f caps] (zR 6 zL l):=by
 have e:ptX (l.map Xs)=Qi o8 l:=by unfold ptX Qi;rw [As];rfl
 have h:=lT (by rw [e];exact a) (by rw [BR];exact b);rw [ZU (h:=zL) GY] at h;exact h
theorem zi4 (h:vE k l):vE (k+k+1) (wv l):=fun d a=>by
 unfold wv at a
 split at a
 .cases a
 .obtain⟨i,hi,rfl⟩:=Bc.1 a;rw [AI] at hi
  exact Xp (h _ (vS C)) (h _ (vS C))
def zp1 {B P Q O:List V2} (h:fX l B P Q O) (c:vE k l) (b:vE j B):vE (k+k+1+(j+j+1)) P/\vE (k+k+1+(j+j+1)) Q:=by
 obtain⟨i,m,ds,h1,e,_⟩:=h.ex;refine⟨fun d a=>?_,fun d a=>?_⟩
 .rw [h1] at a;exact wF (zi4 c d (BU a)) C
 .rw [e] at a;exact wF (zi4 b d (BU a)) C
theorem zC6 [ao G] {b:List V2} (hk:0<k) (hj:0<j) (ha:vE k a) (hb:vE j b) (hs:30000*(k+j)+100000<=cap) (c2:a.length<=1000) (c1:b.length<=1000) (a4:0<a.length) (a3:0<b.length):G0 G 184 [zR 6 zL a,zR 6 zL b] (zR 6 zL (iF a b)):=by
 have o:=Vz a4;have n:=Vz a3;have c5:=zi3 (l:=a);have c4:=zi3 (l:=b);have s:vE k (wM a):=fun y hy=>ha y (Ql hy);have r:vE j (wM b):=fun y hy=>hb y (Ql hy);have c0:(wv (wM a)).length<=2000/\(wv (wM b)).length<=2000:=by rw [aO,aO];exact⟨by grind,by grind⟩
 refine zs func184 ?_;refine zg ?_;refine wO<|zg ?_;refine zo (zb Z Z (lX hk ha C C a4)) ?_;refine zz ?_;refine zo (zb Z Z (lX hj hb C C a3)) ?_;refine zg ?_;refine zi<|zr ?_;(iterate 2 refine zz ?_)
 refine ae.oneB (zZ Z Z Z Z) Z Z Z (fun p=>?_) (fun p=>?_)
 .have R:=MU.1 p;omega
 .refine zg ?_;refine zd (fun b4 a7=>?_) fun _ a7=>?_
  .exact M1 (MU.1 b4) C
  .refine zg ?_;refine zf zsO ?_;refine zo (zb Z Z (zxj (znq s C) C)) ?_;refine zz ?_;refine zf zsO ?_;refine zo (zb Z Z (zxj (znq r C) C)) ?_;refine zg ?_;refine Zq 7 V Z Z<|FB ?_;refine ag (zh rfl rfl rfl (by omega) (by rw [<-WW o,CZ o];rfl)) rfl rfl rfl<|FB ?_;refine ag (zh rfl rfl rfl (by omega) (by rw [<-WW n,CZ n];rfl)) rfl rfl rfl<|FB ?_;refine ag (zb Z Z (jM (s _ (vS o)) (r _ (vS n)) C)) Z Z Z<|ab.nil<|aI Z Z Z Z Z Z Z Z (by intro h;cases h) Z Z Z fun H=>zg ?_;refine ae.buildRow Z Z Z Z Z Z J Z (.inr B) Z V fun b5 Y=>zg ?_;refine zi<|wN<|yL (K:=fun S1=>∃ (q:G3) (O:List V2),O=(smO (add2 (vc (wM a) 0) (vc (wM b) 0)) (vy (wv (wM a)) (wv (wM b))).dropLast)/\O.length<=5000/\zX q O.length/\vE (k+j+1) O/\aC S1 ⟨85,[(8,eqS (rowV q O.length))],[rowE q 48 6 O.length (O.reverse.flatMap zL)],[],(0,false)⟩) ?_ ?_
   .refine zN<|uf (fun (P Q O:List V2) (q:G3)=>⟨_,[(5,zR 6 zL P),(6,zR 6 zL Q),(7,G9 H),(8,eqS (rowV q O.length))],[rowE q 48 6 O.length (O.reverse.flatMap zL),⟨some H,48,zL (O.headD (0,0)),0⟩],[],(0,false)⟩) (fun P Q O q=>fX (wM a) (wM b) P Q O/\zX q O.length/\vE (k+j+1) O) (fun P Q _ _=>P.length+Q.length) (wv (wM a)) (wv (wM b)) [add2 (vc (wM a) 0) (vc (wM b) 0)] (some (b5,1)) ⟨⟨⟨0,0,[],Z,Z,Z,Z,Z,.inl Z⟩⟩,Y,fun y hy=>by rw [AS.1 hy];exact iZ (s _ (vS o)) (r _ (vS n))⟩ (an (aa Z (aa Z (aa Z (aa Z (trivial))))) Z) ?_
    rintro P Q O q ⟨hI,hq,x⟩;have b6:=hI.len;obtain⟨a1,a0⟩:=zp1 hI s r;refine zi<|zg ?_;refine Do (P.length+Q.length) ?_;refine zd ?_ ?_<;>intro _ N
    .have a9:¬ (P=[]/\Q=[]):=by rintro⟨rfl,rfl⟩;simp at N
     have X:=JX a9;refine zg ?_;refine yT fun b9=>?_;refine zM<|yL (K:=fun S1=>∃ (d:V2) (P1 Q1:List V2),vy P Q=d::vy P1 Q1/\((P=d::P1/\Q1=Q)\/(Q=d::Q1/\P1=P))/\Bp d (k+k+1+(j+j+1))/\aC S1 ⟨85,[(9,G9 b9),(5,zR 6 zL P1),(6,zR 6 zL Q1),(7,G9 H),(8,eqS (rowV q O.length))],[⟨some b9,48,zL d,0⟩,rowE q 48 6 O.length (O.reverse.flatMap zL),⟨some H,48,zL (O.headD (0,0)),0⟩],[],(0,false)⟩) ?_ ?_
     .refine yL (K:=fun S1=>∃ c:Bool,c=smB P Q/\aC S1 ⟨85,[(59,zp c),(9,G9 b9),(5,zR 6 zL P),(6,zR 6 zL Q),(7,G9 H),(8,eqS (rowV q O.length))],[⟨some b9,48,[eqS (.bool false),G8,G8,eqS (.bool false),G8,G8],0⟩,rowE q 48 6 O.length (O.reverse.flatMap zL),⟨some H,48,zL (O.headD (0,0)),0⟩],[],(0,false)⟩) ?_ ?_
      .refine wW 17 V ?_;(iterate 2 refine zz ?_);refine ae.oneB (zZ Z Z Z Z) Z Z Z (fun g=>?_) (fun g=>?_)
       .have M:=MU.1 g;refine zg ?_;exact⟨true,by grind,MM⟩
       .have M:=MT.1 g;have a8:0<Q.length:=by have:=MT.1 g;omega
        iterate 3 refine zz ?_
        refine ae.oneB (zZ Z Z Z Z) (gB Z Z Z Z) Z Z (fun A=>?_) (fun A=>?_)
        .have L:=MO A;obtain⟨d,P2,rfl⟩:=Et (l:=P) (by omega);obtain⟨e,Q2,rfl⟩:=Et a8;refine zg ?_;refine zo (zh rfl rfl rfl (by omega) rfl) ?_;refine zg ?_;refine zo (zh rfl rfl rfl (by omega) rfl) ?_;refine zz ?_;refine zo (zb Z Z (zyU (a1 d (Dv ..)) (a0 e (Dv ..)) C)) ?_;refine zg ?_;exact⟨_,Z,MM⟩
        .have L:=MP A;refine zg ?_;exact⟨false,by grind,MM⟩
      .rintro S1 ⟨c,hc,w⟩;refine xq w<|xK ?_ ?_<;>intro F
       .obtain⟨d,P2,hP,t⟩:=X.1 (hc.symm.trans F);subst hP;refine vA 6 [5] _ V (.cons _ (.cons_cons _ (.cons_cons _ .slnil)))<|ab.one (zC Z Z) Z Z Z V<|ab.one (zh rfl rfl rfl (by omega) (y:=d) rfl) rfl rfl rfl (by rfl)<|FB ?_;refine ag ((AX (zR 6 zL P2)<|(xU (m:=0) rfl rfl (.inr ⟨_,_,rfl,rfl⟩) (.inl ⟨rfl,rfl,rfl⟩) (.inl rfl) (by simp) (Af _)).sub (fun I v S=>by rw [B3] at S;exact S))) rfl rfl rfl ?_
        refine FB ?_;refine .loc1n 0 (xf rfl rfl rfl rfl (by simp)) rfl rfl rfl ?_;rintro s1 H1 ⟨rfl,rfl⟩;refine⟨(.cons _ (.cons_cons _ (.cons_cons _ .slnil))),?_⟩;refine ab.nil<|zg ?_;exact⟨d,P2,Q,t,.inl ⟨Z,Z⟩,a1 d (Dv ..),MM⟩
       .obtain⟨d,Q2,hQ,t⟩:=X.2 (hc.symm.trans F);subst hQ;refine vA 6 [5] _ V (.cons _ (.cons_cons _ (.cons_cons _ .slnil)))<|ab.one (zC Z Z) Z Z Z V<|ab.one (zh rfl rfl rfl (by omega) (y:=d) rfl) rfl rfl rfl (by rfl)<|FB ?_;refine ag ((AX (zR 6 zL Q2)<|(xU (m:=0) rfl rfl (.inr ⟨_,_,rfl,rfl⟩) (.inl ⟨rfl,rfl,rfl⟩) (.inl rfl) (by simp) (Af _)).sub (fun I v S=>by rw [B3] at S;exact S))) rfl rfl rfl ?_
        refine FB ?_;refine .loc1n 0 (xf rfl rfl rfl rfl (by simp)) rfl rfl rfl ?_;rintro s1 H1 ⟨rfl,rfl⟩;refine⟨(.cons _ (.cons_cons _ (.cons_cons _ .slnil))),?_⟩;refine ab.nil<|zg ?_;exact⟨d,P,Q2,t,.inr ⟨Z,Z⟩,a0 d (Dv ..),MM⟩
     .rintro S1 ⟨d,P1,Q1,t,u,b0,w⟩;refine xq w ?_;have E:=hI.step t u;have b3:Bp (O.headD (0,0)) (k+j+1):=by
       obtain⟨i,m,ds,_,_,h3,_⟩:=hI.ex;rw [h3];exact iZ (s _ (vS o)) (r _ (vS n))
      have a2:Bp (add2 (O.headD (0,0)) d) (k+j+1):=by
       obtain⟨i,m,h3⟩:=E.1;rw [h3];exact iZ (s _ (vS o)) (r _ (vS n))
      have b8:P1.length+Q1.length+1=P.length+Q.length:=by
       rcases u with ⟨e1,e2⟩ | ⟨e1,e2⟩ <;> (grind)
      refine zg ?_;refine zo (zb Z Z (jM b3 b0 C)) ?_;refine Fh ?_;refine Do (P1.length+Q1.length) ?_;refine zd ?_ ?_<;>intro D a6
      .have b2:P1=[]:=Aa (by omega);have b1:Q1=[]:=Aa (by omega);exact zH (zF (show List.Sublist [_] [_,_,_] from .cons _ (.cons_cons _ (.cons _ .slnil))))<|zK ⟨q,O,E.2.2 ⟨b2,b1⟩,by omega,hq,x,MM⟩
      .have W:¬ (P1=[]/\Q1=[]):=by rintro⟨rfl,rfl⟩;exact M1 D (by simp)
       refine zH (zF (B5 _ _))<|zg ?_;refine zo (zy Z Z J Z B Z Z) ?_;refine ae.append 0 Z Z Z Z Z Z Z Z hq (by rw [yG (st:=6) (fun _=>rfl),Em]) (fun z hz=>by rw [AS.1 hz];rfl) (by unfold yE;simp;omega) (by unfold yE;simp;omega) fun a5 U=>zg ?_
       exact⟨P1,Q1,add2 (O.headD (0,0)) d::O,a5,⟨E.2.1 W,U,fun y hy=>(DZ.1 hy).elim (fun e=>e▸a2) (x y)⟩,by omega,MN (by rw [List.reverse_cons,CB];rfl)⟩
    .refine Fs (zF (show List.Sublist [_] [_,_] from .cons_cons _ (.cons _ .slnil))) ?_;exact⟨q,O,by obtain⟨rfl,rfl⟩:P=[]/\Q=[]:=⟨Aa C,Aa C⟩;exact hI.done,by omega,hq,x,MM⟩
   .rintro S1 ⟨q,O,hO,c3,hq,x,w⟩;refine xq w<|Fs (yF 0 8 rfl rfl hq (l:=O.reverse) (f:=zL) (Em ..) rfl (fun _ _=>rfl) (by unfold yE;omega)) ?_;refine Fi (zb rfl rfl (lX (k:=k+j+1) (by omega) (fun y hy=>x y (Eg.1 hy)) (by omega) (by rw [Em];omega) (by rw [Em,hO,ni];omega))) ?_
    exact zj (zu (e:=by rw [mB o n,hO]))
def zyX [ao G] {t:T3} (e:0<k) (g:0<j) (b:vE j a) (ht:vE k (Zu t)) (c:30000*(k+j)+100000<=cap) (d:a.length<=1000) (h:0<a.length):G0 G 116 [zR 6 zL a,zl (vR t)] (zR 6 zL (xh a t)):=by
 refine Fq func116 ?_;refine Fw 5 ?_;refine Fi ((zba (l:=Zu t) (f:=zL) Z Z Z (by show 3<=yE;decide) Z GX)) ?_;refine Fk (zBh b C C) ?_;refine Fl Z Z (zC6 e g ht (fun y hy=>by obtain⟨z,hz,rfl⟩:=Bc.1 hy;exact zyT (b z hz)) c (by show 3<=1000;omega) (by grind) (by show 0<3;omega) (by grind)) ?_;exact Hj
def zv8 [ao G] {ts:List T3} (hk:0<k) (hj:0<j) (hr:vE j a) (ht:∀ t∈ts,vE k (Zu t)) (hs:30000*(k+j)+100000<=cap) (hn:a.length<=1000) (h0:0<a.length) (hm:ts.length<=1000000):G0 G 80 [zR 6 zL a,zR 18 vR ts] (zR 1 (fun l:List V2=>[zR 6 zL l]) (ts.map (xh a))):=by
 refine zs func80 ?_;refine zg ?_;refine zi<|Fs (yI 29 1) ?_;have hys:(ts.map (xh a)).length=ts.length:=BR _;refine xz (fun (m:Nat) (q:G3)=>⟨_,[(9,ML m),(8,MK ts.length),(7,zR 18 vR ts),(4,eqS (rowV q m)),(0,zR 6 zL a)],[rowE q 29 1 m (((ts.map (xh a)).take m).flatMap (fun l:List V2=>[zR 6 zL l]))],[],(0,false)⟩) (fun m q=>m<=ts.length/\zX q m) (fun m _=>ts.length-m) 0 none ⟨BL _,Z⟩ MM ?_;rintro m q ⟨hm,hq⟩;refine zr<|zz ?_;refine zM<|zi<|xK ?_ ?_<;>intro h10
 .have k10:=MO h10;obtain⟨x,hx⟩:=FU ts m;have hxm:=AE hx;have hms:=yp (l:=ts.map (xh a)) (by rw [Ba,hx];rfl);have hel:((ts.map (xh a)).take m).length=m:=by rw [BG,hys];omega
  refine zB<|zi<|Fh ?_;refine yT fun b6=>?_;refine zw ?_;refine zM<|zJ<|zz ?_;refine zo ((AX (zR 6 zL a)<|zC Z Z)) ?_;refine zo ((AX (zl (vR x))<|zE 0 Z Z Z V Z)) ?_;refine Fk (zyX hk hj hr (ht x hxm) hs hn h0) ?_;refine ae.append 1 rfl rfl rfl rfl rfl rfl rfl rfl hq (by rw [yG (st:=1) (fun _=>rfl),hel]) (fun z hz=>by grind) (by unfold yE;grind) (by unfold yE;grind) fun q18 hq18=>zz ?_;refine zM<|zH (zF (B5 _ _))<|zJ<|Do (m+1) ?_
  exact⟨m+1,q18,⟨by omega,hq18⟩,by omega,MN (by rw [hms,CB];rfl)⟩
 .have k10:=MP h10;obtain rfl:m=ts.length:=by omega
  refine zK<|zH (yF 0 4 rfl rfl hq hys (by rw [BC (by omega)]) (fun _ _=>rfl) (by unfold yE;omega))<|zg ?_;refine zj ?_
  exact⟨_,[],.one (.tmp Z),BZ _,Z,Z⟩
end Go.Proofs
namespace Go.Sv
open Go Go.RowKit Go.Proofs
def XL {P:Program} {G:Imm} {o:Oper} {H:HL} {g:Ha} {t n st:Nat} [A:bI P t n st] {x d:Operand} {k:IntKind} {i:Nat} {cs ds:List SV} (hop:o.op= .indexAddr t x d) (hx:yW g x=some (yo cs)) (hi:yW g d=some (ze k i)) (h1:i<n) (y:cs.drop (i*st)=ds):OpOK P G H o g (yo ds):=
 yy GW fun I W a _ _ m=>by
  obtain⟨b,p,r,c,hI,z⟩:=m.get GB hx;have f:a.eval d= .int k i:=m.get GB hi;obtain⟨e,u,v⟩:=A.h;obtain⟨j,w,l⟩:=DB.1 v;have D:(sizeOf e).run P W= .ok st W:=by simp [sizeOf,typeInfo,w,l]
  refine⟨.pointer (some ⟨b,p+i*st,none⟩),?_,b,p+i*st,Z,c,hI,fun q s hq=>?_⟩
  .have hin:0<=(i:Int)/\(i:Int)<n:=by omega
   have:(Instr.indexAt t (.pointer (some ⟨b,p,none⟩)) (.int k i)).run P W= .ok (.pointer (some ⟨b,p+i*st,none⟩)) W:=by
    simp [Instr.indexAt,run_underlying u,Instr.sureAddr,asIntOf,hin,D,Addr.add,h1]
   simp [execOp,hop,r,f,this]
  grind
end Go.Sv
namespace Go.Proofs
open Go Go.Sv Num Num.Pl
variable {G:Imm}
variable {k:Nat} {t:T3} {p:V2}
def lW [ao G] {q r:V2} (c:0<k) (hp:Bp p k) (hq:Bp q k) (a:Bp r k) (b:800*k+30000<=cap):G0 G 280 [zl (zL p),zl (zL q),zl (zL r)] (MK (Uo p q r)):=by
 have:=hp.x;have:=hp.y;have:=hq.x;have:=hq.y;have:=a.x;have:=a.y;exact zkQ C
def iq (t:T3) (i:Nat):V2:=if i=0 then t.1 else if i=1 then t.2.1 else t.2.2
def lE (t:T3) (p:V2) (g:Nat):Int:=if g=0 then 1 else if g=1 then min (Uo t.1 t.2.1 p) 1 else if g=2 then min (Uo t.2.1 t.2.2 p) (min (Uo t.1 t.2.1 p) 1) else iX t p
def zp2 {g:Nat} (h:g<3):min (Uo (iq t g) (iq t ((g+1)%3)) p) (lE t p g)=lE t p (g+1):=by
 rcases (C:g=0\/g=1\/g=2) with rfl | rfl | rfl <;> rfl
theorem zsV {i:Nat}:iq t i∈Zu t:=by unfold iq Zu;grind
def znv {i:Nat} (h:i<3):((vR t).drop (i*6)).take 6=zL (iq t i):=by
 rcases (C:i=0\/i=1\/i=2) with rfl | rfl | rfl <;> rfl
abbrev pn (l:List V2) (i:Nat):List SV:=[ze .i64 (i:Nat),zl (vR (XJ l i))]
def zv9 {l:List V2} {i:Nat} (h:i<l.length):(Qi (pn l) (List.range l.length))[i]? =some (pn l i):=vk (Cx h)
def mA [ao G] (b:0<k) (ht:vE k (Zu t)) (a:800*k+30000<=cap):G0 G 181 [zl (vR t)] (MK (Qe t)):=by
 refine Fq Tryz.func181 ?_;refine Fi ((XL (i:=0) Z Z Z J Z)) ?_;refine Fi ((XL (i:=1) Z Z Z J Z)) ?_;refine Fi ((XL (i:=2) Z Z Z J Z)) ?_;refine Fl Z Z (lW b (ht _ (by simp [Zu])) (ht _ (by simp [Zu])) (ht _ (by simp [Zu])) a) ?_;exact Hj
theorem zC8 [ao G] (c:0<k) (ht:vE k (Zu t)) (hp:Bp p k) (b:800*k+30000<=cap):G0 G 281 [zl (vR t),zl (zL p)] (MK (iX t p)):=by
 refine Fq Tryz.func281 ?_;refine Qj [8,2,3] (fun (g:Nat) z=>(9,ML g)::(5,MK (lE t p g))::z) (fun g=>[]) (fun g=>g<=3) (fun g=>3-g) 0 (BL _) ?_;intro g d;refine Fh ?_;refine Fo ?_ ?_<;>intro _ a
 .refine Fi ((Qh Tryz.underlying180 Z Z Z (by omega) (znv (by omega)))) ?_;refine Fm fun f=>?_;refine wW 11 V<|zg ?_;refine zA ?_;refine Fi ((wt Z Z Z (by omega) (by omega)).sub (zI (n:=(((g+1)%3:Nat):Int)) B)) ?_;refine zo ((XL Z Z Z (Be _ J) Z)) ?_;refine Fi ((AX (zl (zL (iq t ((g+1)%3))))<|zG Z Z (znv (Be _ J)) Z)) ?_;refine zf (lW c (ht _ zsV) (ht _ zsV) hp b) ?_;refine zz ?_;refine zo ((VH Z Z Z).sub (zI (zp2 C))) ?_;refine zz ?_;refine zM<|zM<|Fv ?_;refine Do (g+1) ?_
  exact⟨g+1,(by omega:g+1<=3),by omega,MM⟩
 .exact zj (zu (e:=by rw [(C:g=3)];rfl))
variable {l:List V2} {i:Nat}
def jD (l:List V2) (i k:Nat):Bool:=decide (k=i)||decide (k=(i+l.length-1)%l.length)||decide (k=(i+1)%l.length)||decide (iX (XJ l i) (vc l k)<0)
def Je (l:List V2) (i g:Nat):Bool:=decide (Qe (XJ l i)=1)&&(List.range g).all (jD l i)
theorem o0 (l:List V2) (i g:Nat):Je l i (g+1)=(Je l i g&&jD l i g):=by unfold Je;grind
def zi5 (a:3<=l.length) (hi:i<l.length):Je l i l.length=fk l i:=by
 unfold Je fk;rw [MR a,MR hi];rfl
theorem zlO {g:Nat} (b:3<=l.length) (hi:i<l.length) (a:g<=l.length) (h:Je l i g=false):fk l i=false:=by
 rw [<-zi5 b hi];have:∀ m,g<=m->Je l i m=false:=by
  intro m c
  induction m with
  | zero=>grind
  | succ m ih=>
   by_cases e:g=m+1
   . grind
   . rw [o0,ih (by omega)];rfl
 grind
def kU {P:V2->Prop} (h:∀ p∈l,P p) (a:0<l.length):∀ p∈Zu (XJ l i),P p:=fun p hp=>by
 unfold XJ Zu at hp
 simp only [DZ,D6,or_false] at hp
 rcases hp with rfl | rfl | rfl <;> exact h _ (vS a)
variable {G:Imm}
set_option maxHeartbeats 2000000 in
theorem zC9 [ao G] {l:List V2} {i k:Nat} (hk:0<k) (hl:vE k l) (hs:800*k+30000<=cap) (h3:3<=l.length) (hi:i<l.length) (hn:l.length<=1000000):G0 G 183 [zR 6 zL l,ML i] (zp (fk l i)):=by
 refine zs Tryz.func183 ?_;apply zr;refine zz ?_;apply zM;refine wO<|zi ?_;apply zr;(iterate 2 refine zz ?_);refine ae.oneB (zZ rfl rfl rfl rfl) rfl rfl rfl (fun h1x2=>?_) (fun h1x2=>?_)
 .have k1x2:=MO h1x2;exact M1 (MO h1x2) (by omega)
 .have k1x2:=MP h1x2
  iterate 3 refine zz ?_
  refine ae.oneB (xl rfl rfl rfl) rfl rfl rfl (fun h1x6=>?_) (fun h1x6=>?_)
  .have k1x6:=MO h1x6;exact M1 (MO h1x6) (by omega)
  .have k1x6:=MP h1x6;(iterate 6 refine zz ?_);apply zM;refine xK ?_ ?_<;>intro h23
   .have k23:=MO h23;exact M1 (MO h23) (by omega)
   .have k23:=MP h23;have hm1:((i+l.length-1)%l.length)<l.length:=Be _ (by omega);have hm2:((i+1)%l.length)<l.length:=Be _ (by omega);refine zB<|zU 15 (by kernel_rfl) ?_;(iterate 3 refine zz ?_);refine za ((i+l.length:Nat):Int) ?_;refine za ((i+l.length-1:Nat):Int) ?_;(iterate 2 refine zz ?_);refine zo ((wt rfl rfl rfl (by omega) (by omega)).sub (zI (n:=((((i+l.length-1)%l.length):Nat):Int)) (Dc _ _).symm)) ?_;refine zz ?_;refine za ((i+1:Nat):Int) ?_;(iterate 2 refine zz ?_);refine zo ((wt rfl rfl rfl (by omega) (by omega)).sub (zI (n:=((((i+1)%l.length):Nat):Int)) (Dc _ _).symm)) ?_;(iterate 2 refine zz ?_);(iterate 2 apply zM);refine Zq 13 (by kernel_rfl) rfl rfl ?_;(iterate 2 refine ag (zC rfl rfl) rfl rfl rfl ?_);refine ag (zh rfl rfl rfl (by omega) (y:=vc l (i+l.length-1)) (YV (by omega))) rfl rfl rfl<|ag ((AX (zl (zL (vc l (i+l.length-1))))<|zG rfl rfl rfl rfl)) rfl rfl rfl ?_;(iterate 2 refine ag (zC rfl rfl) rfl rfl rfl ?_);refine ag (zh rfl rfl rfl (by omega) (y:=vc l i) (by rw [BQ,<-WW hi,CZ hi])) rfl rfl rfl<|ag ((AX (zl (zL (vc l i)))<|zG rfl rfl rfl rfl)) rfl rfl rfl ?_;(iterate 2 refine ag (zC rfl rfl) rfl rfl rfl ?_);refine ag (zh rfl rfl rfl (by omega) (y:=vc l (i+1)) (YV (by omega))) rfl rfl rfl<|ag ((AX (zl (zL (vc l (i+1))))<|zG rfl rfl rfl rfl)) rfl rfl rfl<|ag ((AX (zl (vR (XJ l i)))<|yQ rfl rfl (by kernel_rfl))) rfl rfl rfl<|ab.nil<|aI rfl rfl rfl rfl rfl rfl rfl rfl (by intro h;cases h) rfl rfl rfl fun b7=>zx ?_;refine zo ((AX (zl (vR (XJ l i)))<|zE 0 rfl rfl rfl (by kernel_rfl) rfl)) ?_;refine zo (zb rfl rfl (mA hk (kU hl (by omega)) hs)) ?_;refine zo ((zZ rfl rfl rfl rfl).sub (yz (c:=Je l i 0) (by unfold Je;rw [DR];simp))) ?_;refine zz ?_;apply zM;apply zi;refine wN<|yL (K:=fun S1=>∃ w:Bool,w=fk l i/\aC S1 ⟨83,[(8,zp w)],[⟨some b7,180,vR (XJ l i),0⟩],[],(0,false)⟩) ?_ ?_
    .apply zr;(iterate 3 refine zz ?_);apply zM;refine zN<|xi (γ:=Nat) (fun g=>⟨_,[(55,ML g),(54,MK l.length),(53,zR 6 zL l),(8,zp (Je l i g)),(7,G9 b7),(0,zR 6 zL l),(1,ML i),(5,MK (((i+l.length-1)%l.length):Nat)),(6,MK (((i+1)%l.length):Nat))],[⟨some b7,180,vR (XJ l i),0⟩],[],(0,false)⟩) (fun g=>g<=l.length) (fun g=>l.length-g) 0 (BL _) MM ?_;intro g hg;apply zr;refine zz ?_;apply zM;apply zi;refine xK ?_ ?_<;>intro h56
     .have k56:=MO h56;have hg1:g<l.length:=by omega
      refine zB<|zi ?_;refine zN<|zr ?_;refine zz ?_;refine zo (zh rfl rfl rfl (by omega) (y:=vc l g) (by rw [BQ,<-WW hg1,CZ hg1])) ?_;refine zo ((AX (zl (zL (vc l g)))<|zG rfl rfl rfl rfl)) ?_;refine yT fun b10=>?_;refine zz ?_;refine zw ?_;apply zM;apply zi;refine zN<|zr ?_;(iterate 3 refine zz ?_);apply zM;refine xK ?_ ?_<;>intro h60
      .have hno:Je l i g=false:=by simpa using h60
       exact zH (zF (B5 _ _))<|zK ⟨_,(by rw [hno];exact (zlO h3 hi hg hno).symm),an (aa rfl trivial) rfl⟩
      .have hyes:Je l i g=true:=by simpa using h60
       refine yL (K:=fun S1=>∃ c:Bool,c=(decide (g=i)||decide (g=((i+l.length-1)%l.length))||decide (g=((i+1)%l.length)))/\aC S1 ⟨83,[(63,zp c),(10,G9 b10),(9,ML g),(55,ML g),(54,MK l.length),(53,zR 6 zL l),(8,zp (Je l i g)),(7,G9 b7),(0,zR 6 zL l),(1,ML i),(5,MK (((i+l.length-1)%l.length):Nat)),(6,MK (((i+1)%l.length):Nat))],[⟨some b10,48,zL (vc l g),0⟩,⟨some b7,180,vR (XJ l i),0⟩],[],(0,false)⟩) ?_ ?_
       .apply zJ;(iterate 2 refine zz ?_);refine ae.oneB (zZ rfl rfl rfl rfl) rfl rfl rfl (fun h10x2=>?_) (fun h10x2=>?_)
        .have k10x2:=MU.1 h10x2;refine zz ?_;(iterate 3 refine zq ?_);(iterate 2 refine zz ?_);(iterate 3 refine zq ?_);(iterate 2 refine zz ?_);apply zM;exact⟨true,by rw [MR (show g=i by have:=MU.1 h10x2;omega)];rfl,MM⟩
        .have k10x2:=MT.1 h10x2
         iterate 4 refine zz ?_
         refine ae.oneB (xl rfl rfl rfl) rfl rfl rfl (fun h10x7=>?_) (fun h10x7=>?_)
         .have k10x7:=MU.1 h10x7;refine zz ?_;(iterate 3 refine zq ?_);(iterate 2 refine zz ?_);apply zM;exact⟨true,by rw [MR (show g=((i+l.length-1)%l.length) by have:=MU.1 h10x7;omega),Bool.or_true];rfl,MM⟩
         .have k10x7:=MT.1 h10x7;(iterate 6 refine zz ?_);apply zM;exact⟨_,by rw [MS (show ¬g=i by have:=MT.1 h10x2;omega),MS (show ¬g=((i+l.length-1)%l.length) by have:=MT.1 h10x7;omega),AF,AF,DR,MU,MQ];omega,an (aa rfl (aa rfl (aa rfl (aa rfl (aa rfl (aa rfl (aa rfl (aa rfl (aa rfl (aa rfl (aa rfl (aa rfl (trivial))))))))))))) rfl⟩
       .rintro S1 ⟨c,hc,hS1⟩;refine xq hS1<|xK ?_ ?_<;>intro h63
        .have hek:Je l i (g+1)=Je l i g:=by rw [o0,hyes,C5];unfold jD;rw [<-hc,h63];rfl
         refine zK<|zH (zF (B5 _ _))<|zJ<|za ((g+1:Nat):Int) ?_;refine zz ?_;apply zM;exact⟨g+1,(by omega:g+1<=l.length),by omega,by rw [hek];exact MM⟩
        .have hek:Je l i (g+1)=decide (iX (XJ l i) (vc l g)<0):=by rw [o0,hyes,C5];unfold jD;rw [<-hc,h63,AF]
         refine zB<|zJ<|zo ((AX (zl (vR (XJ l i)))<|zE 1 rfl rfl rfl (by kernel_rfl) rfl)) ?_;refine zo ((AX (zl (zL (vc l g)))<|zE 0 rfl rfl rfl (by kernel_rfl) rfl)) ?_;refine zo (zb rfl rfl (zC8 hk (kU hl (by omega)) (hl _ (vS (by omega))) hs)) ?_;(iterate 2 refine zz ?_);apply zM;refine zH (zF (B5 _ _))<|zJ<|za ((g+1:Nat):Int) ?_;refine zz ?_;apply zM
         exact⟨g+1,(by omega:g+1<=l.length),by omega,by rw [hek];exact MM⟩
     .have k56:=MP h56;exact zK ⟨_,by rw [show g=l.length by omega];exact zi5 h3 hi,an (aa rfl trivial) rfl⟩
    .rintro S1 ⟨w,hw,hS1⟩;refine xq hS1<|zr ?_;(iterate 2 refine zz ?_);apply zM;exact zj ⟨_,[],.one (.tmp rfl),BZ _,by rw [hw],rfl⟩
def zfj (l:List V2):∀ g:Nat,-1<=Zc l g/\Zc l g<g/\(0<g->0<=Zc l g)
 | 0=>by unfold Zc;omega
 | g+1=>by
  obtain⟨h1,b,a⟩:=zfj l g;unfold Zc;omega
def znw {xs:List RawP} {i:Nat} {p:RawP} (h:xs[i]? =some p):(xR xs).getD i (0,0)=pv p:=by grind
variable {G:Imm}
variable {xs:List RawP} {k:Nat}
def zy0 [ao G] (t:0<k) (o:∀ p∈xs,wL k p) (s:400*k+21000<=cap) (w:xs.length<=1000000):G0 G 278 [zR 6 pc xs] (MK (ko (xR xs))):=by
 refine Fq Tryz.func278 ?_;refine xi (fun g=>⟨_,[(8,ML g),(7,MK xs.length),(6,zR 6 pc xs),(3,MK (Zc (xR xs) g)),(0,zR 6 pc xs)],[],[],(0,false)⟩) (fun g=>g<=xs.length) (fun g=>xs.length-g) 0 (BL _) MM ?_;intro g y;refine Fh ?_;refine Fo ?_ ?_<;>intro _ r
 .have l:g<xs.length:=by omega
  obtain⟨x,hx⟩:∃ x,xs[g]? =some x:=⟨_,AL l⟩;have j:=o x (AE hx);have u:=zfj (xR xs) g;have i:=znw hx;refine Fh ?_;refine yT fun v=>?_;refine Fh ?_;refine yL (K:=fun S1=>∃ c:Bool,c=decide (Zc (xR xs) g<0\/vN ((xR xs).getD g (0,0)) ((xR xs).getD (Zc (xR xs) g).toNat (0,0))<0)/\aC S1 ⟨27,[(23,zp c),(4,ML g),(8,ML g),(7,MK xs.length),(6,zR 6 pc xs),(3,MK (Zc (xR xs) g)),(0,zR 6 pc xs)],[⟨some v,48,pc x,0⟩],[],(0,false)⟩) ?_ ?_
  .refine wW 11 V<|zz ?_;refine FE ?_ ?_<;>intro _ b
   .exact⟨true,(MR (.inl C)).symm,MM⟩
   .obtain⟨z,n⟩:=FU xs ((Zc (xR xs) g).toNat);have f:=o z (AE n);have d:=znw n;refine Fh ?_;refine Fk (gc t j f s) ?_;exact⟨_,by rw [i,d,decide_eq_decide];omega,an (aa Z (aa Z (aa Z (aa Z (aa Z (aa Z (aa Z (trivial)))))))) Z⟩
  .rintro S1 ⟨c,q,m⟩;refine xq m<|xK ?_ ?_<;>intro a
   .refine Fv ?_;refine Do (g+1) ?_;exact⟨g+1,(by omega:g+1<=xs.length),by omega,by rw [show Zc (xR xs) (g+1)=g from MX (MO (q.symm.trans a))];exact MM⟩
   .refine Fv ?_;refine Do (g+1) ?_;exact⟨g+1,(by omega:g+1<=xs.length),by omega,by rw [show Zc (xR xs) (g+1)=Zc (xR xs) g from MY (MP (q.symm.trans a))];exact MM⟩
 .exact zj (zu (e:=MW (ze .i64) (by unfold ko;grind)))
def zsW [ao G] (f:0<k) (e:∀ p∈xs,wL k p) (i:100*(xs.length*(4*k+2)+4*k+2)+400*k+30000<=cap) (j:xs.length<=1000000) (l:0<xs.length):CallSpec Tryz.prog G 179 [zR 6 pc xs] [] (fun v H1=>∃ bb cc,zX (some (bb,cc)) xs.length/\v=eqS (rowV (some (bb,cc)) xs.length)/\H1=[rowE (some (bb,cc)) 48 6 xs.length ((uh (xR xs)).flatMap zL)]):=by
 refine zs Tryz.func179 ?_;refine zg ?_;refine yL (K:=fun S1=>∃ ys:List RawP,ys.length=xs.length/\(∀p∈ys,wL k p)/\(xR ys=if vK (gK (xR xs)) 0<0 then eF (xR xs) else xR xs)/\aC S1 ⟨13,[(0,zR 6 pc ys)],[],[],(0,false)⟩) ?_ ?_
 .refine zg ?_;refine Fk (zrF f e C) ?_;refine Fo ?_ ?_<;>intro _ b
  .refine Fl Z Z (zpS C) ?_;exact⟨eF xs,KY xs,fun p hp=>e p (ziO.1 hp),by rw [MX b];exact zsw pv xs,MM⟩
  .exact⟨xs,Z,e,by grind,MM⟩
 .rintro S1 ⟨ys,d,a,c,g⟩;refine xq g<|zg ?_;refine Fk (zy0 f a C C) ?_;refine Fl Z Z (ziQ C) ?_;refine ah [] [] [] Z Z Z Z (zsQ (xs:=Wj ys (ko (xR ys)) false) f (fun p hp=>a p (zfb hp)) C (by rw [Yl];unfold cap;omega) (by rw [Yl];omega)) Z Z Z ?_
  rintro h H12 ⟨bb,cc,hq,rfl,rfl⟩;rw [Yl,d] at hq ⊢
  refine zg ?_;exact zj ⟨_,[_],.one (.tmp Z),Dd _,⟨bb,cc,hq,Z,by rw [zpO,(FV:ys.map pv=xR ys),c];rfl⟩⟩
def inN (l:List V2) (p:V2) (g:Nat):Bool:=decide (3<=l.length)&&(List.range g).all fun i=>decide (Uo (vc l i) (vc l (i+1)) p=1)
theorem n5 (l:List V2) (p:V2) (g:Nat):inN l p (g+1)=(inN l p g&&decide (Uo (vc l g) (vc l (g+1)) p=1)):=by unfold inN;grind
def znx (l:List V2) (p:V2):inN l p l.length=fL l p:=by unfold inN fL uc;rw [List.all_map];rfl
theorem zp3 {l:List V2} {p:V2} {g:Nat} (a:g<=l.length) (h:inN l p g=false):fL l p=false:=by
 rw [<-znx];have:∀ m,g<=m->inN l p m=false:=by
  intro m b
  induction m with
  | zero=>grind
  | succ m ih=>
   by_cases e:g=m+1
   . grind
   . rw [n5,ih (by omega)];rfl
 grind
variable {G:Imm}
theorem hin [ao G] {l:List V2} {p:V2} {k:Nat} (i:0<k) (f:vE k l) (hp:Bp p k) (h:800*k+30000<=cap) (m:l.length<=1000000):G0 G 412 [zR 6 zL l,zl (zL p)] (zp (fL l p)):=by
 refine zs Tryz.func412 ?_;refine zg ?_;refine wO<|zr ?_;(iterate 2 refine zz ?_);refine zo ((zZ Z Z Z Z).sub (yz (c:=inN l p 0) (by unfold inN;grind))) ?_;refine zg ?_;refine zi<|wN<|yL (K:=fun S1=>∃ w:Bool,w=fL l p/\aC S1 ⟨37,[(5,zp w)],[],[],(0,false)⟩) ?_ ?_
 .refine zg ?_;refine Qj [12,11,0,3] (fun (g:Nat) z=>(13,ML g)::(5,zp (inN l p g))::z) (fun g=>[]) (fun g=>g<=l.length) (fun g=>l.length-g) 0 (BL _) ?_;intro g o;refine Fh ?_;refine Fo ?_ ?_<;>intro _ e
  .have hg1:g<l.length:=by omega
   refine Fi (zh Z Z Z (by omega) Gd) ?_;refine yT fun j=>?_;refine Fh ?_;refine yL (K:=fun S1=>aC S1 ⟨37,[(5,zp (inN l p (g+1))),(13,ML g),(12,MK l.length),(11,zR 6 zL l),(0,zR 6 zL l),(3,yo (zL p))],[⟨some j,48,zL (vc l g),0⟩],[],(0,false)⟩) ?_ ?_
   .refine wW 16 V<|FF ?_ ?_<;>intro a
    .refine Do (g+1) ?_;refine Fi ((wt Z Z Z (by omega) (by omega)).sub (zI (n:=(((g+1)%l.length:Nat):Int)) (Dc _ _).symm)) ?_;refine Fi (zh Z Z Z (by omega) (YV (by omega))) ?_;refine Fl Z Z (lW i (f _ (vS C)) (f _ (vS C)) hp h) ?_;exact an (xm Z (MW zp (by rw [n5,a,C5,DR];simp)) zk) Z
    .exact an (xm Z (MW zp (by rw [n5,a,DK])) zk) Z
   .intro S1 hS1;refine xq hS1<|zg ?_;refine xK ?_ ?_<;>intro d
    .have b:inN l p (g+1)=false:=by simpa using d
     refine Fv ?_;exact⟨_,by rw [b];exact (zp3 C b).symm,aA (aa Z trivial)⟩
    .refine Fv ?_;refine Do (g+1) ?_;exact⟨g+1,(by omega:g+1<=l.length),by omega,MM⟩
  .exact⟨_,by rw [(C:g=l.length)];exact znx l p,aA (aa Z trivial)⟩
 .rintro S1 ⟨w,hw,hS1⟩;exact I7
variable {lo hi x:Rat} {k j:Nat}
def zBl [ao G] (h1:Bq lo k) (f:Bq hi k) (e:Bq x j) (b:lo<hi) (d:1000*(k+j)+50000<=cap):G0 G 311 [zl (zP lo),zl (zP hi),zl (zP x)] (yR [zl (zP ((x-lo)/(hi-lo))),zp true]):=by
 refine Fq Tryz.func311 ?_;refine Fm fun h=>?_;refine Fl Z Z (xo C) ?_;refine Fo (fun c a=>?_) fun _ a=>?_
 .exact M1 (MO c) (by have:=vG.2 b;omega)
 .refine Zq 10 V Z Z<|FB ?_;refine FD (zb Z Z (uH C)) ?_;refine FD (zb Z Z (uH C)) ?_;refine FD (zb Z Z (oR C)) ?_;exact ab.nil<|aI Z Z Z Z Z Z Z Z GL Z Z Z fun g=>Lk
def zwb [ao G] {v:Rat×Rat} {t:Rat} (a:Bl k v) (ht:Bq t j) (b:1000*(k+j)+50000<=cap):G0 G 312 [zl (Vc v),zl (zP t)] (zl (zP (v.1+t*(v.2-v.1)))):=by
 have h1:=a.1;have c:=a.2;refine Fq Tryz.func312 ?_;refine Fm fun d=>?_;refine Fw 12 ?_;refine Fl Z Z (uH C) ?_;refine Fl Z Z (We C) ?_;refine Fl Z Z (vM C) ?_;exact Hj
def zi6 [ao G] {ls:G2} (h1:Bq lo k) (t:Bq hi k) (s:Bq x j) (h:lo<hi) (r:∀ v∈ls,Bl k v) (y:5000*(k+j)+60000<=cap) (A:ls.length<=1000000):G0 G 204 [zl (zP lo),zl (zP hi),zl (zP x),zR 6 Vc ls] (zR 3 zP (ls.map (hgt lo hi x))):=by
 have n:Bq ((x-lo)/(hi-lo)) (k+j+1+(k+k+1)):=xb (inferInstance:Bq ((x-lo)/(hi-lo)) _) C;refine Fq Tryz.func204 ?_;refine Fk (zBl h1 t s h C) ?_;refine Fm fun u=>?_;refine xK ?_ ?_<;>intro c
 .exact (by simp at c)
 .refine zB<|zi<|Fs (yI 46 3) ?_;have a:(ls.map (hgt lo hi x)).length=ls.length:=BR _;refine Xt [23,22,9] (fun (m:Nat) (q:G3) z=>(24,ML m)::(8,eqS (rowV q m))::z) (fun m q=>[rowE q 46 3 m (((ls.map (hgt lo hi x)).take m).flatMap zP),⟨some u,46,zP ((x-lo)/(hi-lo)),0⟩]) (fun m q=>m<=ls.length/\zX q m) (fun m _=>ls.length-m) 0 none ⟨BL _,Z⟩ ?_;rintro m q ⟨D,hq⟩;refine Fh ?_;refine FP ?_ ?_<;>intro _ e
  .obtain⟨v,p⟩:=FU ls m;have o:=r v (AE p);have hms:=yp (l:=ls.map (hgt lo hi x)) (by rw [Ba,p];rfl);have i:((ls.map (hgt lo hi x)).take m).length=m:=by rw [BG,a];omega
   refine Fh ?_;refine Fm fun w=>?_;refine Fk (zwb o n C) ?_;refine FL 1 Z Z Z Z hq (by rw [yG (st:=3) GY,i]) fun d b=>?_;refine zz ?_;refine zM<|Fv ?_;refine Do (m+1) ?_
   exact⟨m+1,d,⟨C,b⟩,C,an zk Gp⟩
  .obtain rfl:m=ls.length:=C;refine zK<|Fs (yF 0 8 Z Z hq a Gi GX GK) ?_;exact zj zt
end Go.Proofs
