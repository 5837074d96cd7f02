/- The planner in general: the nearest point of a box. -/
import Derived.Test.YtceodgbmninaoaaGreatDoorSqj
import Derived.Test.YtceodgbmninaoaaGreatDoorScn
import Derived.Test.YtceodgbmninaoaaGreatDoorSvi
import Derived.Test.YtceodgbmninaoaaGreatDoorSvw
import Derived.Test.YtceodgbmninaoaaGreatDoorSzn
import Derived.Lib.AppendZeros
set_option linter.all false
namespace Go.Proofs
open Go Go.Sv Num Num.Pl
def lx (hi r:Rat):Rat:=if hi<r then hi else r
def lw (lo r:Rat):Rat:=if r<lo then lo else r
def my (lo hi r:Rat):Rat:=lw lo (lx hi r)
theorem mw {hi r:Rat} {k:Nat} (h1:Bq hi k) (a:Bq r k):Bq (lx hi r) k:=by unfold lx;grind
theorem mv {lo r:Rat} {k:Nat} (h1:Bq lo k) (a:Bq r k):Bq (lw lo r) k:=by unfold lw;grind
def wY (b:Bx) (p:V2):V2:=(my b.1.1 b.2.1 p.1,my b.1.2 b.2.2 p.2)
variable {G:Imm}
def zsX [ao G] {lo hi r:Rat} {k:Nat} (h1:Bq lo k) (s:Bq hi k) (o:Bq r k) (t:200*k+30000<=cap):G0 G 445 [zl (zP lo),zl (zP hi),zl (zP r)] (zl (zP (my lo hi r))):=by
 refine zs Tryz.func445 ?_;apply zr;(iterate 2 refine zz ?_);refine ae.box Z Z Z Z Z Z fun m=>yT fun l=>?_;refine zM<|yL (K:=fun S1=>∃ d,d=lx hi r/\aC S1 ⟨19,[(3,yo (zP lo)),(4,yo (zP hi)),(5,G9 m),(6,G9 l)],[⟨some l,46,[eqS (.bool false),G8,G8],0⟩,⟨some m,46,zP d,0⟩],[],(0,false)⟩) ?_ ?_
 .refine zg ?_;refine Fl Z Z (xo C) ?_;refine Fo ?_ ?_<;>intro _ b
  .exact⟨_,(MX (vQ.1 b)).symm,MM⟩
  .exact⟨_,(MY (fun h=>b (vQ.2 h))).symm,MM⟩
 .rintro S1 ⟨d,i,c⟩;refine xq c ?_;have j:Bq d k:=by rw [i];exact mw s o
  refine yL (K:=fun S1=>∃ f,f=lw lo d/\aC S1 ⟨19,[(3,yo (zP lo)),(4,yo (zP hi)),(5,G9 m),(6,G9 l)],[⟨some l,46,[eqS (.bool false),G8,G8],0⟩,⟨some m,46,zP f,0⟩],[],(0,false)⟩) ?_ ?_
  .refine zg ?_;refine Fl Z Z (xo C) ?_;refine Fo ?_ ?_<;>intro _ a
   .exact⟨_,(MX (vG.1 a)).symm,MM⟩
   .exact⟨_,(MY (fun h=>a (vG.2 h))).symm,MM⟩
  .rintro S1 ⟨f,g,c⟩;refine xq c ?_;have n:Bq f k:=by rw [g];exact mv h1 j
   refine zg ?_;refine Fl Z Z (wT C) ?_;exact zj (zu (e:=by rw [g,i];rfl))
def zy1 [ao G] {b:Bx} {p:V2} {k:Nat} (h1:Bp b.1 k) (d:Bp b.2 k) (c:Bp p k) (a:200*k+30000<=cap):G0 G 365 [zl (cq b),zl (zL p)] (zl (zL (wY b p))):=by
 refine Fq Tryz.func365 ?_;refine Fm fun e=>?_;refine Fw 19 ?_;refine Fk (zsX h1.x d.x c.x a) ?_;refine Fk (zsX h1.y d.y c.y a) ?_;exact Hj
def eS (ps:List (List V2)) (p:V2) (g:Nat):G7:=(List.range g).filter fun i=>fL (ps.getD i []) p
def ip (ps:List (List V2)) (p:V2):G7:=eS ps p ps.length
def zsY (ps:List (List V2)) (p:V2) (g:Nat):eS ps p (g+1)=if fL (ps.getD g []) p=true then eS ps p g++[g] else eS ps p g:=by
 unfold eS;rw [Co,DQ];grind
def zwc (ps:List (List V2)) (p:V2) (g:Nat):(eS ps p g).length<=g:=by unfold eS;grind
abbrev Uq (l:List V2):List SV:=[zR 6 zL l]
abbrev ZF (n:Nat):List SV:=[ze .i64 (n:Nat)]
variable {G:Imm}
def zy2 [ao G] {ps:List (List V2)} {p:V2} {k:Nat} (o:0<k) (n:∀ l∈ps,vE k l/\l.length<=1000000) (hp:Bp p k) (j:800*k+30000<=cap) (r:ps.length<=1000000):G0 G 313 [zR 1 Uq ps,zl (zL p)] (zR 1 ZF (ip ps p)):=by
 refine zs Tryz.func313 ?_;refine zg ?_;refine zi<|Fs (yI 3 1) ?_;refine Xt [8,7,3] (fun (m:Nat) (q:G3) z=>(9,ML m)::(4,eqS (rowV q (eS ps p m).length))::z) (fun m q=>[rowE q 3 1 (eS ps p m).length ((eS ps p m).flatMap ZF)]) (fun m q=>m<=ps.length/\zX q (eS ps p m).length) (fun m _=>ps.length-m) 0 none ⟨BL _,Z⟩ ?_;rintro m q ⟨s,hq⟩;have i:=zwc ps p m;refine Fh ?_;refine FP ?_ ?_<;>intro _ g
 .obtain⟨x,hx⟩:=FU ps m;have c:=n x (AE hx);have h:ps.getD m []=x:=by rw [Ay,hx];rfl
  have a:=zsY ps p m;rw [h] at a
  refine Fh ?_;refine Fk (hin o c.1 hp j c.2) ?_;refine Fp ?_ ?_<;>intro b
  .rw [MX b] at a
   refine Fx 0 Z Z Z Z hq (by rw [yG GY]) fun e d=>?_;refine Do (m+1) ?_
   exact⟨m+1,e,⟨C,by grind⟩,C,by rw [a,Aw];exact an zk Gv⟩
  .rw [MY (by grind)] at a
   refine Do (m+1) ?_;exact⟨m+1,q,⟨C,by grind⟩,C,by rw [a];exact MM⟩
 .obtain rfl:m=ps.length:=C;refine zK<|Fs (yF 0 4 Z Z hq (l:=ip ps p) Z Z GX GK) ?_;exact zj zt
end Go.Proofs
namespace Go.Sv
open Go Go.RowKit
def zgN (m lo st:Nat):Nat:=if m=lo then 0 else lo*st
section
variable {P:Program} {G:Imm} {E:aD} {r:Option Nat} {gd:G4} {p:Bool} {o:Oper} {ops:List Oper} {K:St->Prop} {H:HL} {g:Ha}
variable {low high:Option Operand} {x y z:Operand} {k l:IntKind} {st t e off b n lo hi m i:Nat}
def zp4 [am P t e st] {mx:Option Operand} {j:Nat} {u:Operand} {d:IntKind} (h:o.op= .slice t x low high mx) (hx:yW g x=some (eqS (rowV (some (b,j)) n)))
 (c:low=some y) (a:high=some z) (i:mx=some u) (hy:yW g y=some (ze k lo)) (p:yW g z=some (ze l hi)) (f:yW g u=some (ze d m)) (h1:lo<=hi) (s:hi<=m) (r:m<=j) (q:zgN m lo st=off):OpOK P G H o g (eqS (.slice (some ⟨b,off,none⟩) (hi-lo) (m-lo))):=
 ik h hx (.inr ⟨_,_,c,hy⟩) (.inr ⟨_,_,a,p⟩) (.inr ⟨_,_,i,f⟩) h1 s r (by subst q;unfold zgN;split <;> simp [*,Addr.add_lit])
def zp5 [am P t e st] {d:Nat} {h:IntKind} (f:o.op= .slice t x low high none) (hx:yW g x=some (eqS (rowV (some (b,d)) n)))
 (c:low=some y) (a:high=some z) (hy:yW g y=some (ze k lo)) (i:yW g z=some (ze h hi)) (h1:lo<=hi) (l:hi<=d) (j:zgN d lo st=off):OpOK P G H o g (eqS (.slice (some ⟨b,off,none⟩) (hi-lo) (d-lo))):=
 ik f hx (.inr ⟨_,_,c,hy⟩) (.inr ⟨_,_,a,i⟩) (.inl ⟨Z,Z⟩) h1 l (Af _) (by subst j;unfold zgN;split <;> simp [*,Addr.add_lit])
def zp6 [am P t e st] {c:Nat} (d:o.op= .slice t x low none none) (hx:yW g x=some (eqS (rowV (some (b,c)) n)))
 (a:low=some y) (hy:yW g y=some (ze k lo)) (h1:lo<=n) (h:n<=c) (f:zgN c lo st=off):OpOK P G H o g (eqS (.slice (some ⟨b,off,none⟩) (n-lo) (c-lo))):=
 ik d hx (.inr ⟨_,_,a,hy⟩) (.inl ⟨Z,Z,Z⟩) (.inl ⟨Z,Z⟩) h1 h (Af _) (by subst f;unfold zgN;split <;> simp [*,Addr.add_lit])
def zgO [am P t e st] {c2 n' E k:Nat} {cs ds:List SV} (hop:o.op= .call {callee:=.builtin .append,args:= #[x,y],argTypes:= #[t,t]}) (hx:yW g x=some (eqS (rowV (some (b,n)) i))) (hy:yW g y=some (eqS (.slice (some ⟨b,off,none⟩) m c2)))
 (h1:i+m<=n) (f:m=0\/off+m*st<=cs.length) (N:i*st+m*st<=cs.length) (r:i+m=n') (A:(cs.drop off).take (m*st)=ds):
 OpL P G o g [⟨some b,E,cs,k⟩] (fun s H'=>s=eqS (rowV (some (b,n)) n')/\H'=[⟨some b,E,xB cs (i*st) ds,k⟩]):=by
 subst r;subst A;have h:((cs.drop off).take (m*st)).length=m*st:=by rw [BG,Cc];rcases f with rfl | f;simp;omega
 refine lQ GW (by omega) fun I W a c F H M D L=>?_
 have q:a.eval x=_:=F.get Gl hx;have p:a.eval y=_:=F.get Gl hy;obtain⟨O,hi,w⟩:=am.i (P:=P) (t:=t);have l:dens I ((cs.drop off).take (m*st)) ((c.toList.drop off).take (m*st)):=by
  rcases f with rfl | f
  .simpa using aq
  .have:=(dens.drop D off).take (m*st);rwa [BI,BF,AU C] at this
 have hlen:=l.1.trans h;have d:∀ u∈(c.toList.drop off).take (m*st),u.oneCell'=true:=fun u hu'=>by
  rcases f with rfl | f
  .grind
  .refine L u ?_;rw [<-BB off (c.toList.take cs.length),BI];exact Ej _ (BT (i:=m*st) (by grind))
 have z:=run_firstCells_some (P:=P) W st m ⟨b,off,none⟩ m c2 ((c.toList.drop off).take (m*st)) hlen fun j v hj=>by
  rw [AR] at hj
  split at hj
  .rw [AV,Dq] at hj
   rw [Addr.add_lit];simp only [World.cell?,H];exact hj
  grind
 have K:=run_storeCells_at P b (i*st) E ((c.toList.drop off).take (m*st)) 0 c W H GJ d;rw [At,<-uS c (i*st) _ GJ] at K
 refine⟨_,rowV (some (b,n)) (i+m),_,l,d,Z,.inl Z,?_⟩;simp only [execOp,hop,resolve,Sem.run_bind,Sem.run_pure,Result.andThen_ok,invoke,builtin];rw [show Array.map a.eval #[x,y]= #[.slice (some ⟨b,0,none⟩) i n,.slice (some ⟨b,off,none⟩) m c2] by simp [q,p,rowV]];simp [Builtin.append_,run_underlying (am.u),sizeOf,typeInfo,hi,w,Builtin.lenOf,h1,z,Addr.add_lit,K,rowV]
def zsZ {α:Type} {f:α->List SV} (hf:∀ x,(f x).length=st) {l:List α} (h:i<l.length):
 (xB (l.flatMap f) (i*st) (((l.flatMap f).drop ((i+1)*st)).take ((l.length-(i+1))*st))).take ((l.length-1)*st)=(l.take i++l.drop (i+1)).flatMap f:=by
 have k:l.flatMap f=(l.take i).flatMap f++((l.drop i).take 1).flatMap f++(l.drop (i+1)).flatMap f:=by
  rw [<-CB,<-CB];congr 1;rw [Bw,<-CV,BB,BB]
 have b:((l.take i).flatMap f).length=i*st:=by rw [yG hf,BG,AU C]
 have l2:(((l.drop i).take 1).flatMap f).length=st:=by rw [yG hf,BG,Cc,AU C,CH]
 have a:((l.drop (i+1)).flatMap f).length=(l.length-(i+1))*st:=by rw [yG hf,Cc]
 have e2:((l.flatMap f).drop ((i+1)*st)).take ((l.length-(i+1))*st)=(l.drop (i+1)).flatMap f:=by
  rw [k,List.drop_left' (by grind),BC (by omega)]
 rw [e2];have d:(l.length-1)*st=i*st+(l.length-(i+1))*st:=by rw [<-Bs];congr 1;omega
 rw [d,<-b,<-a];have j:l.flatMap f=(l.take i).flatMap f++(l.drop i).flatMap f:=by rw [<-CB,BB]
 rw [j];have c:=XI ((l.take i).flatMap f) ((l.drop (i+1)).flatMap f) ((l.drop i).flatMap f) 0;rw [At] at c;rw [c,List.take_length_add_append,CB]
 congr 1;have m:((l.drop (i+1)).flatMap f).length<=((l.drop i).flatMap f).length:=by
  rw [yG hf,yG hf,Cc,Cc];exact BK _ C
 have g:(l.drop i).flatMap f=((l.drop i).flatMap f).take ((l.drop (i+1)).flatMap f).length++((l.drop i).flatMap f).drop ((l.drop (i+1)).flatMap f).length:=(BB _ _).symm;rw [g,WI _ _ _ Gz,List.take_left]
end
section
variable {P:Program} {G:Imm}
variable {E:aD} {r:Option Nat} {Q:Hb} {S:St}
variable {i0:Nat×Bool} {o:Oper} {k n:Nat} {g:Ha} {s:SV}
def zy3 {c:Code} (b:∀ I F W,¬E.ok (k,false) I F W) (hi:S.i=(k,false)):T P G E r c S Q:=fun n I F a W d=>M1 (hi▸d.e) (b I F W)
def zy4 {q:HE} (l:∀ c,o.op≠ .defer c) (hq:∀ I F W,E.ok i0 I F W->aT I W q)
 (h:∀ I W a,Holds G I W->aT I W q->reads g I o a->∃ v,(execOp a.eval o).run P W= .ok (.value v) W/\s.den I v):ev P G E o g i0 (fun s' i'=>s'=s/\i'=i0):=by
 intro n r I F W a b Q d j e m k;obtain⟨v,f,i⟩:=h I W a d (hq I F W e) j;exact xg l f (k v I F W s i0 ⟨Z,Z⟩ (Fram.refl _ _ _) d e m i)
def cH {b:G4} {p:Bool} {a:List Oper} {K:St->Prop} {t:Nat} {h:HL} {d:G7} {i:Nat×Bool} (f:ev P G E o g i (fun s' i'=>s'=s/\i'=i)) (j:zO b g o true) (ht:o.dst=some t) (k:Nat.blt t n=true) (c:ae P G E r b p a ⟨n,(t,s)::g,h,d,i⟩ K):ae P G E r b p (o::a) ⟨n,g,h,d,i⟩ K:=
 .okx (S:=⟨n,g,h,d,i⟩) f j (fun l e=>by simp_all) (by simpa only [St.set,ht] using c)
def mu {α:Type} {f:α->List SV} {st:Nat} (hf:∀ x,(f x).length=st) {l:List α} {i:Nat} {y:α} (hi:l[i]? =some y) {t:TypeId} [az P t st] {x:Operand} {b e:Nat} (hop:o.op= .load t x) (hx:yW g x=some (eqS (.pointer (some ⟨b,i*st,none⟩))))
 (hq:∀ I F W,E.ok i0 I F W->aT I W ⟨some b,e,l.flatMap f,k⟩):ev P G E o g i0 (fun s' i'=>s'=zl (f y)/\i'=i0):=
 zy4 GW hq fun I W a A w u=>by
  have d:∀ (l:List α) (i:Nat) (x:α),l[i]? =some x->((l.flatMap f).drop (i*st)).take st=f x:=by
   intro l
   induction l with
   | nil=>simp
   | cons y l ih=>
    intro i x h;cases i with
    | zero=>grind
    | succ i=>
     rw [Bh] at h
     rw [BM,Bj,Ao,<-hf y,List.drop_length_add_append,hf y];grind
  have q:=d _ _ _ hi;have r:a.eval x=_:=u.get GB hx;obtain⟨c,z,p⟩:=YC (w.some Z);obtain⟨xs,hx1,hx2,hx3,m⟩:=YB (hf y) (fun j s hj=>by
   rw [<-q,AR] at hj
   split at hj
   . rw [AV] at hj;exact p _ s hj
   . cases hj)
  refine⟨.agg xs.toArray,?_,xs,Z,hx3,m⟩;have:=Zx (P:=P) (t:=t) hx1 (fun j v hj=>by rw [xC z];exact hx2 j v hj);simp [execOp,hop,r,Instr.loadAt,Instr.sureAddr,this]
end
end Go.Sv
namespace Num.Pl
open Go Go.Proofs
variable {α:Type} {n k:Nat} {row:List V2} {out:List T3} {p:Nat->Bool} {l:List α}
def Zl {i:Nat} (h:i<l.length):(Ym l i).length=l.length-1:=by unfold Ym;grind
def oZ {i:Nat} {x:α} (h:x∈Ym l i):x∈l:=by
 unfold Ym at h
 grind
def zdE (b:k<n) (hp:p k=true) (a:∀ j,j<k->p j=false):(List.range n).find? p=some k:=by
 simp_all
def Xq (a:∀ j,j<n->p j=false):(List.range n).find? p=none:=by
 grind
def zs0 (e:3<row.length) (b:k<row.length) (d:Qe (XJ row k)=0) (a:∀ j,j<k->Qe (XJ row j)≠0):Yn (n+1) row out=Yn n (Ym row k) out:=by
 rw [Yn,MY C,zdE b (MR d) fun j c=>MS (a j c)]
def zwd (e:3<row.length) (b:k<row.length) (hf:∀ j,j<row.length->Qe (XJ row j)≠0) (d:fk row k=true) (a:∀ j,j<k->fk row j=false):Yn (n+1) row out=Yn n (Ym row k) (out++[XJ row k]):=by
 rw [Yn,MY C,Xq fun j c=>MS (hf j c)];simp only;rw [zdE b d a]
def bA (c:3<row.length) (hf:∀ j,j<row.length->Qe (XJ row j)≠0) (a:∀ j,j<row.length->fk row j=false):Yn (n+1) row out=[]:=by
 rw [Yn,MY C,Xq fun j b=>MS (hf j b)];grind
abbrev zs1 (row:List V2):T3:=(row.getD 0 (0,0),row.getD 1 (0,0),row.getD 2 (0,0))
def zwe (a:row.length<=3):Yn (n+1) row out=if row.length=3/\Qe (zs1 row)=1 then out++[zs1 row] else out:=by rw [Yn,MX a]
theorem qf:∀ (n:Nat) (row:List V2) (out:List T3),(Yn n row out).length<=out.length+row.length
  | 0,_,_=>by unfold Yn;simp
  | n+1,row,out=>by
    unfold Yn
    split
    . grind
    . split
      . rename_i i hi
        have:=AI.1 (Ev hi);have h:=qf n (Ym row i) out;rw [Zl this] at h;omega
      . split
        . rename_i i hi
          have:=AI.1 (Ev hi);have h:=qf n (Ym row i) (out++[XJ row i]);rw [Zl this,Aw] at h;grind
        . simp
end Num.Pl
namespace Go.Proofs
open Go Go.Sv Num Num.Pl Tryz
theorem nh {P:V2->Prop}:∀ (n:Nat) (row:List V2) (out:List T3),(∀p∈row,P p)->(∀t∈out,∀p∈Zu t,P p)->∀ t∈Yn n row out,∀p∈Zu t,P p
  | 0,_,_,_,_=>fun t ht=>by unfold Yn at ht;cases ht
  | n+1,row,out,hr,ho=>by
    have c:∀ i,0<row.length->∀ p∈Zu (XJ row i),P p:=fun i h0=>kU hr h0;have b:∀ i,∀p∈Ym row i,P p:=fun i p hp=>hr p (oZ hp);unfold Yn
    split
    . split
      . rename_i h
        intro t ht;rcases Bu.1 ht with ht | ht
        . grind
        . rw [AS.1 ht]
          intro p hp;have a:∀ i,i<3->row.getD i (0,0)∈row:=fun i hi=>by
            grind
          simp only [Zu,DZ,D6,or_false] at hp
          grind
      omega
    . split
      . exact nh n _ _ (b _) ho
      . split
        . rename_i i hi
          have:=AI.1 (Ev hi);refine nh n _ _ (b _) fun t ht=>?_;grind
        simp
def Xu (obs:List (List RawP)):List T3:=obs.flatMap fun l=>Yn (l.length+1) (uh (xR l)) []
def zfk {obs:List (List RawP)} {n:Nat} (h:∀ l∈obs,l.length<=n):(Xu obs).length<=obs.length*n:=by
 unfold Xu
 induction obs with
 | nil=>simp
 | cons l obs ih=>
  have h1:=ih fun m hm=>h m (Bi _ hm);have a:=qf (l.length+1) (uh (xR l)) [];have b:(uh (xR l)).length=l.length:=by
   unfold uh;simp only;rw [Yl];split <;> (try rw [KY]) <;> exact BR _
  have c:=h l (Dv ..);rw [BM,Aw,Ap,Bj];grind
def Uj (l:List RawP):(uh (xR l)).length=l.length:=by
 unfold uh;simp only;rw [Yl];split <;> (try rw [KY]) <;> exact BR _
def zdF {xs:List RawP} {p:V2} (hp:p∈uh (xR xs)):∃ q∈xs,pv q=p:=by
 unfold uh at hp
 simp only at hp
 have a:=zfb hp;exact Bc.1 (by
  split at a
  .exact ziO.1 a
  omega)
theorem zp7 {xs:List RawP} {k:Nat} (b:0<k) (a:∀ p∈xs,wL k p):vE k (uh (xR xs)):=fun p hp=>by
 obtain⟨q,hq,rfl⟩:=zdF hp;exact Zb b (a q hq)
variable {G:Imm}
variable {k bb cc:Nat} {l:List V2} {xs:List RawP}
def zs2 [ao G] (b:0<k) (a:∀ p∈xs,wL k p) (c:100*(xs.length*(4*k+2)+4*k+2)+400*k+30000<=cap) (d:xs.length<=1000000) (e:0<xs.length):
 ∃N,N=uh (xR xs)/\N.length=xs.length/\vE k N/\CallSpec prog G 179 [zR 6 pc xs] [] (fun v H1=>∃ bb cc,zX (some (bb,cc)) N.length/\v=eqS (rowV (some (bb,cc)) N.length)/\H1=[rowE (some (bb,cc)) 48 6 N.length (N.flatMap zL)]):=by
 refine⟨_,Z,Uj xs,zp7 b a,?_⟩;rw [Uj];exact zsW b a c d e
def WK {i:Nat} (h:i<l.length):l[i]? =some (l.getD i (0,0)):=by grind
def zBm {i:Nat} (hi:i<l.length) (k:l.length<=1000000) (hq:zX (some (bb,cc)) l.length):CallSpec prog G 182 [eqS (rowV (some (bb,cc)) l.length),ML i,ML (i+1)] [rowE (some (bb,cc)) 48 6 l.length (l.flatMap zL)] (fun v H1=>v=eqS (rowV (some (bb,cc)) (Ym l i).length)/\H1=[rowE (some (bb,cc)) 48 6 (Ym l i).length ((Ym l i).flatMap zL)]):=by
 have a:(l.flatMap zL).length=l.length*6:=yG GY l;have h:=hq.1;have g:=Zl hi;have c:zX (some (bb,cc)) (l.length-1):=⟨C,hq.2⟩;have d:((l.flatMap zL).drop (zgN cc (i+1) 6)).take ((l.length-(i+1))*6)=((l.flatMap zL).drop ((i+1)*6)).take ((l.length-(i+1))*6):=by
  by_cases e:i+1=l.length
  .simp_all
  .rw [show zgN cc (i+1) 6=(i+1)*6 from MY C]
 rw [g];refine zs func182 ?_;refine zg ?_;refine Fi ((xd Z Z hq)) ?_;refine Fi ((zp4 Z Z Z Z Z Z Z Z C C h Z)) ?_;refine zd (fun j b=>?_) fun _ b=>?_
 .exact M1 (MU.1 j) C
 .refine zg ?_;refine Fi ((xd Z Z hq)) ?_;refine xv 7 [6] _ V (.cons _ .slnil)<|FB ?_;refine FC ((Wk Z Z hq Z Z C C)) ?_;refine FC ((zp6 Z Z Z Z C h Z)) ?_;refine .loc1 0 (zgO (n':=l.length-1) Z Z Z C (by by_cases e:i+1=l.length;exact .inl C;rw [show zgN cc (i+1) 6=(i+1)*6 from MY C,a];exact .inr C) (by rw [a];omega) C d) Z Z Z Z ?_
  rintro s1 H1 ⟨rfl,rfl⟩;refine⟨(.cons _ .slnil),?_⟩;refine ab.nil<|zg ?_;refine Fi ((xd Z Z c)) ?_;refine Fi ((zp5 Z Z Z Z Z Z C h (MY C))) ?_;refine ae.clear 0 Z Z Z C (by rw [xJ,a];omega) Z Z Z<|zM ?_
  refine Fs (QT [] [] (cs':=(Ym l i).flatMap zL) (by rw [xJ,xJ,a]) (by rw [Qd];exact (zsZ (f:=zL) (st:=6) GY hi).symm) C hq) ?_;exact zj ⟨_,[_],.one (.tmp Z),Dd _,Z,Z⟩
def zny {xs:List V2} (hq:zX (some (bb,cc)) xs.length) (hn:xs.length<=1000000):jk prog G 279 [yo [eqS (rowV (some (bb,cc)) xs.length)]] (Qi (pn xs) (List.range xs.length)) (fun _ I W=>aT I W (rowE (some (bb,cc)) 48 6 xs.length (xs.flatMap zL))):=by
 refine nZ func279 Z Z Z Z fun l E hy hA=>Fh ?_;refine Fi ((xd rfl rfl hq)) ?_;refine uK [0,1,5,6] (fun (g:Nat) z=>(7,ML g)::z) (fun g=>[]) (fun g=>(g,false)) (fun g=>g<=xs.length) (fun g=>xs.length-g) 0 (BL _) ?_;intro g hg;refine Fh ?_;refine xK ?_ ?_<;>intro h8
 .have k8:=MO h8;have hg1:g<xs.length:=by omega
  refine zB<|zi<|zg ?_;refine zo ((zY g Z Z Z Z hg1)) ?_;refine cH (mu (f:=zL) (fun _=>rfl) (by rw [<-WW hg1,CZ hg1]) rfl rfl (fun I F W he=>hA _ I F W he)) rfl rfl rfl<|yT fun b4=>?_;refine zg ?_;refine zU 23 V<|zg ?_;refine zo ((xd Z Z hq)) ?_;refine za ((g+xs.length:Nat):Int) ?_;refine Do (g+xs.length-1) ?_;refine zo ((xd Z Z hq)) ?_;refine zo ((wt rfl rfl rfl (by omega) (by omega)).sub (zI (Dc _ _).symm)) ?_;refine zo ((zY ((g+xs.length-1)%xs.length) Z Z Z Z (Be _ C))) ?_;refine cH (mu (f:=zL) (fun _=>rfl) (YV (by omega)) rfl rfl (fun I F W he=>hA _ I F W he)) rfl rfl rfl<|zo ((AX (zl (zL (vc xs g)))<|zE 0 Z Z Z V Z)) ?_;refine zg ?_;refine Do (g+1) ?_;refine zo ((xd Z Z hq)) ?_;refine zo ((wt rfl rfl rfl (by omega) (by omega)).sub (zI (Dc _ _).symm)) ?_;refine zo ((zY ((g+1)%xs.length) Z Z Z Z (Be _ C))) ?_;refine cH (mu (f:=zL) (fun _=>rfl) (YV (by omega)) rfl rfl (fun I F W he=>hA _ I F W he)) rfl rfl rfl<|zo ((AX (zl (vR (XJ xs g)))<|yQ Z Z V)) ?_;refine zM<|ae.yield Z hy Z Z Z (zv9 hg1) (yU _) Z Z Z fun y=>zg ?_;refine xK ?_ ?_<;>intro h36
  .exact zj ⟨.inl Z,.inr h36⟩
  .obtain rfl:y=true:=by grind
   refine zB<|zH (zF (B5 _ _))<|zJ<|Do (g+1) ?_;exact⟨g+1,(by omega:g+1<=xs.length),by omega,MM⟩
 .have k8:=MP h8;exact zK ⟨.inr Z,.inl (by rw [wn,DU,show g=xs.length by omega])⟩
def zs3 {n:Nat}:G0 G 180 [eqS (rowV (some (bb,cc)) n)] (wD 279 [yo [eqS (rowV (some (bb,cc)) n)]]):=by
 refine Fq func180 ?_;exact zj zt
set_option maxHeartbeats 2000000 in
def zDa [ao G] (hk:0<k) (hl:∀ p∈xs,wL k p) (hs:100*(xs.length*(4*k+2)+4*k+2)+800*k+30000<=cap) (hn:xs.length<=1000) (h0:0<xs.length):G0 G 115 [zR 6 pc xs] (zR 18 vR (Yn (xs.length+1) (uh (xR xs)) [])):=by
 obtain⟨N,hN,hNl,hNb,hNc⟩:=zs2 (G:=G) hk hl (by omega) (by omega) h0;rw [<-hN];obtain⟨R,hR⟩:∃ R,R=Yn (xs.length+1) N []:=⟨_,rfl⟩;rw [<-hR];refine zs func115 ?_;refine zr<|yT fun b2=>?_;refine zM<|wO<|zr<|zz ?_;refine ah [] [] [_] Z Z Z Z hNc Z Z Z ?_;rintro s10 H10 ⟨bb,cc,hq,rfl,rfl⟩;refine yT fun b3=>?_;refine zg ?_;refine zi<|wN<|zi<|zN<|zH (yI 180 18)<|zyP [2,3,8,42,43,44,45,46,47,48,49,50,51,52,53,54,55,56,57,58,59,60,61,62] (fun (row:List V2) (out:List T3) (q:G3) (D:G7) z=>z) (fun row out q D=>[rowE q 180 18 out.length (out.flatMap vR),⟨some b3,29,[eqS (rowV (some (bb,cc)) row.length)],0⟩,rowE (some (bb,cc)) 48 6 row.length (row.flatMap zL),⟨some b2,99,[eqS (rowV q out.length)],0⟩]) (fun row out q D=>D) (fun row out q D=>Yn (row.length+1) row out=R/\vE k row/\row.length<=xs.length/\out.length+row.length<=xs.length/\zX q out.length) (fun row out q D=>row.length) N [] none [] ⟨by grind,hNb,by omega,by grind,rfl⟩ ?_
 rintro row out q D ⟨hc,hrow,hrl,hol,hqo⟩;have hq1:zX (some (bb,cc)) row.length:=⟨by have:=hq.1;omega,hq.2⟩
 refine zi<|zg ?_;refine Fi ((xd rfl rfl hq1)) ?_;refine xK ?_ ?_<;>intro h13
 .have k13:=MO h13;refine zB<|zN<|Fh ?_;refine zf zs3 ?_;refine zg ?_;refine uN rfl rfl (zny hq1 (by omega)) (fun ss h=>Yq (m:=2) (fun _=>rfl) h) (by decide) rfl
   (fun k1 h i=>i=(0,false)/\h=[rowE q 180 18 out.length (out.flatMap vR),⟨some b3,29,[eqS (rowV (some (bb,cc)) row.length)],0⟩,rowE (some (bb,cc)) 48 6 row.length (row.flatMap zL),⟨some b2,99,[eqS (rowV q out.length)],0⟩]/\∀ j,j<k1->Qe (XJ row j)≠0)
   (fun e h i=>e= .exit 1/\i=(0,false)/\∃ row2:List V2,h=[rowE q 180 18 out.length (out.flatMap vR),⟨some b3,29,[eqS (rowV (some (bb,cc)) row2.length)],0⟩,rowE (some (bb,cc)) 48 6 row2.length (row2.flatMap zL),⟨some b2,99,[eqS (rowV q out.length)],0⟩]/\Yn (row2.length+1) row2 out=R/\row2.length+1=row.length/\vE k row2) ⟨rfl,rfl,fun j h=>M1 h (by omega)⟩ ?_ ?_ ?_ (by rintro k1 h i I W ⟨_,rfl,_⟩ hh;exact hh.mem _ (.tail _ (.tail _ (.head _))))
  .rintro l k1 ss h i hkk ⟨rfl,rfl,hno⟩;obtain⟨j,hj,rfl⟩:=uQ hkk;have hj1:=(EC.1 hj).1;rw [DU] at hj1
   rw [Cx hj1] at hj
   cases hj
   refine zr<|zg ?_;refine yT fun b5=>?_;refine Fh ?_;refine⟨Z,?_⟩;refine zN<|zr<|zo ((AX (zl (vR (XJ row k1)))<|zE 0 Z Z Z V Z)) ?_;refine zo (zb Z Z (mA hk (kU hrow C) C)) ?_;refine zg ?_;refine xK ?_ ?_<;>intro h20
   .have k20:=MU.1 h20;refine zH (zF (B5 _ _))<|zg ?_;refine za ((k1+1:Nat):Int) ?_;refine ah [_,_] [_] [_] Z Z Z Z (zBm hj1 C hq1) Z Z Z ?_
    rintro s25 H25 ⟨rfl,rfl⟩;refine Fh ?_;exact⟨Z,Z,Ym row k1,Z,by rw [Zl hj1,AP C,<-hc,zs0 C hj1 (MU.1 h20 |> fun e=>by simpa using e) hno],by rw [Zl hj1];omega,fun p hp=>hrow p (oZ hp)⟩
   .have k20:=MT.1 h20;exact zH (zF (B5 _ _))<|zB ⟨rfl,rfl,fun j hj=>by grind⟩
  .rintro h i D2 ⟨rfl,rfl,hno⟩;rw [wn,DU] at hno
   refine zi<|zg ?_;refine zf zs3 ?_;refine Fh ?_;refine uN rfl rfl (zny hq1 (by omega)) (fun ss h=>Yq (m:=2) (fun _=>rfl) h) (by decide) rfl
    (fun k1 h i=>i=(0,false)/\h=[rowE q 180 18 out.length (out.flatMap vR),⟨some b3,29,[eqS (rowV (some (bb,cc)) row.length)],0⟩,rowE (some (bb,cc)) 48 6 row.length (row.flatMap zL),⟨some b2,99,[eqS (rowV q out.length)],0⟩]/\∀ j,j<k1->fk row j=false)
    (fun e h i=>e= .exit 1/\i=(0,false)/\∃ (row2:List V2) (out2:List T3) (q2:G3),h=[rowE q2 180 18 out2.length (out2.flatMap vR),⟨some b3,29,[eqS (rowV (some (bb,cc)) row2.length)],0⟩,rowE (some (bb,cc)) 48 6 row2.length (row2.flatMap zL),⟨some b2,99,[eqS (rowV q2 out2.length)],0⟩]/\Yn (row2.length+1) row2 out2=R/\row2.length+1=row.length/\vE k row2/\out2.length=out.length+1/\zX q2 out2.length) ⟨rfl,rfl,fun j h=>M1 h (by omega)⟩ ?_ ?_ ?_ (by rintro k1 h i I W ⟨_,rfl,_⟩ hh;exact hh.mem _ (.tail _ (.tail _ (.head _))))
   .rintro l k1 ss h i hkk ⟨rfl,rfl,hne⟩;obtain⟨j,hj,rfl⟩:=uQ hkk;have hj1:=(EC.1 hj).1;rw [DU] at hj1
    rw [Cx hj1] at hj
    cases hj
    refine zr<|zg ?_;refine yT fun b7=>?_;refine zg ?_;refine⟨Z,?_⟩;refine zN<|zr ?_;(refine zg ?_);refine zo ((zuH 3 rfl rfl rfl (zC9 hk hrow (by omega) (by omega) hj1 (by omega)) (fun I vs hcc hd=>by obtain⟨x,r,rfl,h1,h2⟩:=xW hd;refine yB ?_ h2;rw [show x=_ from h1];exact zeo hcc hq1 rfl (fun _ _=>rfl) (by unfold yE;omega)))) ?_;refine zM<|xK ?_ ?_<;>intro h32
    .refine zr<|zo (zQ 4 Z Z Z Z) ?_;refine zo ((AX (zl (vR (XJ row k1)))<|zE 0 Z Z Z V Z)) ?_;refine zo (zy rfl rfl (by decide) rfl (by simp) rfl rfl) ?_;refine ae.append 1 Z Z Z Z Z Z Z Z hqo (by rw [yG (st:=18) (fun _=>rfl)]) (fun z hz=>by rw [AS.1 hz];rfl) (by unfold yE;simp;omega) (by unfold yE;simp;omega) fun q36 hq36=>zw ?_;refine zM<|Fs (zF (B5 _ _)) ?_;refine za ((k1+1:Nat):Int) ?_;refine ah [_,_] [_] [_] Z Z Z Z (zBm hj1 C hq1) Z Z Z ?_
     rintro s41 H41 ⟨rfl,rfl⟩;refine Fh ?_;exact⟨Z,Z,Ym row k1,out++[XJ row k1],q36,by rw [Aw,CB];rfl,by rw [Zl hj1,AP C,<-hc,zwd C hj1 hno h32 hne],by rw [Zl hj1];omega,fun p hp=>hrow p (oZ hp),by rw [Aw];rfl,by rw [Aw];exact hq36⟩
    .refine Fs (zF (B5 _ _)) ?_;exact⟨rfl,rfl,fun j hj=>by grind⟩
   .rintro h i D2 ⟨rfl,rfl,hne⟩;rw [wn,DU] at hne
    refine zr<|zw ?_;exact ae.ghost _ Z (zF (show List.Sublist [_] [_,_,_,_] from .cons _ (.cons _ (.cons _ (.cons_cons _ .slnil)))))<|ae.ghost _ rfl (XW (s':=zR 18 vR []) (fun I v hv=>⟨none,0,hv,Af _,BL _,.inl rfl⟩))<|zM<|zj ⟨_,[],.one (.own 0 inferInstance Z Z Z),BZ _,by rw [<-hc,bA C hno hne],Z⟩
   .rintro h i D2 e c hcc ⟨rfl,rfl,row2,out2,q2,rfl,h2,h3,h4,h5,h6⟩;exact⟨row2,out2,q2,_,⟨h2,h4,by omega,by omega,h6⟩,by omega,MM⟩
  .rintro h i D2 e c hcc ⟨rfl,rfl,row2,rfl,h2,h3,h4⟩;exact⟨row2,out,q,_,⟨h2,h4,by omega,by omega,hqo⟩,by omega,MM⟩
 .have k13:=MP h13;have hce:=zwe (n:=row.length) (out:=out) (row:=row) (by omega);rw [hc] at hce
  refine zK<|zi<|Fh ?_;refine Fi ((xd rfl rfl hq1)) ?_;refine xK ?_ ?_<;>intro h44
  .have k44:=MU.1 h44;have hr3:row.length=3:=by have:=MU.1 h44;omega
   have hb3:vE k (Zu (zs1 row)):=fun p hp=>by
    simp only [Zu,DZ,D6,or_false] at hp
    grind
   refine Zq 10 V Z Z<|FB ?_;refine ag ((zY 0 Z Z Z Z C)) Z Z Z<|ag ((AX (zl (zL (row.getD 0 (0,0))))<|zE 2 rfl rfl rfl (QQ (st:=6) (fun _=>rfl) (WK (show 0<row.length by omega))) rfl)) rfl rfl rfl<|FB ?_;refine ag ((zY 1 Z Z Z Z C)) Z Z Z<|ag ((AX (zl (zL (row.getD 1 (0,0))))<|zE 2 rfl rfl rfl (QQ (st:=6) (fun _=>rfl) (WK (show 1<row.length by omega))) rfl)) rfl rfl rfl<|FB ?_;refine ag ((zY 2 Z Z Z Z C)) Z Z Z<|ag ((AX (zl (zL (row.getD 2 (0,0))))<|zE 2 rfl rfl rfl (QQ (st:=6) (fun _=>rfl) (WK (show 2<row.length by omega))) rfl)) rfl rfl rfl<|ag ((AX (zl (vR (zs1 row)))<|yQ Z Z V)) Z Z Z<|ab.nil<|aI Z Z Z Z Z Z Z Z (by intro h;cases h) Z Z Z fun b8=>zx<|zo ((AX (zl (vR (zs1 row)))<|zE 0 Z Z Z V Z)) ?_;refine Fi (zb rfl rfl (mA hk hb3 (by omega))) ?_;refine xK ?_ ?_<;>intro h57
   .have k57:=MU.1 h57;refine zJ<|zo (zQ 4 Z Z Z Z) ?_;refine zo ((AX (zl (vR (zs1 row)))<|zE 0 Z Z Z V Z)) ?_;refine zo (zy rfl rfl (by decide) rfl (by simp) rfl rfl) ?_;refine ae.append 1 Z Z Z Z Z Z Z Z hqo (by rw [yG (st:=18) (fun _=>rfl)]) (fun z hz=>by rw [AS.1 hz];rfl) (by unfold yE;simp;omega) (by unfold yE;simp;omega) fun q61 hq61=>zw ?_;refine zM<|zH (zF (show List.Sublist [_,_] [_,_,_,_,_] from .cons _ (.cons_cons _ (.cons _ (.cons _ (.cons_cons _ .slnil))))))<|zH (uF (f:=vR) (l:=out++[zs1 row]) [] [] [] hq61 (by simp) (by simp) (fun _ _=>rfl) (by unfold yE;simp;omega))<|zg ?_;refine zj ?_
    exact⟨_,[],.one (.own 0 inferInstance rfl rfl rfl),BZ _,by grind,rfl⟩
   .refine zB<|zH (zF (show List.Sublist [_,_] [_,_,_,_,_] from .cons _ (.cons_cons _ (.cons _ (.cons _ (.cons_cons _ .slnil))))))<|zH (uF [] [] [] hqo rfl rfl (fun _ _=>rfl) (by unfold yE;omega))<|zg ?_;refine zj ?_
    exact⟨_,[],.one (.own 0 inferInstance rfl rfl rfl),BZ _,by grind,rfl⟩
  .refine zB<|zH (zF (show List.Sublist [_,_] [_,_,_,_] from .cons_cons _ (.cons _ (.cons _ (.cons_cons _ .slnil)))))<|zH (uF [] [] [] hqo rfl rfl (fun _ _=>rfl) (by unfold yE;omega))<|zg ?_;refine zj ?_
   exact⟨_,[],.one (.own 0 inferInstance rfl rfl rfl),BZ _,by grind,rfl⟩
def zDb [ao G] {obs:List (List RawP)} (v:0<k) (o:∀ l∈obs,0<l.length/\l.length<=1000/\∀ p∈l,wL k p) (y:500000*(k+1)<=cap) (A:obs.length<=1000):G0 G 79 [zR 1 (fun l:List RawP=>[zR 6 pc l]) obs] (zR 18 vR (Xu obs)):=by
 refine zs func79 ?_;refine Fh ?_;refine zH (yI 180 18)<|Xt [5,6,16] (fun (m:Nat) (q:G3) z=>(7,ML m)::(2,eqS (rowV q (Xu (obs.take m)).length))::z) (fun m q=>[rowE q 180 18 (Xu (obs.take m)).length ((Xu (obs.take m)).flatMap vR)]) (fun m q=>m<=obs.length/\zX q (Xu (obs.take m)).length) (fun m q=>obs.length-m) 0 none ⟨BL _,Z⟩ ?_;rintro m q ⟨u,hq⟩;refine Fh ?_;refine FP ?_ ?_<;>intro _ s
 .obtain⟨x,hx⟩:=FU obs m;obtain⟨i,c,g⟩:=o x (AE hx);have a:Xu (obs.take (m+1))=Xu (obs.take m)++Yn (x.length+1) (uh (xR x)) []:=by unfold Xu;rw [yp hx,CB];simp
  have b:=qf (x.length+1) (uh (xR x)) [];rw [Uj] at b
  have j:=zfk (obs:=obs.take m) (fun l h=>(o l (BT h)).2.1);rw [BG,AU u] at j
  have t:m*1000<=1000000:=C;rw [Ax] at b
  obtain⟨CU,e⟩:∃ CU,CU=Yn (x.length+1) (uh (xR x)) []:=⟨_,Z⟩;have r:G0 G 115 [zR 6 pc x] (zR 18 vR CU):=by rw [e];exact zDa v g (by have:x.length*(4*k+2)<=1000*(4*k+2):=BK _ c;omega) c i
  rw [<-e] at a b
  have d:(Xu (obs.take m)).length+CU.length<=2000000:=C;refine Fh ?_;refine Fk r ?_;refine ae.append 0 Z Z Z Z Z Z Z Z hq (by rw [yG (st:=18) GY]) (fun z w=>rfl) (Ag (BK _ d) J) (Ag d J) fun q14 hq14=>zg ?_;refine Do (m+1) ?_
  exact⟨m+1,q14,⟨C,by simp_all⟩,C,by rw [a,Aw,CB];exact MM⟩
 .obtain rfl:m=obs.length:=C;rw [B3] at hq ⊢
  refine zK<|Fs (yF 0 2 Z Z hq (l:=Xu obs) (f:=vR) Z Z GX (by have:=zfk (fun l h=>(o l h).2.1);unfold yE;omega)) ?_
  exact zj zt
end Go.Proofs
namespace Go.Sv
open Go Go.RowKit
def gl (t:TypeId) (s:SV):SV:=⟨fun I v=>∃ u,v= .iface t u/\s.den I u,fun _ _ _ hl ⟨u,hv,h⟩=>⟨u,hv,s.mono _ _ _ hl h⟩⟩
structure bH (P:Program) (t:TypeId) (name:String) (f:FuncId) (ptr:Bool) (e:TypeId):Prop where
 h:∃ i m,P.info? t=some i/\i.methods.find? (·.name==name)=some m/\m.path= #[]/\m.func=some (f,ptr)
 u:P.underlying t=some (.pointer e)
section
variable {P:Program} {G:Imm} {E:aD} {r:Option Nat} {gd:G4} {p:Bool} {o:Oper} {ops:List Oper} {K:St->Prop} {H:HL} {g:Ha}
variable {t e:TypeId} {x:Operand} {Q:SV->HL->Prop} {xs:Array Operand} {i:Array TypeId} {b:String} {f:FuncId} {args:List SV} {n off:Nat} {v:Value} {s:SV} {Hp:HL} {W:World} {a:Addr}
def mr {b:TypeId} (hop:o.op= .makeInterface b x) (hx:yW g x=some s) (d:P.concrete b=true):OpOK P G H o g (gl b s):=
 yy GW fun I W a _ _ c=>⟨.iface b (a.eval x),by simp [execOp,hop,run_makeInterface W b (a.eval x) d],_,Z,c.get GB hx⟩
def zfl {a:TypeId} (b:o.op= .makeInterface a x) (hx:yW g x=some (eqS v)) (c:P.concrete a=true):OpOK P G H o g (eqS (.iface a v)):=
 (mr b hx c).sub fun I w ⟨u,h1,d⟩=>by rw [h1,show u=v from d];rfl
def zdG {c:TypeId} (hop:o.op= .typeAssert x c t false) (hx:yW g x=some (gl t s)) (b:P.concrete t=true):OpOK P G H o g s:=
 yy GW fun I W a _ _ e=>by
  obtain⟨u,h1,f⟩:=e.get GB hx;refine⟨u,?_,f⟩;have:(Instr.typeAssert (.iface t u) c t false).run P W= .ok u W:=by
   unfold Program.concrete at b
   cases hd:P.underlying t with
   | none=>grind
   | some d=>cases d <;> first | grind | simp [Instr.typeAssert,run_underlying hd]
  simp [execOp,hop,h1,this]
def zlV (h:bH P t b f true e):(method (n+1) t (.pointer (some a)) b).run P W= .ok (f,.pointer (some a)) W:=by
 obtain⟨i,m,h1,g,d,c⟩:=h.h;simp [method,typeInfo,h1,g,d,c,follow,receiverAt,run_underlying h.u,Place.get]
def zi7 (h:bH P t b f false e) (d:(loadVar e a).run P W= .ok v W):(method (n+1) t (.pointer (some a)) b).run P W= .ok (f,v) W:=by
 obtain⟨i,m,h1,k,j,g⟩:=h.h;have c:∀ s:String,(Builtin.ssaWrapNilChk_ #[t] t #[.pointer (some a),strVal "",strVal s]).run P W= .ok (.pointer (some a)) W:=fun _=>rfl;simp [method,typeInfo,h1,k,j,g,follow,receiverAt,run_underlying h.u,Place.get,c,asAddr,d]
def znU {c:String} {q:Value} {s0:SV} (hop:o.op= .call {callee:=.invoke x c,args:=xs,argTypes:=i})
 (hx:yW g x=some (eqS (.iface t q))) (k:∀ I W,HoldsH Hp I W->∃ y,s0.den I y/\∀ n,(method (n+1) t q c).run P W= .ok (f,y) W) (m:uk g xs.toList=some args) (d:CallSpec P G f (s0::args) Hp Q):OpL P G o g Hp Q:=iY hop d fun I a W l h=>by
 have j:a.eval x=_:=h.get Gl hx;obtain⟨y,hy,b⟩:=k I W l;refine⟨y::xs.toList.map a.eval,?_,yB hy (vn m fun y hy s d=>h y F8 s d)⟩;have e: #[y]++Array.map a.eval xs=(y::xs.toList.map a.eval).toArray:=by apply AW;simp
 have e2:(#[Value.iface t q]++Array.map a.eval xs).extract 1 (#[Value.iface t q]++Array.map a.eval xs).size=Array.map a.eval xs:=by apply AW;simp;exact BC B
 have b:=b (P.types.size+Made.depth-1);rw [show P.types.size+Made.depth-1+1=P.types.size+Made.depth from AP (by show 1<=P.types.size+100;omega)] at b
 have p:(#[Value.iface t q]++Array.map a.eval xs)[0]? =some (.iface t q):=by rw [BY (Nat.zero_lt_one)];rfl
 simp only [execOp,hop,resolve,j,Sem.run_bind,Sem.run_pure,Result.andThen_ok,invoke,p,e2,callMethod,run_program,b,e,d.enters]
def zi8 {a:String} {d:Array TypeId} {b:Nat} (c:o.op= .call {callee:=.invoke x a,args:=xs,argTypes:=d})
 (hx:yW g x=some (eqS (.iface t (.pointer (some ⟨b,off,none⟩))))) (i:bH P t a f true e) (j:uk g xs.toList=some args) (h:CallSpec P G f (eqS (.pointer (some ⟨b,off,none⟩))::args) Hp Q):OpL P G o g Hp Q:=
 znU c hx (fun _ _ _=>⟨_,Z,fun _=>zlV i⟩) j h
def ZV {a:String} {k:Array TypeId} {t e j k0:Nat} [ak P e] {b:Nat} {s0:SV} {cs:List SV} (h:o.op= .call {callee:=.invoke x a,args:=xs,argTypes:=k})
 (hx:yW g x=some (eqS (.iface t (.pointer (some ⟨b,0,none⟩))))) (m:bH P t a f false e) (r:Hp=⟨some b,j,s0::cs,k0⟩::Hp.tail) (q:uk g xs.toList=some args) (l:CallSpec P G f (s0::args) Hp Q):OpL P G o g Hp Q:=
 znU h hx (fun I W n=>by
  obtain⟨c,p,i⟩:=YC ((n.mem ⟨some b,j,s0::cs,k0⟩ (by grind)).some Z);obtain⟨y,hy,d,_⟩:=i 0 s0 Z
  exact⟨y,d,fun _=>zi7 m (vm (by rw [xC p];exact hy))⟩) q l
def aN (pre Hp suf:HL) {a b:Nat} {h:HL} {d:G7} {i:Nat×Bool} (e:OpL P G o g Hp Q) (hp:p=false) (j:h=pre++Hp++suf) (f:zO gd g o true) (ht:o.dst=some b) (hd:Nat.blt b a=true)
 (c:∀ s H',Q s H'->ae P G E r gd p ops ⟨a,(b,s)::g,pre++H'++suf,d,i⟩ K):ae P G E r gd p (o::ops) ⟨a,g,h,d,i⟩ K:=by
 refine ae.loc hp j e f Gt fun s H' hq=>?_;rw [ht];exact c s H' hq
end
open Go.Proofs
def zaC {P:Program} {G:Imm} {o:Oper} {t tn e st c:Nat} {R:IntKind} {zs:List Value} [am P t e st] [H:aR P tn R] [X:av P e zs c] {x y:Operand} {k:IntKind} {m:Nat} {g:Ha}
 (hop:o.op= .call {callee:=.builtin .append,args:= #[x,y],argTypes:= #[t,tn]}) (hx:yW g x=some (G8)) (hy:yW g y=some (ze k m)) (h0:0<m) (d:m*c<=yE) (U:m<=yE):
 OpL P G o g [] (fun s H'=>∃ b cp,zX (some (b,cp)) m/\s=eqS (rowV (some (b,cp)) m)/\H'=[rowE (some (b,cp)) e st 0 []]):=by
 intro nn r I W a O Q j hh S Y;have F:a.eval x=_:=S.get Gl hx;have E:a.eval y=_:=S.get Gl hy;obtain⟨i,hi,a0⟩:=am.i (P:=P) (t:=t);obtain⟨i',z,l,D,A,w,v⟩:=X.i;rw [hi] at l;cases l
 have hu:=am.u (P:=P) (t:=t);have K:0<i.size:=by rw [w];exact Er.2 X.pos
 have q:z.cells.size=st:=by rw [A,AH];omega
 have f:=Lib.run_append_nil_zeros W t tn o.type e i z k R hu H.h hi D m h0 K (by unfold yE at U;omega) (by rw [v];unfold yE at d;omega);have M:=grownCap_ge W m 0 e;have L:=grownCap_le_maxLen W m 0 e (by unfold maxLen;unfold yE at U;omega);have N:(execOp a.eval o).run P W= .ok (.value (rowV (some (W.heap.size,grownCap W m 0 e)) m)) (W.drew.alloc (.cells (Builtin.zeroCells z.cells m++Builtin.zeroCells z.cells (grownCap W m 0 e-m)) e)):=by
  simp only [execOp,hop,resolve,Sem.run_bind,Sem.run_pure,Result.andThen_ok,invoke,builtin];have:Array.map a.eval #[x,y]= #[.slice none 0 0,.int k m]:=by simp [F,E]
  rw [this,f];rfl
 have hI:=j.none_new;obtain⟨d1,d2⟩:=zel j (W.drawn+1);obtain⟨a1,a2⟩:=ZB (W:=W.drew) d1 (.cells (Builtin.zeroCells z.cells m++Builtin.zeroCells z.cells (grownCap W m 0 e-m)) e) (fun _=>False);refine xg GW N<|Y _ I _ _ _ ⟨W.heap.size,grownCap W m 0 e,⟨M,L⟩,Z,Z⟩ ?_ a1 ?_ Z
 .exact (Fram.trans d2 a2).weaken (fun b d=>d.elim) fun b d=>by
   simp only [bs,rowE,Aj,List.filterMap_nil,AS] at d
   simp_all
 .refine⟨by simp [bs,rowE],fun p hp=>?_⟩;simp at hp;subst hp;refine .of_some Z ⟨hI,_,aM W.drew _,?_,by simp [KK,rowE],by simp only [rowE,Ax,Di];exact aq⟩
  have n:∀ k,(Builtin.zeroCells z.cells k).size=k*st:=fun k=>by simp [Builtin.zeroCells,q]
  simp only [rowE,Array.size_append,n,Ax];rw [<-Bs];grind
end Go.Sv
namespace Go.Proofs
open Go Go.Sv Num Num.Pl Tryz
section
variable (P:Program) (G:Imm) {α:Type} (f0:α->List SV) (T0 B0:TypeId) (s0:Nat)
structure eE (fid:FuncId):Prop where
 o:let f:=f0;let T:=T0;let B:=B0;let st:=s0;∀{xs ys:List α} {q:G3} {fl:FuncId} {caps:List SV} (_:xc P G fl caps (Qi (fun y=>[zl (f y)]) ys)) (_:zX q xs.length) (_:xs.length+ys.length<=1000000),CallSpec P G fid [eqS (rowV q xs.length),wD fl caps] [rowE q T st xs.length (xs.flatMap f)] (fun v H'=>∃ q',zX q' (xs++ys).length/\v=eqS (rowV q' (xs++ys).length)/\H'=[rowE q' T st (xs++ys).length ((xs++ys).flatMap f)])
structure ej (fid:FuncId):Prop where
 o:let f:=f0;let T:=T0;let st:=s0;∀{ys:List α} {fl:FuncId} {caps:List SV} (_:xc P G fl caps (Qi (fun y=>[zl (f y)]) ys)) (_:ys.length<=1000000),CallSpec P G fid [wD fl caps] [] (fun v H'=>∃ q,zX q ys.length/\v=eqS (rowV q ys.length)/\H'=[rowE q T st ys.length (ys.flatMap f)])
end
abbrev eC (e:V2×V2):List SV:=zL e.1++zL e.2
abbrev cD (c:Num.Pl.Ce):List SV:=ze .i8 c.1::ze .i64 (c.2.1:Nat)::ze .i64 (c.2.2.1:Nat)::zL c.2.2.2
variable {G:Imm}
variable {P:Program} {st t e:Nat} {x:Operand} {S A0:Prop} {o:Oper} {H:HL} {g:Ha}
def jC (n:A0) (w:By A0->S:=by
 intro u;refine⟨?_⟩;intro f T B st xs ys q fl caps j hq v;refine wR u.o Z Z Z<|zr<|ae.box Z Z Z Z Z Z fun b2=>Fh ?_;refine uN Z Z j (fun r h=>Yq (m:=1) (fun _=>rfl) h) (by decide) Z
  (fun k h i=>i=(0,false)/\k<=ys.length/\∃ q',zX q' (xs.length+k)/\h=[⟨some b2,B,[eqS (rowV q' (xs.length+k))],0⟩,rowE q' T st (xs.length+k) ((xs++ys.take k).flatMap f)])
  (fun _ _ _=>False) ⟨Z,BL _,q,hq,by rw [Di,BV];rfl⟩ ?_ ?_ ?_
 .rintro l k r h i t ⟨rfl,g,p,a,rfl⟩;obtain⟨x,hx,rfl⟩:=uQ t;have s:=(EC.1 hx).1;have d:=yp hx;refine zJ<|Fm fun z=>?_;refine⟨Z,?_⟩;refine Fh ?_;refine FL 2 Z Z Z Z a (by rw [yG (st:=st) (fun _=>rfl),Aw,BG,AU g]) fun q11 hq11=>?_;refine zw ?_;refine ae.ghost _ Z (zF (B5 _ _))<|zM ?_
  refine⟨Z,by omega,q11,hq11,?_⟩;rw [d,<-Bw,CB (xs:=xs++ys.take k)];rfl
 .rintro h i D ⟨rfl,_,p,a,rfl⟩;rw [wn] at a ⊢
  rw [B3];refine zg ?_;exact zj ⟨_,[_],.one (.tmp Z),B5 _ _,p,by rw [Aw];exact a,by rw [Aw],by rw [Aw]⟩
 .intro h i D e c y b;exact b.elim):S:=w ⟨n⟩
def zDc:eE prog G eC 363 277 12 401:=jC func401
def zDd:eE prog G Vc 282 279 6 403:=jC func403
def zBn:eE prog G cD 191 104 9 201:=jC func201
def l4 {A1:Prop} (d:A0) (c:A1) (w:By A0->By A1->S:=by
 intro g h;refine⟨?_⟩;intro f T st ys fl caps b i;refine wR g.o Z Z Z<|zr<|zz ?_;refine zM<|zH (yI T st)<|zg ?_;refine ah [] [_] [] Z Z Z Z (h.o.o (xs:=[]) (ys:=ys) (q:=none) b Z (by rw [Ax];omega)) Z Z Z ?_
 rintro s4 H4 ⟨e,a,rfl,rfl⟩;refine zg ?_;refine zj ?_
 exact⟨_,[_],.one (.tmp Z),Dd _,e,a,Z,Z⟩):S:=w ⟨d⟩ ⟨c⟩
def zBo:ej prog G eC 363 12 299:=l4 func299 (zDc (G:=G))
def zBp:ej prog G Vc 282 6 301:=l4 func301 (zDd (G:=G))
def JY [am P t e st] (hop:o.op= .call {callee:=.builtin .cap,args:= #[x],argTypes:= #[t]}) (hx:yW g x=some (G8)):OpOK P G H o g (ML (0)):=
 yy GW fun I W a _ _ d=>by
  have b:a.eval x=_:=d.get Gl hx;have c:=am.u (P:=P) (t:=t);exact⟨.int .i64 0,by simp [execOp,hop,resolve,invoke,builtin,b,Builtin.cap_,run_underlying c,goInt],Z⟩
def zgQ [am P t e st] {y:Operand} {high:Option Operand} {k:IntKind} (hop:o.op= .slice t x none high none) (hx:yW g x=some (G8)) (l:high=some y) (hy:yW g y=some (ze k ((0:Nat):Int))):OpOK P G H o g (G8):=by
 subst l;refine yy GW fun I W a p l j=>?_;have d:a.eval x= .slice none 0 0:=j.get GB hx;have b:a.eval y= .int k ((0:Nat):Int):=j.get GB hy;have c:=wQ (P:=P) (W:=W) (len:=0) (m:=0) (high:=some (.int k ((0:Nat):Int))) (.inl ⟨Z,Z⟩) (.inr ⟨k,Z⟩) (.inl ⟨Z,Z⟩) C C (Af _);obtain⟨i,h,f⟩:=am.i (P:=P) (t:=t);have n:=am.u (P:=P) (t:=t);rw [(FV:((0:Nat):Int)=0)] at c b
 refine⟨_,?_,Z⟩;simp [execOp,hop,d,b,Instr.sliceAt,Instr.slice,run_underlying n,c,sizeOf,typeInfo,h,f]
def zBq {n:Nat} (e:0<n) (i:n<=1000000):CallSpec prog G 288 [G8,ML n] [] (fun v H1=>∃ b a,zX (some (b,a)) n/\v=eqS (rowV (some (b,a)) 0)/\H1=[rowE (some (b,a)) 48 6 0 []]):=by
 refine Fq func288 ?_;refine Fo (fun h g=>?_) fun _ g=>?_
 .exact M1 (MO h) C
 .refine Fi ((JY Z Z)) ?_;refine Fi ((QR Z Z)) ?_;refine Do 0 ?_;refine Fj (n:Int) ?_;refine Fo (fun _ c=>?_) fun h16 c=>?_
  .refine Fi ((JY Z Z)) ?_;refine Fi ((zgQ Z Z Z Z)) ?_;refine aN [] [] [] (zaC Z Z Z e GK GK) Z Z Z Z Z ?_;rintro f H22 ⟨d,a,hq,rfl,rfl⟩;refine zz ?_;refine Fi ((QR Z Z)) ?_;refine Fi ((Wk Z Z hq Z Z e (BL _))) ?_;exact zj ⟨_,[_],.one (.tmp Z),Dd _,d,a,hq,Z,Z⟩
  .exact M1 (MP h16) C
def zy5:G0 G 288 [G8,ML (0)] (G8):=by
 refine Fq func288 ?_;refine Fo (fun d c=>?_) fun _ c=>?_
 .exact M1 (MO d) C
 .refine Fi ((JY Z Z)) ?_;refine zo ((QR Z Z)) ?_;(iterate 2 refine za ((0:Nat):Int) ?_);refine zg ?_;refine Fo (fun b a=>?_) fun _ a=>?_
  .exact M1 (MO b) C
  .exact zj zt
def zdH {α:Type} (ps:List (List α)) (m:Nat):(ps.take m).flatten.length<=ps.flatten.length:=by
 have:=MW (fun l:List (List α)=>l.flatten.length) (BB m ps);grind
def zy6 {f:FuncId} {args:List SV} {T:Nat} (h:zm P G f args (G8)):CallSpec P G f args [] (fun v H1=>∃ q,zX q 0/\v=eqS (rowV q 0)/\H1=[rowE q T st 0 []]):=
 ⟨h.enters,fun I W vs h1 b a=>(h.main I W vs h1 b a).mono fun _ _ ⟨v,I',s,H',e,⟨q1,q2⟩,q3,q4,q5,q6⟩=>by
  subst q1;subst q2
  exact⟨v,I',_,[rowE none T st 0 []],e,⟨none,Z,Z,Z⟩,q3,q4,⟨by simp [bs,rowE],fun p hp=>by simp at hp;subst hp;rfl⟩,q6⟩⟩
def ng {ps:List (List V2)} (w:ps.length<=1000000) (hf:ps.flatten.length<=1000000):G0 G 187 [zR 1 Uq ps] (zR 6 zL ps.flatten):=by
 refine Fq func187 ?_;refine Qj [0,2,6,8,9,10,23,24,25,26,27,28,29,30,31,32,33,34,35] (fun (m:Nat) z=>(11,ML m)::(3,MK ((ps.take m).flatten.length:Nat))::z) (fun m=>[]) (fun m=>m<=ps.length) (fun m=>ps.length-m) 0 (BL _) ?_;intro m r;refine Fh ?_;refine FP ?_ ?_<;>intro _ n
 .obtain⟨x,hx⟩:=FU ps m;have c:=yp hx;have a:(ps.take (m+1)).flatten.length=(ps.take m).flatten.length+x.length:=by rw [c,Ee,Aw];simp
  have h:=zdH ps (m+1);refine Fh ?_;refine Do ((ps.take (m+1)).flatten.length) ?_;refine Fo (fun o k=>?_) fun _ k=>?_
  .exact M1 (MO o) C
  .refine Do (m+1) ?_;exact⟨m+1,(by omega:m+1<=ps.length),C,MM⟩
 .obtain rfl:m=ps.length:=C;rw [B3];have d:CallSpec prog G 288 [G8,MK (ps.flatten.length:Nat)] [] (fun v H1=>∃ q,zX q 0/\v=eqS (rowV q 0)/\H1=[rowE q 48 6 0 []]):=by
   by_cases e:ps.flatten.length=0
   .rw [e];exact zy6 zy5
   .exact (zBq C hf).mono fun v H1 ⟨b,u,h1,t,s⟩=>⟨some (b,u),⟨BL _,h1.2⟩,t,s⟩
  refine Fh ?_;refine ah [] [] [] Z Z Z Z d Z Z Z ?_;rintro p H24 ⟨q,hq,rfl,rfl⟩;refine Fh ?_;refine Xt [2,25,26,35] (fun (m:Nat) (q:G3) z=>(27,ML m)::(6,eqS (rowV q (ps.take m).flatten.length))::z) (fun m q=>[rowE q 48 6 (ps.take m).flatten.length ((ps.take m).flatten.flatMap zL)]) (fun m q=>m<=ps.length/\zX q (ps.take m).flatten.length) (fun m q=>ps.length-m) 0 q ⟨BL _,hq⟩ ?_;rintro m q ⟨r,hq⟩;refine Fh ?_;refine FP ?_ ?_<;>intro _ j
  .obtain⟨x,hx⟩:=FU ps m;have c:=yp hx;have a:(ps.take (m+1)).flatten=(ps.take m).flatten++x:=by rw [c,Ee];simp
   have h:=zdH ps (m+1);rw [a,Aw] at h
   refine Fh ?_;refine Fx 0 Z Z Z Z hq Gy fun i g=>?_;refine Do (m+1) ?_;exact⟨m+1,i,⟨C,by grind⟩,C,by rw [a,Aw,CB];exact MM⟩
  .obtain rfl:m=ps.length:=C;rw [B3] at hq ⊢
   refine zK<|Fs (yF 0 6 Z Z hq (f:=zL) Z Z GX GK) ?_;exact zj zt
end Go.Proofs
namespace Num.Pl
open Go Go.Proofs
variable {a p:V2} {g:Nat} {b:Bx}
def gy (e:V2×V2):Ed:=if 0<vN e.1 e.2 then (e.2,e.1) else e
def zs5 {b:V2} (h:0<vN a b):(b,a)=gy (a,b):=(MX h).symm
def zs6 {b:V2} (h:¬0<vN a b):(a,b)=gy (a,b):=(MY h).symm
def ux (ps:List (List V2)):wg ps=ps.flatMap fun l=>(uc l).map gy:=rfl
def co (p:V2) (g:Nat):Rat:=if g=0 then p.1 else p.2
def Uk (g:Nat) (b:Bx) (p:V2):Bx:=if g=0 then (if p.1<b.1.1 then ((p.1,b.1.2),b.2) else b) else (if p.2<b.1.2 then ((b.1.1,p.2),b.2) else b)
def fa (g:Nat) (b:Bx) (p:V2):Bx:=if g=0 then (if b.2.1<p.1 then (b.1,(p.1,b.2.2)) else b) else (if b.2.2<p.2 then (b.1,(b.2.1,p.2)) else b)
def Yr (b:Bx) (p:V2):Nat->Bx
 | 0=>b
 | g+1=>fa g (Uk g (Yr b p g) p) p
theorem zfm (b:Bx) (p:V2):Yr b p 2=Qg b p:=by
 show fa 1 (Uk 1 (fa 0 (Uk 0 b p) p) p) p=Qg b p;unfold fa Uk Qg;grind
theorem zxl:Uk g b p=if co p g<co b.1 g then (if g=0 then ((p.1,b.1.2),b.2) else ((b.1.1,p.2),b.2)) else b:=by
 unfold Uk co;grind
theorem zxm:fa g b p=if co b.2 g<co p g then (if g=0 then (b.1,(p.1,b.2.2)) else (b.1,(b.2.1,p.2))) else b:=by
 unfold fa co;grind
end Num.Pl
namespace Go.Proofs
open Go Go.Sv Num Num.Pl Tryz
variable {G:Imm}
variable {ps:List (List V2)} {k g m n:Nat} {l:List V2} {p a c:V2} {b:Bx}
def jU [ao G] (c:0<k) (b:vE k l) (a:2*k+11000<=cap) (d:l.length<=1000000):G0 G 78 [zR 6 zL l] (zR 6 zL l):=by
 have h:=JM (G:=G) (xs:=l.map Xs) c (fun p hp=>by obtain⟨q,hq,rfl⟩:=Bc.1 hp;exact Wf (b q hq)) a Gj;rw [ZU (h:=zL) GY,As,show (pv∘Xs)=id from funext vj,Dm] at h
 exact h
def zBr [ao G] {q:V2} (b:0<k) (hp:Bp p k) (hq:Bp q k) (a:400*k+21000<=cap):G0 G 270 [zl (zL p),zl (zL q)] (MK (vN p q)):=by
 have h:=gc (G:=G) b (Wf hp) (Wf hq) a;rwa [vj,vj] at h
def zy7 {b:V2}:xB (eC (a,b)) 0 (zL c)=eC (c,b):=rfl
def zy8 {b:V2}:xB (eC (a,b)) 6 (zL c)=eC (a,c):=rfl
abbrev pi (e:Ed):List SV:=[zl (eC e)]
def znA {x:List V2} (hx:ps[m]? =some x):wg (ps.take (m+1))=wg (ps.take m)++(uc x).map gy:=by
 rw [ux,ux,yp hx,CB];simp
def mq (m:Nat):(wg (ps.take m)).length=(ps.take m).flatten.length:=by
 rw [ux,List.length_flatMap,List.length_flatten];congr 1;exact Bk fun l _=>by rw [BR,Vw]
def zy9 {x:List V2} (hx:ps[m]? =some x) (a:g<x.length):(Qi pi (wg ps))[(wg (ps.take m)).length+g]? =some (pi (gy (vc x g,vc x (g+1)))):=by
 refine vk ?_;have e:wg ps=wg (ps.take (m+1))++wg (ps.drop (m+1)):=by rw [ux,ux,ux,<-CB,BB]
 rw [e,znA hx,Bw,Ae (Dg _ _),C1,Ad (by rw [BR,Vw];exact a),Ba,oC a];rfl
def wo {P:Program} {E:aD} {r:Option Nat} {gd:G4} {f:Bool} {o:Oper} {a:List Oper} {K:St->Prop} (cs':List SV) (j:Nat) {g:Ha} {h:HL} {d:G7} {i:Nat×Bool} {t m:TypeId} [ai P t m] {x y:Operand} {b off e:Nat} {cs ds:List SV} {s:SV} [bj s ds] (hp:f=false) (l:o.op= .store t x y) (hx:yW g x=some (eqS (.pointer (some ⟨b,off,none⟩)))) (hy:yW g y=some s)
 (z:h[j]? =some ⟨some b,e,cs,k⟩) (u:ds.length=m) (c:Nat.ble (off+ds.length) cs.length=true) (w:o.dst=none) (v:zO gd g o true) (p:xB cs off ds=cs')
 (q:ae P G E r gd f a ⟨n,g,wE h j [⟨some b,e,cs',k⟩],d,i⟩ K):ae P G E r gd f (o::a) ⟨n,g,h,d,i⟩ K:=by
 subst p;exact ae.store j hp l hx hy z u c w v q
set_option maxHeartbeats 1000000 in
def zza [ao G] (r:0<k) (t:∀ l∈ps,vE k l/\l.length<=1000000) (s:400*k+21000<=cap) (A:ps.length<=1000000):xc prog G 402 [yo [zR 1 Uq ps]] (Qi pi (wg ps)):=by
 refine xM func402 Z Z Z Z fun l E hy=>zg ?_;refine uK [0,8,9] (fun (m:Nat) z=>(10,ML m)::z) (fun m=>[]) (fun m=>((wg (ps.take m)).length,false)) (fun m=>m<=ps.length) (fun m=>ps.length-m) 0 (BL _) ?_;intro m D;refine Fh ?_;refine zd ?_ ?_<;>intro _ j
 .obtain⟨x,hx⟩:=FU ps m;obtain⟨d,o⟩:=t x (AE hx);refine Fh ?_;refine Fk (jU r d (by omega) o) ?_;refine uK [0,4,8,9,10,11,12,13,14,15,16,17,50] (fun (g:Nat) z=>(18,ML g)::z) (fun g=>[]) (fun g=>((wg (ps.take m)).length+g,false)) (fun g=>g<=x.length) (fun g=>x.length-g) 0 (BL _) ?_;intro g F;refine Fh ?_;refine zd ?_ ?_<;>intro _ h
  .have hg1:g<x.length:=by omega
   have q:=d _ (vS (i:=g) (by omega));have p:=d _ (vS (i:=g+1) (by omega));refine zB<|zi<|zg ?_;refine zo (zh Z Z Z (by omega) Gd) ?_;refine zz ?_;refine yT fun w=>?_;refine zg ?_;refine Zq 10 V Z Z<|FD ((AX (zl (zL (vc x g)))<|zE 0 Z Z Z V Z)) ?_;refine FD (yK (z:=((g+1:Nat):Int)) Z Z Z (MW some (by omega)) (wrap_i64 (by omega) (by omega))) ?_;refine FD ((wt Z Z Z (by omega) (by omega)).sub (zI (n:=(((g+1)%x.length:Nat):Int)) (Dc _ _).symm)) ?_;refine ag (zh Z Z Z (by omega) (YV (by omega))) Z Z Z<|ag ((AX (zl (zL (vc x (g+1))))<|zG Z Z Z Z)) Z Z Z<|FD ((AX (zl (eC ((vc x g,vc x (g+1)):V2×V2)))<|yQ Z Z V)) ?_;refine ab.nil<|aI Z Z Z Z Z Z Z Z GL Z Z Z fun v=>zM<|Vx [0,4,5,6,7,8,9,10,11,12,13,14,15,16,17,18,19,20,21,22,23,24,25,26,27,28,29,30,31,32,45,46,47,48,49,50] (fun (e:V2×V2) z=>z) (fun e=>[⟨some v,363,eC e,0⟩,⟨some w,48,zL (vc x g),0⟩]) (fun e=>e=gy ((vc x g,vc x (g+1)):V2×V2)) ?_ ?_
   .refine zg ?_;refine Fk (zBr r q p s) ?_;refine zd ?_ ?_<;>intro _ c
    .refine zJ<|zz ?_;refine zz ?_;refine zz ?_;refine zz ?_;refine zz ?_;refine wo _ 0 Z Z Z Z Z Z V Z Z (zy7)<|zz ?_;exact wo _ 0 Z Z Z Z Z Z V Z Z (zy8 (a:=vc x (g+1)))<|zM ⟨(vc x (g+1),vc x g),zs5 c,MM⟩
    .exact zB ⟨(vc x g,vc x (g+1)),zs6 c,MM⟩
   .rintro e u;refine zg ?_;refine ae.yield Z hy Z Z Z (by rw [u];exact zy9 hx hg1) (yU _) Z Z Z fun y=>zg ?_;refine xK ?_ ?_<;>intro f
    .exact zj ⟨.inl Z,.inr f⟩
    .obtain rfl:y=true:=by grind
     refine zB<|zH (zF (BZ _))<|zJ<|Do (g+1) ?_;exact⟨g+1,(by omega:g+1<=x.length),by omega,MM⟩
  .obtain rfl:g=x.length:=by omega
   refine Fh ?_;refine Do (m+1) ?_;exact⟨m+1,(by omega:m+1<=ps.length),by omega,by rw [znA hx,Aw,BR,Vw];exact MM⟩
 .exact zK ⟨.inr Z,.inl (by rw [wn,(C:m=ps.length),B3])⟩
def zBs:G0 G 300 [zR 1 Uq ps] (wD 402 [yo [zR 1 Uq ps]]):=by
 refine Fq func300 ?_;exact Hj
def zzb [ao G] (hk:0<k) (hl:∀ l∈ps,vE k l/\l.length<=1000000) (hs:400*k+21000<=cap) (hn:ps.length<=1000000) (hf:ps.flatten.length<=1000000):zm prog G 198 [zR 1 Uq ps] (zR 12 eC (wg ps)):=by
 have hel:=mq (ps:=ps) ps.length;rw [List.take_length] at hel
 refine zs func198 ?_;refine zg ?_;refine zf zBs ?_;refine ah [] [] [] Z Z Z Z (zBo.o (zza hk hl hs hn) C) Z Z Z ?_;rintro s5 H5 ⟨q5,hq5,rfl,rfl⟩;refine ae.ghost _ rfl (yF 0 5 rfl rfl hq5 rfl rfl (fun _ _=>rfl) (by unfold yE;omega))<|zg ?_;refine zj ?_
 exact⟨_,[],.one (.tmp Z),List.nil_sublist _,Z,Z⟩
def zBt (h:g<2):((cq b).drop (g*3)).take 3=zP (co b.1 g):=Im
def zBu (h:g<2):((cq b).drop (6+g*3)).take 3=zP (co b.2 g):=Im
def j7 (h:g<2):((zL p).drop (g*3)).take 3=zP (co p g):=Im
def zzd (h:g<2):xB (cq b) (g*3) (zP (co p g))=cq (if g=0 then ((p.1,b.1.2),b.2) else ((b.1.1,p.2),b.2)):=Im
def zze (h:g<2):xB (cq b) (6+g*3) (zP (co p g))=cq (if g=0 then (b.1,(p.1,b.2.2)) else (b.1,(b.2.1,p.2))):=Im
theorem l3 (h:Bp p k):Bq (co p g) k:=by unfold co;split;exact h.x;exact h.y
def znC (h1:Bp b.1 k) (c:Bp b.2 k) (a:Bp p k):Bp (Uk g b p).1 k/\Bp (Uk g b p).2 k:=by
 unfold Uk;split <;> split <;> exact⟨⟨by first | exact a.x | exact h1.x,by first | exact a.y | exact h1.y⟩,c⟩
def zwg (h1:Bp b.1 k) (c:Bp b.2 k) (a:Bp p k):Bp (fa g b p).1 k/\Bp (fa g b p).2 k:=by
 unfold fa;split <;> split <;> exact⟨h1,⟨by first | exact a.x | exact c.x,by first | exact a.y | exact c.y⟩⟩
def nY (h1:Bp b.1 k) (c:Bp b.2 k) (a:Bp p k):∀ g,Bp (Yr b p g).1 k/\Bp (Yr b p g).2 k
 | 0=>⟨h1,c⟩
 | g+1=>by
  obtain⟨f,e⟩:=nY h1 c a g;obtain⟨d,c2⟩:=znC (g:=g) f e a;exact zwg d c2 a
set_option maxHeartbeats 1000000 in
theorem zBv [ao G] {c j k0:Nat} (h1:Bp b.1 k) (x:Bp b.2 k) (u:Bp p k) (A:200*k+20000<=cap):CallSpec prog G 287 [G9 c,zl (zL p)] [⟨some c,j,cq b,k0⟩] (fun v H1=>v=yR []/\H1=[⟨some c,j,cq (Qg b p),k0⟩]):=by
 refine zs func287 ?_;refine zr<|ae.box Z Z Z Z Z Z fun l=>zM<|Fw 22 ?_;refine Qj [26] (fun (g:Nat) z=>(27,ML g)::z) (fun g=>[⟨some l,48,zL p,0⟩,⟨some c,j,cq (Yr b p g),k0⟩]) (fun g=>g<=2) (fun g=>2-g) 0 (BL _) ?_;intro g D;refine Fh ?_;refine FP ?_ ?_<;>intro _ r
 .have a:g<2:=by omega
  obtain⟨f,t⟩:=nY h1 x u g;obtain⟨w,s⟩:=znC (g:=g) f t u;have hx1:=l3 (g:=g) u;have hx2:=l3 (g:=g) f;have hx3:=l3 (g:=g) s;refine Fi ((Qh (ds:=[eqS (.pointer (some ⟨c,g*3,none⟩)),eqS (.pointer (some ⟨c,6+g*3,none⟩)),eqS (.pointer (some ⟨l,g*3,none⟩))]) Tryz.underlying434 Z Z Z a (by rcases (C:g=0\/g=1) with rfl | rfl <;> rfl))) ?_;refine yT fun y=>?_;refine zg ?_;refine Vx [5,26,27,28,29,47,48,49,50,51,52,53,54,55,56,57,58,59,60,61,62,63,64] (fun (i:Bx) z=>z) (fun i=>[⟨some y,433,[eqS (.pointer (some ⟨c,g*3,none⟩)),eqS (.pointer (some ⟨c,6+g*3,none⟩)),eqS (.pointer (some ⟨l,g*3,none⟩))],0⟩,⟨some l,48,zL p,0⟩,⟨some c,j,cq i,k0⟩]) (fun i=>i=(Uk g (Yr b p g) p)) ?_ ?_
  .refine Fw 10 ?_;refine Fi ((AX (zl (zP (co p g)))<|zE 1 Z Z Z (j7 a) Z)) ?_;refine Fi ((AX (zl (zP (co (Yr b p g).1 g)))<|zE 2 Z Z Z (zBt a) Z)) ?_;refine Fl Z Z (xo (by omega)) ?_;refine Fo ?_ ?_<;>intro e o
   .refine wW 7 V<|Fh ?_;refine Fi ((AX (zl (zP (co p g)))<|zE 1 Z Z Z (j7 a) Z)) ?_;refine wo _ 2 Z Z Z Z Z Z (by exact Ew (C:g*3+3<=12)) Z Z (zzd a)<|zM ?_
    exact⟨_,by rw [zxl,MX (vG.1 (MO e))],MM⟩
   .exact⟨_,by rw [zxl,MY (fun h=>MP e (vG.2 h))],MM⟩
  .rintro i rfl;refine Fw 10 ?_;refine Fi ((AX (zl (zP (co p g)))<|zE 1 Z Z Z (j7 a) Z)) ?_;refine Fi ((AX (zl (zP (co (Uk g (Yr b p g) p).2 g)))<|zE 2 Z Z Z (zBu a) Z)) ?_;refine Fl Z Z (xo (by omega)) ?_;refine zd ?_ ?_<;>intro d m
   .have hst:Yr b p (g+1)=if g=0 then ((Uk g (Yr b p g) p).1,(p.1,(Uk g (Yr b p g) p).2.2)) else ((Uk g (Yr b p g) p).1,((Uk g (Yr b p g) p).2.1,p.2)):=by show fa g (Uk g (Yr b p g) p) p=_;rw [zxm,MX (vQ.1 (MO d))]
    refine wW 7 V<|zg ?_;refine Fi ((AX (zl (zP (co p g)))<|zE 1 Z Z Z (j7 a) Z)) ?_;refine wo _ 2 Z Z Z Z Z Z (by exact Ew (C:6+g*3+3<=12)) Z Z (zze a)<|zM ?_
    exact IX
   .have hst:Yr b p (g+1)=(Uk g (Yr b p g) p):=by show fa g (Uk g (Yr b p g) p) p=_;rw [zxm,MY (fun h=>MP d (vQ.2 h))]
    exact zB<|IX
 .obtain rfl:g=2:=by omega
  rw [zfm];exact zK ⟨_,[_],.none,B5 _ _,Z,Z⟩
theorem zwh (h1:Bp b.1 k) (c:Bp b.2 k) (a:Bp p k):Bp (Qg b p).1 k/\Bp (Qg b p).2 k:=by rw [<-zfm];exact nY h1 c a 2
def nf:∀ (l:List V2) (b:Bx),vE k l->Bp b.1 k->Bp b.2 k->Bp (l.foldl Qg b).1 k/\Bp (l.foldl Qg b).2 k
 | [],_,_,h1,h2=>⟨h1,h2⟩
 | p::l,b,hl,h1,h2=>by
  obtain⟨c,a⟩:=zwh h1 h2 (hl p (Dv ..));exact nf l _ (fun q hq=>hl q (Bi _ hq)) c a
def zwi (h:0<l.length):gz l=l.foldl Qg (l.getD 0 (0,0),l.getD 0 (0,0)):=by
 cases l with
 | nil=>rfl
 | cons x l=>rfl
def zs8 (a:0<k) (b:vE k l):Bp (gz l).1 k/\Bp (gz l).2 k:=by
 cases l with
 | nil=>exact⟨⟨xb bq_zero a,xb bq_zero a⟩,⟨xb bq_zero a,xb bq_zero a⟩⟩
 | cons x l=>exact nf _ _ b (b x (Dv ..)) (b x (Dv ..))
def zDf [ao G] (s:0<k) (c:vE k l) (o:200*k+20000<=cap) (r:l.length<=1000000):G0 G 186 [zR 6 zL l] (yR [zl (cq (gz l)),zp (decide (0<l.length))]):=by
 refine Fq func186 ?_;refine Fm fun b2=>?_;refine Fk (jU s c C r) ?_;refine FQ ?_ ?_<;>intro b f
 .have a:l.length=0:=by have:=MU.1 b;omega
  obtain rfl:=Aa a;apply zr;(iterate 2 refine zo (zb Z Z (UT (p:=0) (q:=0) J J J J)) ?_);refine zg ?_;exact zj zt
 .have a:0<l.length:=by have:=MT.1 b;omega
  refine xv 10 [7,9] _ V (.cons _ .slnil)<|FC (zC Z Z) ?_;refine FC (zh Z Z Z C (y:=(l.getD 0 (0,0))) (by rw [Int.toNat_zero];exact WK a)) ?_;refine FC (zh Z Z Z C (y:=(l.getD 0 (0,0))) (by grind)) ?_
  refine .loc1n 0 (xf Z Z Z Z Gg) Z Z Z ?_;rintro s1 H1 ⟨rfl,rfl⟩;refine⟨(.cons _ .slnil),?_⟩;refine FB ?_;refine .loc1n 0 (xf Z Z Z Z (by rw [xJ];simp)) Z Z Z ?_;rintro s1 H1 ⟨rfl,rfl⟩;refine⟨(.cons _ .slnil),?_⟩;refine ab.nil<|Fh ?_;refine Qj [2,3,22,23,31] (fun (g:Nat) z=>(24,ML g)::z) (fun g=>[⟨some b2,101,cq ((l.take g).foldl Qg (l.getD 0 (0,0),l.getD 0 (0,0))),0⟩]) (fun g=>g<=l.length) (fun g=>l.length-g) 0 (BL _) ?_;intro g t;obtain⟨m,j⟩:=nf (l.take g) ((l.getD 0 (0,0)),(l.getD 0 (0,0))) (fun p hp=>c p (BT hp)) (c _ (AE (WK a))) (c _ (AE (WK a)));refine Fh ?_;refine FP ?_ ?_<;>intro _ d
  .obtain⟨x,hx⟩:=FU l g;have h:=c x (AE hx);have i:=yp hx;refine Fh ?_;refine Fm fun u=>?_;refine ah [_] [_] [] Z Z Z Z (zBv m j h o) Z Z Z ?_;rintro n H29 ⟨rfl,rfl⟩;refine zM<|Fv ?_;refine Do (g+1) ?_;exact⟨g+1,(by omega:g+1<=l.length),C,by rw [i,Dt];exact MM⟩
  .obtain rfl:g=l.length:=C;rw [B3,<-zwi a];refine Fh ?_;exact zj (zu (e:=by rw [MR a];rfl))
def zzf [ao G] (e:0<k) (g:∀ l∈ps,vE k l) (h:200*(k+1)+21000<=cap) (f:ps.length<=1000000) (hf:ps.flatten.length<=1000000):G0 G 117 [zR 1 Uq ps] (zl (cq (yP ps))):=by
 have a:vE k ps.flatten:=fun p hp=>by obtain⟨l,h1,h2⟩:=EH.1 hp;grind
 obtain⟨c,b⟩:=zs8 e a;have d:Bp ((1,1):V2) 1:=⟨bq_one,bq_one⟩;refine zs func117 ?_;refine zr<|yT fun b2=>?_;refine zg ?_;refine zf (ng f hf) ?_;refine Fk (zDf e a C hf) ?_;refine yT fun j=>?_;refine zg ?_;refine zo (zb Z Z (UT (p:=1) (q:=1) J J J J)) ?_;refine yT fun i=>?_;refine zg ?_;refine xv 10 [9] _ V (.cons_cons _ (.cons_cons _ (.cons _ .slnil)))<|ab.one (zS Z Z Z) Z Z Z V<|ab.one ((AX (zl (zL ((gz ps.flatten).1)))<|zE 1 Z Z Z V Z)) Z Z Z V<|ab.one ((AX (zl (zL (((1,1):V2))))<|zE 0 Z Z Z V Z)) Z Z Z V<|ab.one (zb Z Z (gW c d C)) Z Z Z V<|ab.one (zS Z Z Z) Z Z Z V<|ab.one ((AX (zl (zL ((gz ps.flatten).2)))<|zE 1 Z Z Z V Z)) Z Z Z V<|ab.one ((AX (zl (zL (((1,1):V2))))<|zE 0 Z Z Z V Z)) Z Z Z V<|ab.one (zb Z Z (jM b d C)) Z Z Z V<|FC ((AX (zl (cq (yP ps)))<|yQ Z Z V)) ?_;refine .loc1n 2 (xf Z Z Z Z Gg) Z Z Z ?_;rintro s1 H1 ⟨rfl,rfl⟩;refine⟨(.cons_cons _ (.cons_cons _ (.cons _ .slnil))),?_⟩;exact ab.nil<|zM<|zj zt
end Go.Proofs
