/- The planner in general: costs and steps of all nodes. -/
import Derived.Test.YtceodgbmninaoaaGreatDoorSru
import Derived.Test.YtceodgbmninaoaaGreatDoorSsc
import Derived.Test.YtceodgbmninaoaaGreatDoorSqt
import Derived.Lib.AppendStr
import Derived.Lib.UnsafeStr
set_option linter.all false
namespace Num.Pl
open Go Go.Proofs Num.Hp
variable {S:List Wt} {n k:Nat} {w:Wt}
def zDC (h:S[k]? =some w):csF n (S.take (k+1))=(csF n (S.take k)).set w.2.2 w.1:=by unfold csF;rw [yp h,Dt];rfl
def zDD (h:S[k]? =some w):Kd n (S.take (k+1))=(Kd n (S.take k)).set w.2.2 (w.2.1:Int):=by unfold Kd;rw [yp h,Dt];rfl
end Num.Pl
namespace Go.Proofs
open Go Go.Sv Num Num.Pl Num.Hp
abbrev iv (z:Int):List SV:=[ze .i64 z]
def zzY {l:List Int} {i:Nat} (z:Int) (h:i<l.length):xB (l.flatMap iv) (i*1) [MK z]=(l.set i z).flatMap iv:=Xi (f:=iv) (st:=1) GY z h
def zzZ {l:List Rat} {i:Nat} (z:Rat) (h:i<l.length):xB (l.flatMap zP) (i*3) (zP z)=(l.set i z).flatMap zP:=Xi (f:=zP) (st:=3) GY z h
variable {G:Imm}
def mc [ao G] {g:Gr} {kb fr K:Nat} (P:GrOk g kb) (h0:0<g.length) (Y:1+g.length*(kb+1)<=K) (W:200*(K+kb)+40000<=cap) (N:g.length<=1000000) (hF:1+Jf g (List.replicate g.length false)<=500000000) (M:∀ a,(g.getD a []).length<=500000000):G0 G 448 [zR 1 fu g,ML fr] (yR [zR 3 zP (csF g.length (xD g fr)),zR 1 iv (Kd g.length (xD g fr))]):=by
 refine zs Tryz.func448 ?_;refine zr<|yT fun R=>?_;refine yT fun Q=>?_;refine zM<|zi<|zH (yI 46 3)<|Fs (yI 3 1) ?_;refine Ju [0,1,4,5,6,8,19,20,21,22,23,24,25,26,27,28,29,30,31,32,33,34,35,36,37,38,39] (fun (m:Nat) (q:G3) (p:G3) z=>(9,ML m)::z) (fun m q p=>[rowE p 3 1 m ((List.replicate m (-1:Int)).flatMap iv),rowE q 46 3 m ((List.replicate m (0:Rat)).flatMap zP),⟨some Q,145,[eqS (rowV p m)],0⟩,⟨some R,77,[eqS (rowV q m)],0⟩]) (fun m q p=>m<=g.length/\zX q m/\zX p m) (fun m q p=>g.length-m) 0 none none ⟨BL _,Z,Z⟩ ?_;rintro m q p ⟨hm,d,b⟩;refine Fh ?_;refine zd ?_ ?_<;>intro _ I
 .refine Fh ?_;refine TA.T (qA 3 4 J (dQ [0,1,2,5,3,4,6,7,8] V ?_) (dQ [0,1,2,4,5,3,6,7,8] V ?_))
  .refine Kt 9 [4,6,7,8] [] V (BZ _)<|FC (zQ 3 Z Z Z Z) ?_;refine ab.one (AX (zl (zP 0))<|zb Z Z (wK J J)) Z Z Z V<|ab.one (zy Z Z J Z B Z Z) Z Z Z V<|ag (zy Z Z J Z B Z Z) Z Z Z<|ab.nil ⟨_,Z,ar.append 1 Z Z Z Z Z Z Z d (by simp) (fun z t=>by grind) GF GF fun s o=>⟨BZ _,?_⟩⟩
   refine ab.one (zQ 2 Z Z Z Z) Z Z Z V<|ab.nil ⟨_,Z,ar.append 0 Z Z Z Z Z Z Z b (by simp) (fun z t=>by grind) GF GF fun r j=>⟨BZ _,?_⟩⟩
   refine ab.nil ⟨_,Z,ar.store 3 Z Z Z Z Z Z Z Z (BZ _) ?_⟩;refine ab.nil ⟨_,Z,ar.store 2 Z Z Z Z Z Z Z Z (BZ _) ?_⟩;refine ab.nil (ae.nil ?_);refine zJ<|Do (m+1) ?_;exact⟨m+1,s,r,⟨C,o,j⟩,C,MN (by rw [List.replicate_succ',List.replicate_succ',CB,CB];rfl)⟩
  .refine Kt 9 [5,6,7,8] [] V (BZ _)<|FC (zQ 3 Z Z Z Z) ?_;refine ab.one (AX (zl (zP 0))<|zb Z Z (wK J J)) Z Z Z V<|ab.one (zy Z Z J Z B Z Z) Z Z Z V<|ab.one (zQ 2 Z Z Z Z) Z Z Z V<|ag (zy Z Z J Z B Z Z) Z Z Z<|ab.nil ⟨_,Z,ar.append 1 Z Z Z Z Z Z Z d (by simp) (fun z t=>by grind) GF GF fun s o=>⟨BZ _,?_⟩⟩
   refine ab.nil ⟨_,Z,ar.append 0 Z Z Z Z Z Z Z b (by simp) (fun z t=>by grind) GF GF fun r j=>⟨BZ _,?_⟩⟩;refine ab.nil ⟨_,Z,ar.store 3 Z Z Z Z Z Z Z Z (BZ _) ?_⟩;refine ab.nil ⟨_,Z,ar.store 2 Z Z Z Z Z Z Z Z (BZ _) ?_⟩;refine ab.nil (ae.nil ?_);refine zJ<|Do (m+1) ?_;exact⟨m+1,s,r,⟨C,o,j⟩,C,MN (by rw [List.replicate_succ',List.replicate_succ',CB,CB];rfl)⟩
 .obtain rfl:m=g.length:=C;obtain⟨H,E,rfl⟩:=mg d C;obtain⟨F,A,rfl⟩:=mg b C;refine Fh ?_;refine Fk gR ?_;refine xK ?_ ?_<;>intro u
  .have hf:fr<g.length:=by have:=MO u;omega
   obtain⟨dn,O⟩:=Qn P hf;refine zg ?_;refine Fk ztR ?_;refine uN Z Z (zqm P hf Y W N hF M) (fun S h=>Yq GY h) J Z
    (fun k h i=>i=(0,false)/\h=[rowE (some (F,A)) 3 1 g.length ((Kd g.length ((xD g fr).take k)).flatMap iv),rowE (some (H,E)) 46 3 g.length ((csF g.length ((xD g fr).take k)).flatMap zP),⟨some Q,145,[eqS (rowV (some (F,A)) g.length)],0⟩,⟨some R,77,[eqS (rowV (some (H,E)) g.length)],0⟩])
    (fun _ _ _=>False) ⟨Z,Z⟩ ?_ ?_ ?_
   .rintro l k S h i X ⟨rfl,rfl⟩;obtain⟨w,L,rfl⟩:=uQ X;have U:=O.ns w (AE L);have x:=kS g.length ((xD g fr).take k);have v:=Ul g.length ((xD g fr).take k);refine zJ<|yT fun b6=>?_;refine zg ?_;refine⟨Z,?_⟩;refine zN<|vA 14 [11,13] _ V (.cons_cons _ (.cons _ (.cons _ (.cons_cons _ (.cons_cons _ .slnil)))))<|ab.one (zQ 4 Z Z Z Z) Z Z Z V<|ab.one (zS Z Z Z) Z Z Z V<|ab.one ((AX (MK (w.2.2:Nat))<|zQ 0 Z Z Z Z)) Z Z Z V<|ag (zQ 1 Z Z Z Z) Z Z Z<|ag (zS Z Z Z) Z Z Z<|ag ((AX (MK (w.2.2:Nat))<|zQ 0 Z Z Z Z)) Z Z Z<|ab.one (zS Z Z Z) Z Z Z V<|FC ((AX (zl (zP (w.1)))<|zE 0 Z Z Z V Z)) ?_;refine FC ((zY (w.2.2) Z Z Z Z C)) ?_;refine .loc1n 2 (xf (off:=w.2.2*3) Z Z Z Z (by rw [yG (st:=3) GY,x];grind)) Z Z Z ?_
    rintro s1 H1 ⟨rfl,rfl⟩;rw [zzZ w.1 (by omega)];refine⟨(.cons_cons _ (.cons _ (.cons _ (.cons_cons _ (.cons_cons _ .slnil))))),?_⟩;refine FC ((zY (w.2.2) Z Z Z Z C)) ?_;refine .loc1n 1 (xf (off:=w.2.2*1) Z Z Z Z (by rw [yG (st:=1) GY,v];grind)) Z Z Z ?_;rintro s2 H2 ⟨rfl,rfl⟩;rw [zzY (w.2.1:Int) (by omega)];refine⟨(.cons_cons _ (.cons _ (.cons _ (.cons_cons _ (.cons_cons _ .slnil))))),?_⟩;exact ab.nil<|ae.ghost _ Z (zF (B5 _ _))<|zM ⟨Z,by rw [zDC L,zDD L];rfl⟩
   .rintro h i D ⟨rfl,rfl⟩;rw [wn,B3];refine zH (vB [] [] [] [_] [_] b (Ul _ _) Z GX GK)<|zH (vB [] [] [] [_] [] d (kS _ _) Z GX GK)<|xv 4 [2,3] _ V (.cons_cons _ (.cons_cons _ .slnil))<|FC (zQ 1 Z Z Z Z) ?_;refine .loc1n 1 (xf Z Z Z Z Gg) Z Z Z ?_;rintro s1 H1 ⟨rfl,rfl⟩;refine⟨(.cons_cons _ (.cons_cons _ .slnil)),?_⟩;refine ab.nil ⟨_,Z,?_⟩;refine .loc1n 0 (xf Z Z Z Z Gg) Z Z Z ?_;rintro s1 H1 ⟨rfl,rfl⟩;refine⟨(.cons_cons _ (.cons_cons _ .slnil)),?_⟩;exact ab.nil<|zM<|zj zt
   simp
  .have hf:g.length<=fr:=by have:=MP u;omega
   rw [<-zwn hf,<-km hf];refine zB<|zH (vB [] [] [] [_] [_] b (Ul _ _) Z GX GK)<|zH (vB [] [] [] [_] [] d (kS _ _) Z GX GK)<|xv 4 [2,3] _ V (.cons_cons _ (.cons_cons _ .slnil))<|FC (zQ 1 Z Z Z Z) ?_;refine .loc1n 1 (xf Z Z Z Z Gg) Z Z Z ?_;rintro s1 H1 ⟨rfl,rfl⟩;refine⟨(.cons_cons _ (.cons_cons _ .slnil)),?_⟩;refine ab.nil ⟨_,Z,?_⟩;refine .loc1n 0 (xf Z Z Z Z Gg) Z Z Z ?_;rintro s1 H1 ⟨rfl,rfl⟩;refine⟨(.cons_cons _ (.cons_cons _ .slnil)),?_⟩;exact ab.nil<|zM<|zj zt
end Go.Proofs
namespace Go.Sv
open Go Go.RowKit
section
variable {P:Program} {G:Imm} {E:aD} {r:Option Nat} {gd:G4} {o:Oper} {g:Ha}
def OpL.frame (pre suf:HL) {Hp:HL} {Kl:SV->HL->Prop} (h:OpL P G o g Hp Kl):OpL P G o g (pre++Hp++suf) (fun s H'=>∃ H1,Kl s H1/\H'=pre++H1++suf):=by
 intro n r I W a d Q m i l k;refine h n r I W a d Q m (i.less ((B6 pre Hp).trans (B7 _ suf))) l fun v I' W' s H1 p hf e f j=>k v I' W' s _ ⟨H1,p,Z⟩ (hf.weaken F9 fun b c=>?_) e (i.frame f hf) j;simp only [we,Bu] at c ⊢
 grind
def ar.tail (pre:HL) {n t:Nat} {h Hc Hp:HL} {a:Nat×Bool} {C:Ha->HL->Nat×Bool->Prop} {Kl:SV->HL->Prop} (c:OpL P G o g Hp Kl) (i:h=pre++Hp) (e:zO gd g o true) (ht:o.dst=some t) (f:Nat.blt t n=true) (b:∀ s H',Kl s H'->Hc.Sublist (pre++H')/\C ((t,s)::g) (pre++H') a):ar P G E gd n Hc o g h a C:=
 .loc pre Hp [] (by grind) c e (by unfold aL;grind) fun s H' d=>by rw [BV,ht];exact b s H' d
def zmg {c:Nat} {h:HL} {d:G7} {i:Nat×Bool} (e st:Nat):∀ k,aF G E r ⟨c,g,h,d,i⟩ ⟨c,g,h++List.replicate k (rowE none e st 0 []),d,i⟩:=fun k=>by
 have m:bs (h++List.replicate k (rowE none e st 0 []))=bs h:=by
  rw [we,show bs (List.replicate k (rowE none e st 0 []))=[] from ?_,BV]
  induction k with
  | zero=>rfl
  | succ k ih=>assumption
 have n:∀ F b,own ⟨c,g,h++List.replicate k (rowE none e st 0 []),d,i⟩ F b↔own ⟨c,g,h,d,i⟩ F b:=fun F b=>by simp only [own];rw [m]
 intro I F a W j;exact⟨I,{j with
  h:=⟨by rw [m];exact j.h.nodup,fun p hp=>by
   rcases Bu.1 hp with hp | hp
   . exact j.h.mem p hp
   . rw [(EI.1 hp).2];rfl⟩
  f:=fun b hf=>by have:=j.f b hf;grind
  l:=fun k o=>⟨(j.l k o).1,fun h=>(j.l k o).2 ((n F k).1 h)⟩},by
  rw [show own ⟨c,g,h++List.replicate k (rowE none e st 0 []),d,i⟩ F=own ⟨c,g,h,d,i⟩ F from funext fun b=>propext (n F b)]
  exact Fram.refl _ _ _⟩
end
end Go.Sv
namespace Num.Pl
open Go Go.Proofs Num.Hp
def zB9 {n:Nat} {js:List Jn} {ls:List Rat} {m:Nat} {j:Jn} (h:js[m]? =some j):grN n js ls (m+1)=if okJ n j then qg (qg (grN n js ls m) j.1.toNat (j.2.toNat,uR ls m)) j.2.toNat (j.1.toNat,uR ls m) else grN n js ls m:=by
 show (match js[m]? with | some j=>_ | none=>_)=_;rw [h]
end Num.Pl
namespace Go.Proofs
open Go Go.Sv Num Num.Pl Num.Hp
variable {a n:Nat} {b:Bool}
abbrev Rw2:=Option (Nat×Nat)×List Num.Pl.Rd
abbrev o6 (x:Rw2):List SV:=[eqS (rowV x.1 x.2.length)]
abbrev o5 (x:Rw2):HE:=rowE x.1 506 4 x.2.length (x.2.flatMap fM)
def Wp (st:List Rw2):HL:=st.map o5
def Va (st:List Rw2):List SV:=st.flatMap o6
def gQ (st:List Rw2):Gr:=st.map (·.2)
def zjt (st:List Rw2):(Va st).length=st.length:=by unfold Va;rw [yG GY,Cr]
def zju {st:List Rw2} {i:Nat} (x:Rw2) (h:i<st.length):xB (Va st) (i*1) (o6 x)=Va (st.set i x):=Xi (f:=o6) (st:=1) GY x h
def nv:∀ {st:List Rw2} {i:Nat} {x:Rw2},st[i]? =some x->(Va st)[i*1]? =some (eqS (rowV x.1 x.2.length))
 | y::st,0,x,h=>by cases h;rfl
 | y::st,i+1,x,h=>by
  unfold Va;rw [BM,Cr];show (Va st)[i]? =_;have:=nv (i:=i) h;grind
def zqo (n:Nat):(yD [Value.slice none 0 0] n).map eqS=Va (List.replicate n (none,[])):=by
 have e:yD [Value.slice none 0 0] n=List.replicate n (Value.slice none 0 0):=by
  unfold yD;refine Dj B fun i h1 a=>?_;simp [BN]
 rw [e,CJ]
 induction n with
 | zero=>rfl
 | succ n ih=>rw [Cn,Cn];unfold Va at *;rw [BM,<-ih (by
  unfold yD;refine Dj B fun i h1 a=>?_
  simp [BN])];rfl
def zn4 {st:List Rw2} {x:Rw2} {q:G3} {r:Num.Pl.Rd} (h:st[a]? =some x):gQ (st.set a (q,x.2++[r]))=qg (gQ st) a r:=by
 unfold gQ qg;simp_all
def zdZ {st:List Rw2} {x y:Rw2} (h:st[a]? =some x):Wp st=Wp (st.take a)++[o5 x]++Wp (st.drop (a+1))/\Wp (st.set a y)=Wp (st.take a)++[o5 y]++Wp (st.drop (a+1)):=by
 have b:=(EC.1 h).1;have c:st=st.take a++x::st.drop (a+1):=by
  conv=>lhs;rw [<-BB a st]
  rw [AO b,(EC.1 h).2]
 have e2:st.set a y=st.take a++y::st.drop (a+1):=List.set_eq_take_append_cons_drop .. |>.trans (MX b)
 unfold Wp;grind
def dN (n:Nat) (st:List Rw2):Prop:=∀ x∈st,zX x.1 x.2.length/\x.2.length<=n
def dN.set {st:List Rw2} (h:dN n st) {x:Rw2} (h1:zX x.1 x.2.length) (b:x.2.length<=n+1):dN (n+1) (st.set a x):=fun y hy=>by
 rcases AZ hy with hy | rfl
 .exact⟨(h y hy).1,D5 (h y hy).2⟩
 grind
def dN.mono {m:Nat} {st:List Rw2} (h:dN n st) (a:n<=m):dN m st:=fun y hy=>⟨(h y hy).1,Ag (h y hy).2 a⟩
def zfA {P:Program} {G:Imm} {E:aD} {r:Option Nat} {g:Ha} {d:G7} {i:Nat×Bool} {c:Code} {Q:Hb} {b0:Option Nat} {b k0:Nat}:∀ (st:List Rw2) (a:List SV),(∀x∈st,zX x.1 x.2.length/\x.2.length<=yE)->T P G E r c ⟨n,g,[⟨b0,b,a++(gQ st).flatMap fu,k0⟩],d,i⟩ Q->T P G E r c ⟨n,g,Wp st++[⟨b0,b,a++Va st,k0⟩],d,i⟩ Q
 | [],a,_,h=>h
 | x::st,a,hx,h=>by
  obtain⟨h1,e⟩:=hx x (Dv ..);refine zH (vB a (Va st) [] (Wp st) [] h1 Z Z GX e) ?_;have:=zfA st (a++[zR 4 fM x.2]) (fun y hy=>hx y (Bi _ hy)) (by rw [Bw];exact h);grind
variable {G:Imm}
def zn5 {P:Program} {o:Oper} {g:Ha} {t b:Nat} {zs:List Value} [am P t 506 4] [av P 506 zs b] {x y:Operand} {st:List Rw2} {a m:Nat} {z:Rw2} {rd:Num.Pl.Rd}
 (i:o.op= .call {callee:=.builtin .append,args:= #[x,y],argTypes:= #[t,t]}) (hx:yW g x=some (eqS (rowV z.1 z.2.length))) (hy:yW g y=some (zR 4 id [fM rd])) (e:st[a]? =some z) (j:dN m st) (w:(m+1)*b<=yE) (l:m+1<=yE):
 OpL P G o g (Wp st) (fun s H'=>∃ c,zX c (z.2++[rd]).length/\s=eqS (rowV c (z.2++[rd]).length)/\H'=Wp (st.set a (c,z.2++[rd]))):=by
 obtain⟨h1,E⟩:=j z (AE e);have A:=(zdZ (y:=z) e).1;have h:=OpL.frame (Wp (st.take a)) (Wp (st.drop (a+1))) (UE (G:=G) (P:=P) (cs:=z.2.flatMap fM) i hx hy h1 (yG GY _) (fun z e=>by rw [AS.1 e];rfl) (Ag (BK _ GV) w) GV);rw [show Wp (st.take a)++[rowE z.1 506 4 z.2.length (z.2.flatMap fM)]++Wp (st.drop (a+1))=Wp st from A.symm] at h
 intro n r I W D d Q l u p k;refine h n r I W D d Q l u p fun v I' W' s H' q=>?_;obtain⟨H1,⟨c,f,rfl,rfl⟩,rfl⟩:=q;have e2:=(zdZ (y:=(c,z.2++[rd])) e).2;grind
def zxI {q:G3} {n:Nat} {z:Int} (hq:zX q n):G0 G 449 [eqS (rowV q n),MK z] (zp (decide (0<=z/\z<n))):=by
 refine zs Tryz.func449 ?_;refine zr<|zz ?_;refine zx<|zz ?_;refine FI ?_ ?_<;>intro _ a
 .refine zg ?_;refine Fi ((xd Z Z hq)) ?_;exact zj (zu (e:=by grind))
 .refine zg ?_;exact zj (zu (e:=by grind))
def mb [ao G] {js:List Jn} {ls:List Rat} {N kb:Nat} {n:Nat} (hn:n<=1000000000) (hN:N=min n 131072) (a2:js.length<=200000000) (Y:∀ q∈ls,Bq q kb) (a1:ls.length<=200000000) (hs:100*kb+20000<=cap):G0 G 447 [ML n,zR 2 Uh js,zR 3 zP ls] (zR 1 fu (qh N js ls)):=by
 refine zs Tryz.func447 ?_;refine zr<|zz ?_;refine zx<|zz ?_;refine zo ((AX (ML n)<|(Yb Z Z Z).sub (zI C))) ?_;refine zo ((AX (ML N)<|(VH Z Z Z).sub (zI C))) ?_;refine ae.make Z Z Z Z Z Z Z C C GK fun g s=>zg ?_;apply zi;rw [Cr,zqo];refine zH (zmg 506 4 N) ?_;rw [show [rowE (some (g,N)) 504 1 N (Va (List.replicate N (none,[])))]++List.replicate N (rowE none 506 4 0 [])=rowE (some (g,N)) 504 1 N (Va (List.replicate N (none,[])))::Wp (List.replicate N (none,[])) by unfold Wp;rw [CJ];rfl]
 refine zg ?_;refine Xt [2,6,7,15,16,90] (fun (i:Nat) (st:List Rw2) z=>(17,ML i)::z) (fun i st=>rowE (some (g,N)) 504 1 N (Va st)::Wp st) (fun i st=>i<=js.length/\st.length=N/\gQ st=Num.Pl.grN N js ls i/\dN (2*i) st) (fun i st=>js.length-i) 0 (List.replicate N (none,[])) ⟨BL _,CN,by unfold gQ;rw [CJ];rfl,fun x hx=>by rw [(EI.1 hx).2];exact⟨Z,BL _⟩⟩ ?_;rintro i st ⟨hi,I,U,k⟩;refine Fh ?_;refine zd ?_ ?_<;>intro _ Q
 .obtain⟨j,hj⟩:=FU js i;have v:=zB9 (n:=N) (ls:=ls) hj;refine zB<|zi<|zg ?_;refine zo (zh Z Z Z C (hj)) ?_;refine zz ?_;refine yT fun X=>?_;refine zg ?_;refine zi<|Vx [2,6,7,8,9,10,15,16,17,18,19,20,21,41,42,43,44,45,46,47,48,49,50,51,52,53,54,55,56,57,58,59,60,61,62,63,64,65,66,67,68,69,70,71,72,73,74,75,76,77,78,79,80,81,82,83,84,85,86,87,88,89,90] (fun (c:Bool) z=>(40,zp c)::z) (fun c=>⟨some X,200,Uh j,0⟩::rowE (some (g,N)) 504 1 N (Va st)::Wp st) (fun c=>c= !okJ N j) ?_ ?_
  .refine zJ<|zz ?_;refine zz ?_;refine zz ?_;refine zz ?_;refine ae.oneB (zZ Z Z Z Z) Z Z Z (fun u=>?_) (fun u=>?_)
   .have o:=MU.1 u;refine zg ?_;exact⟨true,by unfold okJ;grind,MM⟩
   .have o:=MT.1 u;refine zg ?_;refine zf (zxI s) ?_;refine zz ?_;refine ae.oneB (xl Z Z Z) Z Z Z (fun d=>?_) (fun d=>?_)
    .refine zg ?_;exact⟨true,by unfold okJ;grind,MM⟩
    .refine zg ?_;refine Fk (zxI s) ?_;exact⟨!decide (0<=j.2/\j.2<(N:Int)),by unfold okJ;grind,MM⟩
  .rintro c D;refine xK ?_ ?_<;>intro F
   .have R:okJ N j=false:=by rw [F] at D;simpa using D.symm
    rw [MY (by grind)] at v
    refine zK<|zH (zF (B5 _ _))<|zJ<|Do (i+1) ?_;exact⟨i+1,st,⟨C,I,U.trans v.symm,k.mono C⟩,C,MM⟩
   .have A:okJ N j=true:=by rw [F] at D;simpa using D.symm
    rw [MX A] at v
    obtain⟨a0,a4,a3,W,e2⟩:=nU A;refine zg ?_;refine zo ((AX (zl (zP 0))<|zb Z Z (wK J J))) ?_;refine yT fun P=>?_;refine zg ?_;refine Vx [2,6,7,8,9,10,15,16,17,18,19,20,21,22,23,24,25,26,27,28,29,30,31,32,33,34,35,36,37,38,39,40,41,59,60,61,62,63,64,65,66,67,68,69,70,71,72,73,74,75,76,77,78,79,80,81,82,83,84,85,86,87,88,89,90] (fun (f:Rat) z=>z) (fun f=>⟨some P,46,zP f,0⟩::⟨some X,200,Uh j,0⟩::rowE (some (g,N)) 504 1 N (Va st)::Wp st) (fun f=>f=uR ls i) ?_ ?_
    .refine Vx [2,6,7,8,9,10,15,16,17,18,19,20,21,22,23,24,25,26,27,28,29,30,31,32,33,34,35,36,37,38,39,40,41,54,55,56,57,58,59,60,61,62,63,64,65,66,67,68,69,70,71,72,73,74,75,76,77,78,79,80,81,82,83,84,85,86,87,88,89,90] (fun (c:Bool) z=>(53,zp c)::z) (fun c=>⟨some P,46,zP 0,0⟩::⟨some X,200,Uh j,0⟩::rowE (some (g,N)) 504 1 N (Va st)::Wp st) (fun c=>c=decide (i<ls.length/\0<ls.getD i 0)) ?_ ?_
     .apply zJ;(iterate 3 refine zz ?_);refine ae.oneB (zZ Z Z Z Z) Z Z Z (fun t=>?_) (fun t=>?_)
      .have w:=MO t;obtain⟨q,hq⟩:=FU ls i;have K:=Y q (AE hq);have p:ls.getD i 0=q:=by rw [Ay,hq];rfl
       refine zg ?_;refine zo (zh Z Z Z C hq) ?_;refine zz ?_;refine Fk (qe K C) ?_;exact⟨decide (0<vK q 0),decide_eq_decide.2 ⟨fun h=>⟨C,by rw [p];exact vQ.1 h⟩,fun h=>vQ.2 (by grind)⟩,MM⟩
      .have w:=MP t;refine zg ?_;exact⟨false,(MS fun h=>w C).symm,MM⟩
     .rintro c D;refine xK ?_ ?_<;>intro E
      .have S:=MO (D.symm.trans E);obtain⟨q,hq⟩:=FU ls i;have K:=Y q (AE hq);have p:ls.getD i 0=q:=by rw [Ay,hq];rfl
       refine zg ?_;refine zo (zh Z Z Z C hq) ?_;refine zz ?_;refine Fi (zb Z Z (wT (q:=q) C)) ?_;exact⟨q,by unfold uR;grind,MM⟩
      .exact zB ⟨0,by unfold uR;grind,MM⟩
    .rintro f rfl;obtain⟨x,hx⟩:=FU st (j.1.toNat);refine xv 16 [13,15] _ V (.cons_cons _ (.cons_cons _ (.cons _ (BZ _))))<|FD (zC Z Z) ?_;refine FC ((zY (j.1.toNat) Z Z Z W.symm C)) ?_;refine ab.one ((AX (eqS (rowV x.1 x.2.length))<|zQ 2 Z Z Z (nv hx))) Z Z Z V<|ab.one (zS Z Z Z) Z Z Z V<|ab.one ((AX (MK j.2)<|zQ 1 Z Z Z Z)) Z Z Z V<|ab.one ((AX (zl (zP ((uR ls i))))<|zE 0 Z Z Z V Z)) Z Z Z V<|FC ((AX (zl (fM (j.2.toNat,uR ls i)))<|(AX (zl ([MK j.2]++zP (uR ls i)))<|yQ Z Z V).sub (by rw [<-e2];exact fun _ _ h=>h))) ?_;refine ar.tail [_,_,_] (zn5 Z Z Z hx k GK GK) Z Z Z Z ?_;rintro s1 H1 ⟨b,M,rfl,rfl⟩;refine⟨(.cons_cons _ (.cons_cons _ (.cons _ (BZ _)))),?_⟩;refine FC ((zY (j.1.toNat) Z Z Z W.symm C)) ?_;refine .loc1n 2 (xf (off:=j.1.toNat*1) Z Z Z Z (by rw [zjt];grind)) Z Z Z ?_
     rintro s2 H2 ⟨rfl,rfl⟩;rw [show xB (Va st) (j.1.toNat*1) [eqS (rowV b (x.2++[(j.2.toNat,uR ls i)]).length)]=Va (st.set j.1.toNat (b,x.2++[(j.2.toNat,uR ls i)])) from zju (b,x.2++[(j.2.toNat,uR ls i)]) C];refine⟨(.cons_cons _ (.cons_cons _ (.cons _ (BZ _)))),?_⟩;refine ab.nil<|zM ?_;have r:=k.set (a:=j.1.toNat) (x:=(b,x.2++[(j.2.toNat,uR ls i)])) M (by rw [Aw];exact D9 (k x (AE hx)).2)
     have H:(st.set j.1.toNat (b,x.2++[(j.2.toNat,uR ls i)])).length=N:=by rw [Cd];exact I
     obtain⟨y,hy⟩:=FU (st.set j.1.toNat (b,x.2++[(j.2.toNat,uR ls i)])) (j.2.toNat);refine vA 16 [13,15] _ V (.cons_cons _ (.cons_cons _ (.cons _ (BZ _))))<|FD (zC Z Z) ?_;refine FC ((zY (j.2.toNat) Z Z Z e2.symm C)) ?_;refine ab.one ((AX (eqS (rowV y.1 y.2.length))<|zQ 2 Z Z Z (nv hy))) Z Z Z V<|ab.one (zS Z Z Z) Z Z Z V<|ab.one ((AX (MK j.1)<|zQ 1 Z Z Z Z)) Z Z Z V<|ab.one ((AX (zl (zP ((uR ls i))))<|zE 0 Z Z Z V Z)) Z Z Z V<|FC ((AX (zl (fM (j.1.toNat,uR ls i)))<|(AX (zl ([MK j.1]++zP (uR ls i)))<|yQ Z Z V).sub (by rw [<-W];exact fun _ _ h=>h))) ?_;refine ar.tail [_,_,_] (zn5 Z Z Z hy r GK GK) Z Z Z Z ?_;rintro s1 H1 ⟨m,L,rfl,rfl⟩;refine⟨(.cons_cons _ (.cons_cons _ (.cons _ (BZ _)))),?_⟩;refine FC ((zY (j.2.toNat) Z Z Z e2.symm C)) ?_;refine .loc1n 2 (xf (off:=j.2.toNat*1) Z Z Z Z (by rw [zjt];grind)) Z Z Z ?_
     rintro s2 H2 ⟨rfl,rfl⟩;rw [show xB (Va (st.set j.1.toNat (b,x.2++[(j.2.toNat,uR ls i)]))) (j.2.toNat*1) [eqS (rowV m (y.2++[(j.1.toNat,uR ls i)]).length)]=Va ((st.set j.1.toNat (b,x.2++[(j.2.toNat,uR ls i)])).set j.2.toNat (m,y.2++[(j.1.toNat,uR ls i)])) from zju (m,y.2++[(j.1.toNat,uR ls i)]) C];refine⟨(.cons_cons _ (.cons_cons _ (.cons _ (BZ _)))),?_⟩;refine ab.nil<|zM ?_;have O:=r.set (a:=j.2.toNat) (x:=(m,y.2++[(j.1.toNat,uR ls i)])) L (by rw [Aw];exact D9 (r y (AE hy)).2)
     refine zH (zF ((B5 _ _).trans (B5 _ _)))<|zJ<|Do (i+1) ?_;exact⟨i+1,((st.set j.1.toNat (b,x.2++[(j.2.toNat,uR ls i)])).set j.2.toNat (m,y.2++[(j.1.toNat,uR ls i)])),⟨C,by grind,by rw [zn4 hy,zn4 hx,U,v],O.mono C⟩,C,MM⟩
 .obtain rfl:i=js.length:=C;refine zK<|zH (vO (List.perm_append_singleton _ _).symm)<|zfA st [] (fun x hx=>⟨(k x hx).1,Ag (k x hx).2 GK⟩) ?_;rw [U];refine zr<|ae.ghost _ Z (yF 0 7 Z Z s (ZA _ _ _ _) Z GX GK)<|zg ?_;exact zj zt
end Go.Proofs
namespace Num.Pl
open Go Go.Proofs Num.Hp
variable {fr m t a:Nat} {k:List Bool} {g:Gr} {cs:List Rat} {st:List Int} {z:Int} {W:G7}
abbrev qC (g:Gr) (fr:Nat):List Rat:=csF g.length (xD g fr)
abbrev Qp (g:Gr) (fr:Nat):List Int:=Kd g.length (xD g fr)
def zfB (h:(Qp g fr)[t]? =some z) (a:z<0):wU g fr t=none:=by
 show (if 0<=(Qp g fr).getD t (-1) then _ else _)=_;grind
def zfC (h:(Qp g fr)[t]? =some z) (a:0<=z):wU g fr t=some ((Wm g (qC g fr) (Qp g fr) fr z.toNat t).reverse,(qC g fr).getD t 0):=by
 show (if 0<=(Qp g fr).getD t (-1) then some ((Wm g (qC g fr) (Qp g fr) fr ((Qp g fr).getD t 0).toNat t).reverse,(qC g fr).getD t 0) else none)=_;grind
def zn6 {k:Nat} {done:List Bool} (h:SI g k fr [] done (xD g fr)) (d:Sym g) {w:Wt} (c:w∈xD g fr) (e:w.2.2=a) (e2:w.2.1=m) (b:a≠fr):
 ∃m',m=m'+1/\VB g (qC g fr) (Qp g fr) a<g.length/\Wm g (qC g fr) (Qp g fr) fr m a=a::Wm g (qC g fr) (Qp g fr) fr m' (VB g (qC g fr) (Qp g fr) a)/\∃ p∈xD g fr,p.2.2=VB g (qC g fr) (Qp g fr) a/\p.2.1=m':=by
 subst e;obtain⟨h1,p,hp,f,i⟩:=zqa h d c b;refine⟨p.2.1,by omega,h1,?_,p,hp,f,Z⟩;rw [(C:m=p.2.1+1),Wm,MY b]
def zjv:Wm g cs st fr m fr=[fr]:=by
 cases m with
 | zero=>rfl
 | succ m=>rw [Wm,MX Z]
structure iE (g:Gr) (fr t m0 a:Nat) (W:G7) (m:Nat):Prop where
 w:∃ V,W=V++[a]/\Wm g (qC g fr) (Qp g fr) fr m0 t=V++Wm g (qC g fr) (Qp g fr) fr m a
 s:∃ p∈xD g fr,p.2.2=a/\p.2.1=m
 n:W.length+m=m0+1
def iE.go {k d:Nat} {done:List Bool} (h:iE g fr t d a W m) (i:SI g k fr [] done (xD g fr)) (f:Sym g) (c:a≠fr):
 VB g (qC g fr) (Qp g fr) a<g.length/\∃ m',m=m'+1/\iE g fr t d (VB g (qC g fr) (Qp g fr) a) (W++[VB g (qC g fr) (Qp g fr) a]) m':=by
 obtain⟨V,h1,o⟩:=h.w;obtain⟨p,hp,v,e2⟩:=h.s;obtain⟨m',u,l,j,e,b,r,q⟩:=zn6 i f hp v e2 c;refine⟨l,m',u,⟨W,Z,?_⟩,⟨e,b,r,q⟩,?_⟩
 .grind
 .have:=h.n;grind
def iE.done (h:iE g fr t a fr W m):W=Wm g (qC g fr) (Qp g fr) fr a t:=by
 obtain⟨V,h1,b⟩:=h.w;rw [b,h1,zjv]
def ztU:∀ (S:List Wt) (c:List Rat) (x:Rat),x∈S.foldl (fun c w=>c.set w.2.2 w.1) c->x∈c\/∃ w∈S,x=w.1
 | [],_,_,h=>.inl h
 | w::S,c,x,h=>by
  rw [Au] at h
  rcases ztU S _ x h with h | ⟨v,a,e⟩
  . grind
  grind
theorem zxJ {k K:Nat} {done:List Bool} (h:SI g k fr [] done (xD g fr)) (b:1+g.length*(k+1)<=K):∀ x∈qC g fr,Bq x K:=fun x hx=>by
 rcases ztU _ _ x hx with hx | ⟨w,a,rfl⟩
 .rw [(EI.1 hx).2];exact xb bq_zero C
 .have h1:=h.bs w a;exact xb h1.1 (Ag (Ez (BK _ (Ag h1.2 h.size)) 1) b)
def zz0 {b0:Nat} {b:List Rd} {r:Rd} (h:b[m]? =some r):VA cs st a b0 (b.take (m+1))=if Us cs st a r&&decide (r.1<VA cs st a b0 (b.take m)) then r.1 else VA cs st a b0 (b.take m):=by
 unfold VA;rw [yp h,Dt];rfl
end Num.Pl
namespace Go.Proofs
open Go Go.Sv Num Num.Pl Num.Hp
def zxK {l:List Int} {i:Nat} {z:Int} (h:l[i]? =some z):l.getD i 0=z:=by grind
def lM {l:List Rat} {i:Nat} {z:Rat} (h:l[i]? =some z):l.getD i 0=z:=by grind
variable {G:Imm}
variable {ls:List Rat} {js:List Jn} {n N f t kb K:Nat} {b:Gr}
def zwL [ao G] {js:List Jn} {ls:List Rat} {d:Gr} {n N f t kb K:Nat} (v:qh N js ls=d) (hn:n≤1000000000) (c9:0<n) (hN:N=min n 131072) (b5:js.length≤200000000) (hl:∀ q∈ls,Bq q kb) (b4:ls.length≤200000000) (hk:0<kb) (hK:1+N*(kb+1)≤K) (hs:200*(K+kb)+40000≤cap) (hF:1+Jf d (List.replicate d.length false)≤500000000) (a1:∀ a,(d.getD a []).length≤500000000) (d2:f<N) (c5:t<N):G0 G 368 [ze .i64 (n:Nat),zR 2 Uh js,zR 3 zP ls,ze .i64 (f:Nat),ze .i64 (t:Nat)] (yR [zR 1 ZF (ff (wU d f t)),zl (zP (jt (wU d f t))),zp (wU d f t).isSome]):=by
 have F:d.length=N:=by rw [←v];exact ZA _ _ _ _
 have hg:GrOk d kb:=by rw [←v];exact Num.Pl.gr_ok hk hl
 have b1:Sym d:=by rw [←v];exact iN _ _ _
 have hf:f<d.length:=C;have ht:t<d.length:=C;obtain⟨dn,h⟩:=Qn hg hf;have d3:(qC d f).length=d.length:=kS _ _;have c6:(Qp d f).length=d.length:=Ul _ _;obtain⟨z,U⟩:=FU (Qp d f) t;obtain⟨c,hc⟩:=FU (qC d f) t;refine Fq Tryz.func368 ?_;refine Fm fun P=>?_;refine Fi ((AX (zR 1 fu d)<|zb Z Z (by rw [←v];exact mb hn hN b5 hl b4 C))) ?_;refine Fl Z Z (mc hg C (by rw [F];exact hK) hs C hF a1) ?_;refine Fi ((zb Z Z gR).sub (yz (c:=true) (decide_eq_true ⟨Da _,C⟩))) ?_;refine zo ((zb Z Z gR).sub (yz (c:=true) (decide_eq_true ⟨Da _,C⟩))) ?_;refine zg ?_;refine Fi (zh Z Z Z C (y:=z) (by rw [BQ];exact U)) ?_;refine FR ?_ ?_<;>intro O
 ·have hL:=zfB U (by have:=O;simpa using this);refine Fh ?_;refine zo ((AX (zl (zP 0))<|zb Z Z (wK (n:=0) J J))) ?_;refine Fi ((AX (zR 1 ZF [])<|(yt Z Z).sub g8)) ?_;exact zj (zu (e:=by rw [hL];rfl))
 ·have S:0≤z:=by have:=O;simpa using this
  have hL:=zfC U S;obtain⟨w0,x,a5⟩:=Bc.1 (lL U S);have ez:z.toNat=w0.2.1:=by have:=h.stp x;rw [a5,U] at this;cases this;exact BQ _
  have d0:z.toNat≤d.length:=by have:=(h.bs w0 x).2;have:=h.size;omega
  refine zg ?_;refine ae.buildRow Z Z Z Z Z Z J Z (.inr B) Z (by kernel_rfl) fun b9 a3=>?_;refine Fh ?_
  refine jm [3,4,11,12,13,14,15,107,109,110,111,112,113] (fun (a:Nat) (q:G3) (W:G7) (m:Nat) z=>(16,ze .i64 (a:Nat))::(10,eqS (rowV q W.length))::z) (fun a q W m=>[rowE q 3 1 W.length (W.flatMap ZF),⟨some P,46,[eqS (.bool false),G8,G8],0⟩]) (fun a q W m=>zX q W.length∧iE d f t z.toNat a W m) (fun a q W m=>m) t (some (b9,1)) [t] z.toNat ⟨a3,⟨⟨[],Z,Z⟩,⟨w0,x,a5,ez.symm⟩,by rw [DX];omega⟩⟩ ?_;rintro a q W m ⟨hq,hB⟩;have d6:=hB.n;have d7:0<W.length:=by obtain⟨V,e,_⟩:=hB.w;rw [e,Aw];exact Nat.succ_pos _
  obtain⟨pa,E,a6,_⟩:=hB.s;have ha:=h.ns pa E;rw [a6] at ha
  refine Fh ?_;refine FQ ?_ ?_<;>intro M a9
  ·have b3:a≠f:=by have:=bne_iff_ne.1 M;omega
   obtain⟨d5,m2,rfl,b8⟩:=hB.go h b1 b3;obtain⟨o,Y⟩:∃ o,d[a]? =some o:=⟨_,AL ha⟩;have D:d.getD a []=o:=by rw [Ay,Y];rfl
   have b2:=a1 a;rw [D] at b2
   have b6:VB d (qC d f) (Qp d f) a=VA (qC d f) (Qp d f) a d.length o:=by unfold VB;rw [D]
   obtain⟨R,A⟩:=FU (Qp d f) a;have c2:0≤R∧R≤d.length:=by have h1:=h.stp E;rw [a6,A] at h1;have h1:=BA h1;have h2:=(h.bs pa E).2;have h3:=h.size;omega
   obtain⟨Q,I⟩:=FU (qC d f) a;refine zB ?_;refine zi ?_;refine zN ?_;refine zr ?_;(iterate 3 refine zz ?_);refine zM ?_;refine zi ?_;refine zg ?_;refine Fi (zh Z Z Z C (y:=o) (by rw [BQ];exact Y)) ?_;refine Xt [3,4,10,11,12,13,14,15,16,51,52,53,54,55,56,57,58,59,60,61,62,63,64,106,107,109,110,111,112,113] (fun (g:Nat) (b:Nat) z=>(65,ze .i64 (g:Nat))::(17,ze .i64 (b:Nat))::z) (fun g b=>[rowE q 3 1 W.length (W.flatMap ZF),⟨some P,46,[eqS (.bool false),G8,G8],0⟩]) (fun g b=>g≤o.length∧b=VA (qC d f) (Qp d f) a d.length (o.take g)) (fun g b=>o.length-g) 0 d.length ⟨BL _,Z⟩ ?_;rintro g b ⟨d1,hb⟩;refine Fh ?_;refine Fo ?_ ?_<;>intro _ a8
   ·obtain⟨r,hr⟩:=FU o g;have a0:r∈d.getD a []:=by rw [D];exact AE hr
    have c7:=hg.nod _ r a0;have c8:Bq r.2 kb:=hg.far _ r a0;have L:=zz0 (cs:=(qC d f)) (st:=(Qp d f)) (a:=a) (b0:=d.length) hr;rw [←hb] at L
    obtain⟨sr,X⟩:=FU (Qp d f) (r.1);obtain⟨cr,H⟩:=FU (qC d f) (r.1);have a4:Us (qC d f) (Qp d f) a r=(decide (sr=R-1)&&decide (cr+r.2=Q)):=by unfold Us;rw [zxK X,zxK A,lM H,lM I]
    have c3:Bq cr K:=zxJ h (by rw [F];exact hK) cr (AE H);have c4:Bq Q K:=zxJ h (by rw [F];exact hK) Q (AE I);refine Fh ?_;refine yT fun c0=>?_;refine zw ?_;refine zM ?_;refine Vx [3,4,10,11,12,13,14,15,16,17,19,51,52,53,54,55,56,57,58,59,60,61,62,63,64,65,66,67,68,103,104,105,106,107,109,110,111,112,113] (fun (e:Bool) z=>(102,zp e)::z) (fun e=>[⟨some c0,506,fM r,0⟩,rowE q 3 1 W.length (W.flatMap ZF),⟨some P,46,[eqS (.bool false),G8,G8],0⟩]) (fun e=>e=(Us (qC d f) (Qp d f) a r&&decide (r.1<b))) ?_ ?_
    ·refine wW 34 (by kernel_rfl) ?_;refine zg ?_;refine zo (zh Z Z Z C (y:=sr) (by rw [BQ];exact X)) ?_;refine zg ?_;refine Fi (zh Z Z Z C (y:=R) (by rw [BQ];exact A)) ?_;refine zo (yK (z:=R-1) Z Z Z (congrArg some C) (wrap_i64 C C)) ?_;refine FI ?_ ?_<;>intro _ i
     ·(iterate 2 refine zz ?_);refine zz ?_;(iterate 2 refine zz ?_);refine FJ ?_ ?_<;>intro j
      ·have u:=of_decide_eq_true j;refine zg ?_;refine Fi (zh Z Z Z C (y:=cr) (by rw [BQ];exact H)) ?_;refine zo (zb Z Z (vM (p:=cr) (q:=r.2) C)) ?_;refine zg ?_;refine Fi (zh Z Z Z C (y:=Q) (by rw [BQ];exact I)) ?_;refine Fl Z Z (xo (p:=cr+r.2) (q:=Q) C) ?_;exact⟨(vK (cr+r.2) Q==0),by rw [a4,decide_eq_true i,Vp,show decide (r.1<b)=true from decide_eq_true C];simp,an zk Z⟩
      ·have u:=of_decide_eq_false j;refine zg ?_;exact⟨false,by rw [show decide (r.1<b)=false from decide_eq_false C,Bool.and_false],an zk Z⟩
     ·refine zg ?_;exact⟨false,by rw [a4,decide_eq_false i];simp,an zk Z⟩
    ·rintro e he;refine xK ?_ ?_<;>intro k
     ·refine zJ ?_;refine zz ?_;refine zz ?_;refine zz ?_;refine zM ?_;refine Fv ?_;refine Fj ((g+1:Nat):Int) ?_;exact⟨g+1,r.1,⟨C,by rw [L,←he,k];rfl⟩,C,an zk Z⟩
     ·refine zB ?_;refine Fv ?_;refine Fj ((g+1:Nat):Int) ?_;exact⟨g+1,b,⟨C,by rw [L,←he,k];rfl⟩,C,an zk Z⟩
   ·obtain rfl:g=o.length:=C;rw [B3,←b6] at hb
    subst hb;refine Fh ?_;refine Fx 0 Z Z Z Z hq (by rw [il,Cr]) fun a7 a2=>?_
    exact⟨_,a7,W++[VB d (qC d f) (Qp d f) a],m2,⟨by rw [Aw];exact a2,b8⟩,C,by rw [Aw,CB];exact an zk Z⟩
  ·obtain rfl:a=f:=by have:=bne_eq_false_iff_eq.1 M;omega
   obtain⟨d9,d8,rfl⟩:=mg hq C;have b7:=hB.done;refine Fh ?_;refine ah [] [_] [_] Z Z Z Z (ztM hq C C) Z Z Z ?_;rintro c1 H108 ⟨rfl,rfl⟩;refine zM ?_;refine zH (yF 0 10 Z Z hq (l:=W.reverse) (f:=ZF) Em Z GX GK) ?_;refine xv 7 [6] _ (by kernel_rfl) (.cons _ .slnil) ?_;refine ab.one ((AX (zR 1 ZF W.reverse)<|zC Z Z)) Z Z Z (by kernel_rfl) ?_;(iterate 2 refine ab.one (zC Z Z) Z Z Z (by kernel_rfl) ?_);refine FC (zh Z Z Z C (y:=c) (by rw [BQ];exact hc)) ?_;refine .loc1n 0 (xf Z Z Z Z Gg) Z Z Z ?_;rintro s1 H1 ⟨rfl,rfl⟩;refine⟨(.cons _ .slnil),?_⟩;refine ab.nil ?_;refine zg ?_;exact zj (zu (e:=by rw [hL,b7,lM hc];rfl))
def zwM [ao G] (d:qh N js ls=b) (p:n<=1000000000) (o:0<n) (v:N=min n 131072) (j:js.length<=200000000) (l:∀ q∈ls,Bq q kb) (i:ls.length<=200000000) (r:0<kb) (x:1+N*(kb+1)<=K) (m:200*(K+kb)+40000<=cap) (y:1+Jf b (List.replicate b.length false)<=500000000) (g:∀ a,(b.getD a []).length<=500000000) (u:N<=f):G0 G 368 [ML n,zR 2 Uh js,zR 3 zP ls,ML f,ML t] (yR [zR 1 ZF (ff (wU b f t)),zl (zP (jt (wU b f t))),zp (wU b f t).isSome]):=by
 have k:b.length=N:=by rw [<-d];exact ZA _ _ _ _
 have s:GrOk b kb:=by rw [<-d];exact Num.Pl.gr_ok r l
 have w:wU b f t=none:=by show (if 0<=(Qp b f).getD t (-1) then _ else _)=_;rw [MY];show ¬0<=(Kd b.length (xD b f)).getD t (-1);rw [km (C:b.length<=f),Ay,CK];split <;> decide
 refine Fq Tryz.func368 ?_;refine Fm fun z=>?_;refine Fi ((AX (zR 1 fu b)<|zb Z Z (by rw [<-d];exact mb p v j l i C))) ?_;refine Fl Z Z (mc s C (by rw [k];exact x) m C y g) ?_;refine Fi ((zb Z Z gR).sub (yz (MS fun h=>by have:=h.2;omega))) ?_;refine Ft ?_;refine zo ((AX (zl (zP 0))<|zb Z Z (wK J J))) ?_;refine Fi ((AX (zR 1 ZF [])<|(yt Z Z).sub g8)) ?_
 exact zj (zu (e:=by rw [w];rfl))
def zwN [ao G] (d:qh N js ls=b) (r:n<=1000000000) (p:0<n) (w:N=min n 131072) (j:js.length<=200000000) (l:∀ q∈ls,Bq q kb) (i:ls.length<=200000000) (s:0<kb) (y:1+N*(kb+1)<=K) (o:200*(K+kb)+40000<=cap) (z:1+Jf b (List.replicate b.length false)<=500000000) (g:∀ a,(b.getD a []).length<=500000000) (v:f<N) (m:N<=t):G0 G 368 [ML n,zR 2 Uh js,zR 3 zP ls,ML f,ML t] (yR [zR 1 ZF (ff (wU b f t)),zl (zP (jt (wU b f t))),zp (wU b f t).isSome]):=by
 have k:b.length=N:=by rw [<-d];exact ZA _ _ _ _
 have u:GrOk b kb:=by rw [<-d];exact Num.Pl.gr_ok s l
 have x:wU b f t=none:=by show (if 0<=(Qp b f).getD t (-1) then _ else _)=_;rw [MY];rw [Ay,Ac (by rw [Ul];omega)];decide
 refine Fq Tryz.func368 ?_;refine Fm fun A=>?_;refine Fi ((AX (zR 1 fu b)<|zb Z Z (by rw [<-d];exact mb r w j l i C))) ?_;refine Fl Z Z (mc u C (by grind) o C z g) ?_;refine Fi ((zb Z Z gR).sub (yz (MR ⟨Da _,C⟩))) ?_;refine Fi ((zb Z Z gR).sub (yz (MS fun h=>by have:=h.2;omega))) ?_;refine Ft ?_;refine zo ((AX (zl (zP 0))<|zb Z Z (wK J J))) ?_;refine Fi ((AX (zR 1 ZF [])<|(yt Z Z).sub g8)) ?_
 exact zj (zu (e:=by rw [x];rfl))
def zz1 [ao G] (i:n<=1000000000) (c:0<n) (l:N=min n 131072) (e:js.length<=200000000) (j:∀ q∈ls,Bq q kb) (d:ls.length<=200000000) (k:0<kb) (m:1+N*(kb+1)<=K) (g:200*(K+kb)+40000<=cap) (o:1+Jf (qh N js ls) (List.replicate (qh N js ls).length false)<=500000000) (b:∀ a,((qh N js ls).getD a []).length<=500000000):G0 G 368 [ML n,zR 2 Uh js,zR 3 zP ls,ML f,ML t] (yR [zR 1 ZF (ff (wU (qh N js ls) f t)),zl (zP (jt (wU (qh N js ls) f t))),zp (wU (qh N js ls) f t).isSome]):=by
 rcases Ab f N with h | h
 .rcases Ab t N with p | p
  .exact zwL Z i c l e j d k m g o b h p
  .exact zwN Z i c l e j d k m g o b h p
 .exact zwM Z i c l e j d k m g o b h
end Go.Proofs
namespace Num.Pl
open Go Go.Proofs Num.Hp
variable {c:List V2} {ps:List (List V2)} {n:Nat} {t:T3} {q:Rat} {p:V2}
theorem nu {l:List V2} (h:l.length<=n) (c:2<=n):(wM l).length<=2*n-2:=by
 have b:(ZS (Num.sortL Jr l)).length<=l.length:=Ag (ZE _) (Nat.le_of_eq (Num.sortL_len _ _));unfold wM;simp only;split
 .omega
 .have h1:=Vy (xs:=ZS (Num.sortL Jr l));have a:=Vy (xs:=(ZS (Num.sortL Jr l)).reverse);grind
def oV {α:Type} (l:List α):l=[]\/∃ i x,l=i++[x]:=(List.eq_nil_or_concat l).imp id fun⟨i,x,e⟩=>⟨i,x,e.trans List.concat_eq_append⟩
theorem aO (l:List V2):(wv l).length<=l.length:=by unfold wv;grind
theorem zqp {a:List V2} (c:0<a.length) (h:a.length<=4):(xh a t).length<=18:=by
 have b:(a.map JW).length=a.length:=BR _;have g:=nu (l:=Zu t) (n:=3) (Af _) J;have f:=nu (l:=a.map JW) (n:=4) C J;have e:=aO (wM (Zu t));have d:=aO (wM (a.map JW));unfold xh;rw [mB (Vz (by show 0<3;decide)) (Vz C)];refine nu (n:=10) ?_ J;rw [Em,ni,Es,oy];omega
def n8 (o:List V2):∀ (ds:List V2) (h:V2),ds.foldl (fun (o:List V2) d=>add2 (o.headD (0,0)) d::o) (h::o)=smO h ds++o
 | [],_=>rfl
 | d::ds,h=>by
  show ds.foldl _ (add2 h d::h::o)=ds.foldl _ (add2 h d::[h])++o;rw [n8 (h::o) ds,n8 [h] ds,Bw];rfl
theorem zwO {A B:List V2}:∀ (n i j:Nat) (P Q:List V2),P.length+Q.length<=n->P=(wv A).drop i->Q=(wv B).drop j->∀ y∈smO (add2 (vc A i) (vc B j)) (vy P Q),∃i j,y=add2 (vc A i) (vc B j):=fun n=>by
  have a:∀ {x d:V2} {ds:List V2} {y:V2},y∈smO x (d::ds)->y=x\/y∈smO (add2 x d) ds:=fun {x d ds y} h=>by
    rw [show smO x (d::ds)=smO (add2 x d) ds++[x] from n8 [x] ds _,Bu,AS] at h
    grind
  induction n with
  | zero=>
    intro i j P Q c _ _ y hy;obtain rfl:=Aa (C:P.length=0);obtain rfl:=Aa (C:Q.length=0);rw [QV] at hy
    exact⟨i,j,AS.1 hy⟩
  | succ n ih=>
    intro i j P Q c m l y hy
    by_cases e:P=[]/\Q=[]
    . grind
    . have k:=JX e
      cases hb:smB P Q with
      | true=>
        obtain⟨d,P',b,e2⟩:=k.1 hb;obtain⟨g,f,_⟩:=Ui (m.symm.trans b);rw [e2] at hy
        rcases a hy with h | h
        . grind
        . rw [show add2 (add2 (vc A i) (vc B j)) d=add2 (vc A (i+1)) (vc B j) by rw [f];unfold add2 Yw;grind] at h
          grind
      | false=>
        obtain⟨d,Q',b,e2⟩:=k.2 hb;obtain⟨g,f,_⟩:=Ui (l.symm.trans b);rw [e2] at hy
        rcases a hy with h | h
        . grind
        . rw [show add2 (add2 (vc A i) (vc B j)) d=add2 (vc A i) (vc B (j+1)) by rw [f];unfold add2 Yw;grind] at h
          grind
theorem zqq {P Q R:V2->Prop} (k:P (0,0)) (j:Q (0,0)) (n:0<c.length) (ht:∀ p∈Zu t,P p) (f:∀ p∈c,Q (JW p)) (g:∀ a b,P a->Q b->R (add2 a b)):∀ y∈xh c t,R y:=fun y hy=>by
 have at':∀ {l:List V2} {P:V2->Prop} (i:Nat),P (0,0)->(∀p∈l,P p)->P (vc l i):=fun {l P} i h h'=>by
  unfold vc;grind
 unfold xh at hy
 rw [mB (Vz (by show 0<3;decide)) (Vz (by grind))] at hy
 have h1:=Eg.1 (Ql hy);have m:∀ {x y:V2} (ds:List V2),y∈smO x ds.dropLast->y∈smO x ds:=fun {x y} ds h=>by
  rcases oV ds with rfl | ⟨i,d,rfl⟩
  .exact h
  .rw [List.dropLast_concat] at h
   rw [zi2];grind
 obtain⟨a,b,rfl⟩:=zwO _ 0 0 _ _ (Af _) Z Z y (m _ h1);exact g _ _ (at' a k fun p hp=>ht p (Ql hp)) (at' b j fun p hp=>by
  obtain⟨q,hq,rfl⟩:=Bc.1 (Ql hp)
  grind)
def Q3 (q:Rat):Prop:=q.num.natAbs<=999/\q.den<=999
def P3 (p:V2):Prop:=Q3 p.1/\Q3 p.2
theorem Q3.bq (h:Q3 q):Bq q 1:=⟨by have:=h.1;omega,by have:=h.2;omega⟩
theorem Q3.add {p:Rat} (h:Q3 p) (h':Q3 q):Bq (p+q) 1:=by
 have c:=CL h.1 h'.2;have b:=CL h'.1 h.2;have a:=CL h.2 h'.2;rw [Rat.add_def'];refine Wd (Cs (DD _ _) ?_) C J;rw [DE,DE,Dz,Dz];omega
theorem P3.bp (h:P3 p):Bp p 1:=⟨h.1.bq,h.2.bq⟩
def P3.neg (h:P3 p):P3 (JW p):=by
 unfold P3 Q3 JW at *;simp_all
def P3.zero:P3 (0,0):=⟨⟨J,J⟩,⟨J,J⟩⟩
theorem ztW (e:0<c.length) (ht:∀ p∈Zu t,P3 p) (d:∀ p∈c,P3 p):vE 1 (xh c t):=
 zqq P3.zero P3.zero e ht (fun p hp=>(d p hp).neg) fun a b ha hb=>⟨ha.1.add hb.1,ha.2.add hb.2⟩
def zjw {k:Nat} (b:0<k) (a:∀ l∈ps,vE k l):Bp (yP ps).1 (k+2)/\Bp (yP ps).2 (k+2):=by
 have h:=zs8 b fun p hp=>by obtain⟨l,hl',hp⟩:=EH.1 hp;exact a l hl' p hp
 have h1:Bp (1,1) 1:=⟨bq_one,bq_one⟩;exact⟨Xp h.1 h1,iZ h.2 h1⟩
theorem zz2:∀ (n:Nat) (l:List Rat),l.length=n->l.Pairwise (· <= ·)->(dd l).Pairwise (· < ·):=fun n=>by
  induction n with
  | zero=>intro l b _;rw [Aa b];exact .nil
  | succ n ih=>
    intro l b h;rcases oV l with rfl | ⟨i,x,rfl⟩
    . grind
    . obtain⟨h1,_,g⟩:=EG.1 h
      have hi:=ih i (by grind) h1
      rw [nm]
      split
      . exact hi
      . rename_i a
        refine EG.2 ⟨hi,DY ..,fun y hy z d=>?_⟩;rw [AS.1 d];rcases oV (dd i) with e | ⟨j,w,e⟩
        . grind
        . have k:w<=x:=g w (Ug (by grind)) x (EA _)
          grind
def ztX (ps:List (List V2)) (b:Bx):(vo ps b).Pairwise (· < ·):=by
 refine zz2 _ _ Z ?_;have h:=List.pairwise_mergeSort (le:=fun a b=> !ltR b a) (fun a b c h1 h2=>by simp [ltR] at *;grind) (fun a b=>by simp [ltR];grind) ([b.1.1,b.2.1]++ps.flatMap (fun l=>l.map (·.1))++(lF ps).flatMap fun (p,q)=>(Yp p q).map (·.1));exact h.imp fun h=>ED.1 (by simpa [ltR] using h)
def ztY (ps:List (List V2)) (b:Bx):0<(vo ps b).length:=by
 rw [qm];have h:(dd (Num.sortL ltR (WX ps b ps.length (Jg ps ps.length).length))).getLast? ≠none:=by
  rw [kX,Ne,EB];intro e;have:=MW List.length e;rw [Num.sortL_len] at this;unfold WX at this;simp at this
 grind
def zjx (ps:List (List V2)):∀ m,m<=ps.length->2*(Jg ps m).length+m<=m*m
 | 0,_=>Af _
 | m+1,h=>by
  have:=zjx ps m C;have e:(m+1)*(m+1)=m*m+2*m+1:=by rw [Bj,Nat.mul_succ];omega
  rw [zxq C,e];omega
def zqr {b:Bx} {T F:Nat} (c:∀ l∈ps,l.length<=n) (d:(Jg ps ps.length).length<=T) (e:ps.flatten.length<=F):(vo ps b).length<=2+F+T*(n*(2*n)):=by
 rw [qm];refine Ag (ZE _) ?_;rw [Num.sortL_len];unfold WX;rw [B3,B3,Aw,Aw];have h1:(ps.flatMap fun l=>l.map (·.1)).length=ps.flatten.length:=by rw [List.length_flatMap,List.length_flatten];simp
 have g:((Jg ps ps.length).flatMap fun x=>(Yp x.1 x.2).map (·.1)).length<=(Jg ps ps.length).length*(n*(2*n)):=WY fun x hx=>by
  have a:=qk (Af _) hx;rw [BR];exact Ag (zbc _ _) (CL (c _ a.1) (Cq _ (c _ a.2)))
 have f:=BK (n*(2*n)) d;grind
end Num.Pl
namespace Go.Proofs
open Go Go.Sv Num Num.Pl Num.Hp
theorem zCa {ps:List (List V2)} {k n T F N K:Nat} (r:0<k) (o:∀ l∈ps,vE k l/\l.length<=n) (E:(Jg ps ps.length).length<=T) (H:ps.flatten.length<=F) (M:6+3*F<=N) (D:(2+F+T*(n*(2*n)))*(4*N)<=1000000) (t:38*k+17<=K) (I:12*K+20<=1000):ck (wX ps) K N:=by
  have e:=fun l h=>(o l h).1;have hf:=zjw r e;have hx:=zwp r (wF hf.1 (by omega)) (wF hf.2 (by omega)) e
  have j:=zqr (b:=yP ps) (fun l h=>(o l h).2) E H;have f:=Ag (BK (4*N) j) D;have G:(vo ps (yP ps)).length*24<=(vo ps (yP ps)).length*(4*N):=Cq _ (by omega)
  have O:(wg ps).length=ps.flatten.length:=by have:=mq (ps:=ps) ps.length;rwa [B3] at this
  have c:∀ l∈ZT ps (yP ps) (vo ps (yP ps)),l.length<=F+2:=fun l h=>by
    obtain⟨s,_,rfl⟩:=Bc.1 h;have:=zlZ s.1 s.2 (yP ps) (wg ps);grind
  have d:∀ l∈ZT ps (yP ps) (vo ps (yP ps)),∀v∈l,Bl (38*k+17) v:=fun l h v hv=>by
    obtain⟨s,A,rfl⟩:=Bc.1 h;have h1:=List.of_mem_zip (show (s.1,s.2)∈_ from A);have:=zqc (zxr fun l h p hp=>wF (e l h p hp) (by omega)) (hx _ h1.1) (hx _ (List.mem_of_mem_tail h1.2)) hf.1 hf.2 v hv
    grind
  have a:∀ l∈ZT ps (yP ps) (vo ps (yP ps)),∀v∈l,Bl K v:=fun l h v hv=>⟨xb (d l h v hv).1 t,xb (d l h v hv).2 t⟩;have h1:N<=250000:=by have:=BK (4*N) (C:1<=2+F+T*(n*(2*n)));omega
  have Q:(ZT ps (yP ps) (vo ps (yP ps))).length<=(vo ps (yP ps)).length:=by
    show (List.map _ (List.zip _ _)).length<=_;rw [BR,Ex];exact Nat.min_le_left _ _
  exact { pos:=by omega,kb:=I,b1:=wF hf.1 (by omega),b2:=wF hf.2 (by omega),xs:=fun q h=>xb (hx q h) (by omega)
          inc:=fun {i x z} L e2=>by
            obtain⟨y,w1⟩:=EC.1 L;obtain⟨u,w2⟩:=EC.1 e2;rw [<-w1,<-w2];exact List.pairwise_iff_getElem.1 (ztX ps (yP ps)) i (i+1) y u C
          lv:=a,lvn:=fun l h=>by have:=c l h;omega
          wl:=ztx (wF hf.1 (by omega)) (wF hf.2 (by omega)) (fun l h p hp=>wF (e l h p hp) (by omega)) a
          wln:=fun w h=>by
            obtain⟨i,hi⟩:=Dr h;have m:i<(vo ps (yP ps)).length:=by have:=(EC.1 hi).1;rwa [(FV:(wX ps).walls=vP ps (yP ps) (vo ps (yP ps)) (ZT ps (yP ps) (vo ps (yP ps)))),XT] at this
            rw [(FV:(wX ps).walls=vP ps (yP ps) (vo ps (yP ps)) (ZT ps (yP ps) (vo ps (yP ps)))),oX m] at hi
            obtain rfl:=BA hi;have P:=zji (ps:=ps) (b:=yP ps) (xs:=vo ps (yP ps)) (g:=i) c;refine Ag (ZE _) ?_;rw [Num.sortL_len];omega
          num:=f,nx:=by show (vo ps (yP ps)).length<=_;omega,nn:=h1
          nl:=by show (ZT ps (yP ps) (vo ps (yP ps))).length<=_;omega
          nw:=by show (vP ps (yP ps) (vo ps (yP ps)) (ZT ps (yP ps) (vo ps (yP ps)))).length<=_;rw [XT];omega}
end Go.Proofs
namespace Num.Pl
open Go Go.Proofs Num.Hp
variable {k i:Nat} {g:Gr}
def vb (rob:List V2) (ts:List T3):cI:=
 let ps:=ts.map (xh rob)
 let m:=wX ps
 let fr:=(zV m).map (Jt ps)
 let js:=jB m fr
 ⟨rob,ts,ps,m,zV m,fr,js,VC (zV m) js⟩
def Yv {α:Type} {l:List α} {d:α} {p:α->Prop} (h:∀ x∈l,p x) (a:p d):p (l.getD i d):=by
 grind
def zmi (w s:Nat) (y a:List Rat):(YU w s y a).length<=y.length*(a.length*3):=by
 unfold YU;refine Ag (WY fun k _=>?_) (by rw [DU];exact Af _);refine Ag (WY (n:=3) fun r _=>?_) (by simp);grind
def zjy (a n:Nat):(YM a n).length<=2*n:=by unfold YM;simp
def ztZ {m:Md} {ws d:G7} {n X:Nat} (h1:m.walls.length<=X) (o:m.levels.length<=X) (k:∀ w∈m.walls,w.length<=n) (h:∀ l∈m.levels,l.length<=n):(allG m ws d).length<=X*(2*n)+X*(2*n+2*(n*(n*3))):=by
 have e:∀ i,(m.walls.getD i []).length<=n:=fun i=>Yv k (BL _);have f:∀ i,(m.levels.getD i []).length<=n:=fun i=>Yv h (BL _);have g:∀ i j b,(acX m ws d i j b).length<=n*(n*3):=fun i j b=>by
  refine Ag (zmi ..) ?_;rw [BR];exact CL (e j) (BK _ (f i))
 unfold allG eT;rw [Aw];refine Nat.add_le_add (Ag (WY fun i _=>?_) (by rw [DU];exact BK _ h1)) (Ag (WY fun i _=>?_) (by rw [DU];exact BK _ o))
 .exact Ag (zjy ..) (Cq _ (e i))
 .have a:=g i i false;have b:=g i (i+1) true;have c:=Ag (zjy (d.getD i 0) _) (Cq 2 (f i));unfold alL cE;grind
theorem zt0 (m:Md) (cs:List Ce):∀ n,(∀x∈(Ke m cs n).1,x<=n)/\∀ x∈(Ke m cs n).2,x<=n
  | 0=>⟨fun x h=>Nat.le_of_eq (EI.1 h).2,fun x h=>Nat.le_of_eq (EI.1 h).2⟩
  | n+1=>by
    obtain⟨h1,b⟩:=zt0 m cs n;have a:∀ {l:G7} {i:Nat},(∀x∈l,x<=n)->∀ x∈l.set i n,x<=n+1:=fun h x hx=>by
      grind
    have w1:∀ x∈(Ke m cs n).1,x<=n+1:=fun x h=>D5 (h1 x h);have w2:∀ x∈(Ke m cs n).2,x<=n+1:=fun x h=>D5 (b x h);unfold Ke
    split
    . unfold eJ
      grind
    grind
theorem zwP {p q:V2} (hp:Bp p k) (hq:Bq q.1 k) (a:Bq q.2 k):Bq (qj p q) (4*k+3):=by
 have:=hp.x;have:=hp.y;exact Li
theorem zn7 {cs:List Ce} {js:List Jn} (a:0<k) (h:∀ c∈cs,Bp c.2.2.2 k):∀ q∈VC cs js,Bq q (4*k+3):=fun q hq=>by
 obtain⟨j,_,rfl⟩:=Bc.1 hq;have g:∀ i,Bp (cs.getD i (0,0,0,0,0)).2.2.2 k:=fun i=>Yv h ⟨xb bq_zero a,xb bq_zero a⟩
 split
 .exact xb bq_zero C
 .exact zwP (g _) (g _).x (g _).y
def gx (g:Gr):Nat:=((List.range g.length).map fun i=>(g.getD i []).length).sum
def cx {f f':Nat->Nat} {n:Nat} (b:∀ i,i≠n->f' i=f i) (c:f' n<=f n+1):∀ m,((List.range m).map f').sum<=((List.range m).map f).sum+if n<m then 1 else 0
 | 0=>BL _
 | m+1=>by
  have a:=cx b c m;rw [Co,Cp,Cp,CA,CA];show _+(f' m+0)<=_+(f m+0)+_;grind
def nt {a:Nat} {r:Rd}:((qg g a r).getD i []).length<=(g.getD i []).length+(if i=a then 1 else 0):=by
 unfold qg;grind
def zjz (g:Gr) (a:Nat) (r:Rd):gx (qg g a r)<=gx g+1:=by
 unfold gx;rw [qi];refine Ag (cx (n:=a) (f:=fun i=>(g.getD i []).length) (fun i hi=>?_) ?_ _) (by grind)
 .unfold qg;grind
 .have:=nt (g:=g) (a:=a) (i:=a) (r:=r);grind
theorem zn8 (n:Nat) (js:List Jn) (ls:List Rat):∀ m,gx (grN n js ls m)<=2*m/\∀ a,((grN n js ls m).getD a []).length<=2*m
  | 0=>by
    have e:∀ a,((List.replicate n ([]:List Rd)).getD a []).length=0:=fun a=>Yv (p:=fun l:List Rd=>l.length=0) (fun l h=>by grind) Z
    refine⟨?_,fun a=>Nat.le_of_eq (e a)⟩;unfold gx grN;rw [show (fun i=>((List.replicate n ([]:List Rd)).getD i []).length)=fun _=>0 from funext e];have:∀ l:G7,(l.map fun _=>0).sum<=0:=fun l=>by induction l with
      | nil=>simp
      | cons x l ih=>grind
    grind
  | m+1=>by
    obtain⟨h1,b⟩:=zn8 n js ls m;unfold grN
    split
    . split
      . refine⟨Ag (zjz ..) (by have:=zjz (grN n js ls m) (by omega:Jn).1.toNat ((by omega:Jn).2.toNat,uR ls m);omega),fun a=>?_⟩
        refine Ag nt<|Ag (Nat.add_le_add_right nt _) ?_;grind
      grind
    grind
def zt1 (g:Gr):Jf g (List.replicate g.length false)<=gx g:=by
 unfold Jf gx;grind
theorem zd1 {fr:Nat} {done:List Bool} (h:SI g k fr [] done (xD g fr)) (d:Sym g) (hf:fr<g.length):∀ (m a:Nat),(∃p∈xD g fr,p.2.2=a/\p.2.1=m)->∀ n∈Wm g (qC g fr) (Qp g fr) fr m a,n<g.length
  | m,a,⟨p,hp,e1,e2⟩,n,hn=>by
    by_cases e:a=fr
    . subst e
      rw [zjv] at hn
      grind
    . obtain⟨m',i,h1,f,b⟩:=zn6 h d hp e1 e2 e
      subst i;rw [f] at hn
      rcases DZ.1 hn with c | c
      . have:=h.ns p hp;omega
      . exact zd1 h d hf m' _ b n c
def zjA {cs:List Rat} {st:List Int} {fr:Nat}:∀ (m a:Nat),(Wm g cs st fr m a).length<=m+1
 | 0,_=>Af _
 | m+1,a=>by
  unfold Wm;split
  . simp
  . rw [Ap];exact D9 (zjA m _)
theorem ov (o:GrOk g k) (l:Sym g) (f t:Nat):(∀n∈ff (wU g f t),n<g.length)/\(ff (wU g f t)).length<=g.length+1:=by
  have d:∀ z,z<0->(Qp g f).getD t (-1)=z->wU g f t=none:=fun z hz e=>by
    show (if 0<=(Qp g f).getD t (-1) then _ else _)=_;grind
  have c:wU g f t=none->(∀n∈ff (wU g f t),n<g.length)/\(ff (wU g f t)).length<=g.length+1:=fun e=>by
    rw [e];exact⟨fun n h=>(by cases h),BL _⟩
  rcases Ab f g.length with hf | hf
  . cases hz:(Qp g f)[t]? with
    | none=>grind
    | some z=>
      rcases Int.lt_or_le z 0 with a | a
      . grind
      . obtain⟨s,b⟩:=Qn o hf
        obtain⟨w,i,j⟩:=Bc.1 (lL hz a);have q:z.toNat=w.2.1:=by have:=b.stp i;rw [j,hz] at this;cases this;exact BQ _
        have r:=(b.bs w i).2;have hsz:=b.size;rw [zfC hz a];refine⟨fun n m=>zd1 b l hf _ _ ⟨w,i,j,q.symm⟩ n (Eg.1 m),?_⟩;show (List.reverse _).length<=_;rw [Em];exact Ag (zjA _ _) C
  . exact c (d (-1) J (by
      show (Kd g.length (xD g f)).getD t (-1)= -1;rw [km hf]
      grind))
end Num.Pl
namespace Go.Proofs
open Go Go.Sv Num Num.Pl Num.Hp
theorem zt2 {m:Md} {K N:Nat} (a:ck m K N):∀ c∈zV m,Bp c.2.2.2 (60*K+105):=fun c f=>by
 have b:=a.pos;have hx:∀ i,Bq (m.xs.getD i 0) K:=fun i=>Yv a.xs (xb bq_zero b);obtain⟨i,_,h⟩:=DP.1 (show c∈(List.range m.xs.length).flatMap _ from f);rcases Bu.1 h with h | h
 .exact wF (ztv b (hx i) (Yv a.wl (fun q h=>by cases h)) c h) C
 .split at h
  .have d:=qp (hx i) (hx (i+1)) b;refine wF (ztv (k:=12*K+20) C (xb d C) (fun q hq=>?_) c h) C;obtain⟨v,e,rfl⟩:=Bc.1 hq;exact ztz (hx i) (hx (i+1)) d (Yv a.lv (fun v h=>by cases h) v e)
  grind
end Go.Proofs
namespace Go.Sv
open Go Go.RowKit Go.Proofs
def zqs (I:Imm) (l:G6):dens I (l.flatMap u8S) (Lib.strCells ⟨l.toArray⟩):=by
 have e:Lib.strCells ⟨l.toArray⟩=l.map fun b=>Value.int .u8 b.toNat:=by simp [Lib.strCells]
 rw [e]
 induction l with
 | nil=>exact aq
 | cons x l ih=>rw [BM];exact yB Z (ih (by rfl))
def zjB (l:G6):(⟨l.toArray⟩:ByteArray).size=l.length:=by rfl
class ei (P:Program) (e:TypeId):Prop where
 h:∃ i,P.info? e=some i/\i.zero=some (.int .u8 0)/\i.size=1/\i.bytes=1
 c:P.cellsOf e=1
section
variable {P:Program} {G:Imm} {o:Oper} {H:HL} {g:Ha}
variable {t u e:TypeId} {x y:Operand} {cs:List SV} {n:Nat} {q:G3} {l:G6}
def zqt {ty:TypeId} {i:TypeInfo} (ht:P.underlying t=some (.slice e)) (k:P.underlying u=some .string) (hi:P.info? e=some i) (p:i.zero=some (.int .u8 0)) (a:i.size=1) (h:i.bytes=1)
 {W W':World} {v o:Value} {xs:List Value} (c:W.ownsRow 0 e 1 v n xs) (s:ByteArray) (x:n+s.size<=140737488355328) (l:(Builtin.append_ #[t,u] ty #[v,.string s]).run P W= .ok o W'):∀ b,o.ownBlock=some b->v.ownBlock=some b\/W.heap.size<=b:=by
 intro b d;rcases c.2 with ⟨rfl,rfl⟩ | ⟨g,cap,j,rfl,_,r,q,_,w,_⟩
 .obtain⟨z,W2,h1,y,_,_⟩:=Lib.run_append_own_string W W.heap.size t u ty e i ht k hi p a h (.slice none 0 0) 0 xs ⟨c.1,.inl ⟨Z,Z⟩⟩ s (by unfold maxLen;omega) x (Af _);rw [l] at h1;cases h1
  rcases y.2 with ⟨rfl,_⟩ | ⟨g,cap,j,rfl,m,_⟩
  .cases d
  .cases d;grind
 .by_cases f:n+s.size<=cap
  .have h1:=Lib.run_append_room_string W t u ty e i ht k hi a g n cap j r s f C;rw [l] at h1;cases h1;exact .inl d
  .have h1:=Lib.run_append_grow_string W t u ty e i (.int .u8 0) ht k hi p ⟨g,0,none⟩ n cap xs (by rw [a];exact c.1) (c.cells Z) s C C (by rw [h];exact growslice_fits C C);rw [l] at h1;cases h1;cases d;simp
def zg4 [am P t e 1] [j:ei P e]
 (hop:o.op= .call {callee:=.builtin .append,args:= #[x,y],argTypes:= #[t,u]}) (hx:yW g x=some (eqS (rowV q n))) (hy:yW g y=some (strS l)) (m:P.underlying u=some .string) (hq:zX q n) (A:cs.length=n) (z:n+l.length<=yE):
 OpL P G o g [rowE q e 1 n cs] (fun s H'=>∃ q',zX q' (n+l.length)/\s=eqS (rowV q' (n+l.length))/\H'=[rowE q' e 1 (n+l.length) (cs++l.flatMap u8S)]):=by
 refine lP hop hx hq (by omega) fun I W a xs w v b=>?_
 obtain⟨i,hi,k,c,f⟩:=j.h;have ht:=am.u (P:=P) (t:=t);have d:n+(⟨l.toArray⟩:ByteArray).size<=140737488355328:=by rw [zjB];exact z
 obtain⟨r,W',p,e2,E,_⟩:=Lib.run_append_own_string W 0 t u o.type e i ht m hi k c f (rowV q n) n xs b ⟨l.toArray⟩ (by unfold maxLen;omega) d (BL _);have D:=zqt ht m hi k c f b _ d p;rw [zjB] at e2;rw [show a.eval y= .string ⟨l.toArray⟩ from v.get Gl hy];exact⟨r,W',_,p,e2,E,D,zqs I l,Lib.strCells_oneCell _⟩
def zwK (q:G3):Value:=.pointer (q.map fun z=>⟨z.1,0,none⟩)
def zg5 (hop:o.op= .call {callee:=.builtin .unsafeSliceData,args:= #[x],argTypes:= #[t]}) (hx:yW g x=some (eqS (rowV q n))) (hq:zX q n) (d:q=none\/0<n):OpOK P G H o g (eqS (zwK q)):=
 yy GW fun I W a _ _ c=>by
  have b:a.eval x=rowV q n:=c.get Gl hx;refine⟨zwK q,?_,Z⟩;simp only [execOp,hop,resolve,Sem.run_bind,Sem.run_pure,Result.andThen_ok,invoke,builtin];rw [show Array.map a.eval #[x]= #[rowV q n] by simp [b]];cases q with
  | none=>rfl
  | some z=>
   have e:=d.resolve_left B;have:(Builtin.unsafeSliceData_ #[t] o.type #[.slice (some ⟨z.1,0,none⟩) n z.2]).run P W=_:=Lib.run_unsafeSliceData_row W #[t] o.type ⟨z.1,0,none⟩ n z.2 (by have:=hq.1;omega);show Result.andThen ((Builtin.unsafeSliceData_ #[t] o.type #[.slice (some ⟨z.1,0,none⟩) n z.2]).run P W) _=_;rw [this];rfl
def zjC [E:ei P e]
 (hop:o.op= .call {callee:=.builtin .unsafeString,args:= #[x,y],argTypes:= #[t,u]}) (hx:yW g x=some (eqS (zwK q))) (hy:yW g y=some (MK l.length)) (hp:P.underlying t=some (.pointer e)) (hq:zX q l.length) (A:cs=l.flatMap u8S) (R:q=none\/l≠[]) (hm:l.length<=yE):
 OpL P G o g [rowE q e 1 l.length cs] (fun s H'=>s=strS l/\H'=[]):=by
 intro nn r I W a S Q v hh X U;have H:a.eval x=zwK q:=X.get Gl hx;have F:a.eval y= .int .i64 l.length:=X.get Gl hy;have d:∀ W',(Builtin.unsafeString_ #[t,u] o.type #[zwK q,.int .i64 l.length]).run P W= .ok (.string ⟨l.toArray⟩) W'->(execOp a.eval o).run P W= .ok (.value (.string ⟨l.toArray⟩)) W':=fun W' h=>by
  simp only [execOp,hop,resolve,Sem.run_bind,Sem.run_pure,Result.andThen_ok,invoke,builtin];simp_all
 have m:HoldsH [] I W:=⟨BX,fun p hp=>M1 hp B⟩;cases q with
 | none=>
  have R:l=[]:=Aa hq;subst R;exact xg GW (d W (Lib.run_unsafeString_none W _ _ _ _))<|U _ I W _ _ ⟨Z,Z⟩ ((Fram.refl _ I W).weaken (fun b h=>h) fun b h=>M1 h (by simp [bs])) v m Z
 | some z=>
  obtain⟨b,cap⟩:=z;have L:=R.resolve_left B;obtain⟨hn,c,hc,O,ho,N⟩:=(hh.mem (rowE (some (b,cap)) e 1 l.length cs) B).some Z;have a0:cs.length=l.length:=by rw [A,yG (st:=1) GY,Cr]
  have Y:c.size=cs.length+(cap*1-l.length*1):=O;have w:dens I cs (c.toList.take cs.length):=N;have n:=Lib.run_unsafeString_row (P:=P) W t u o.type e hp E.c b c.size (by simp [World.shape?,hc];rfl) l L C (by unfold yE at hm;omega) (by
   intro j x hx;have hj:=(EC.1 hx).1;have hs:cs[j]? =some (ze .u8 x.toNat):=by
    rw [A];have:=zmy (l:=l) (rest:=[]) (i:=j) hj;rw [BV,Br] at this;rw [this,Ay,hx];rfl
   obtain⟨y,hy,D⟩:=w.get hs;rw [show y= .int .u8 x.toNat from D] at hy
   rw [Dh C] at hy
   rw [XU,xC hc,Br]
   grind)
  refine xg GW (d _ n) ?_;have f:∀ k,k≠b->(W.freeze ⟨b,0,none⟩ l.length).heap[k]? =W.heap[k]? :=fun k f=>by
   unfold World.freeze;grind
  obtain⟨K,M⟩:=uz v hn Gn Gn Gn (by unfold World.freeze;split;rfl;simp) f;exact U _ I _ _ _ ⟨Z,Z⟩ (M.weaken (fun k f=>by subst f;simp [bs,rowE]) fun k f=>M1 f (by simp [bs])) K ⟨BX,fun p hp=>M1 hp B⟩ Z
end
end Go.Sv
