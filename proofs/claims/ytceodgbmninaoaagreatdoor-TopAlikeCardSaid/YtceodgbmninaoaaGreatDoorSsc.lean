/- Texts: what the program calls of the library: CutPrefix. -/
import Derived.Test.YtceodgbmninaoaaGreatDoorSzn
import Derived.Test.YtceodgbmninaoaaGreatDoorSh
import Derived.Test.YtceodgbmninaoaaGreatDoorSnk
import Derived.Lib.LaidTab
import Derived.Lib.ItoaMem
import Derived.Test.YtceodgbmninaoaaGreatDoorSzzz
import Derived.Lib.ItoaNum
import Derived.Lib.Repeat
import GoSem.Op.String
import Derived.Lib.IndexMore
import Derived.Lib.Join
import Derived.Lib.Strings
set_option linter.all false
namespace Go.Sv
open Go Go.RowKit
variable {vs:List Value} {I:Imm} {s:SV}
def Ku {P:Program} {G:Imm} {H:HL} {o:Oper} {g:Ha} {t n st:Nat} [s:bI P t n st] {x:Operand} {high:Option Operand} {b hi:Nat} {z:Operand} {k:IntKind} (hop:o.op= .slice t x none high none) (hx:yW g x=some (G9 b)) (m:high=some z) (p:yW g z=some (ze k hi)) (u:hi<=n):OpOK P G H o g (eqS (.slice (some ⟨b,0,none⟩) hi n)):=by
 subst m;refine yy GW fun I W a v m l=>?_;have d:a.eval x= .pointer (some ⟨b,0,none⟩):=l.get GB hx;have c:a.eval z= .int k hi:=l.get GB p;obtain⟨e,q,j⟩:=s.h;refine⟨_,?_,Z⟩;obtain⟨i,f,r⟩:=DB.1 j;simp [execOp,hop,d,c,Instr.sliceAt,Instr.sureAddr,run_underlying q,Instr.sliceBounds,Instr.sliceBound,asIntOf,u,sizeOf,typeInfo,f,Addr.add_lit]
def Kv (h:dens I [s] vs):∃ x,vs=[x]/\s.den I x:=by
 obtain⟨x,r,rfl,hx,a⟩:=xW h;rw [dens_nil_inv a];grind
def Zr {t:SV} (h:dens I [s,t] vs):∃ x y,vs=[x,y]/\s.den I x/\t.den I y:=by
 obtain⟨x,r,rfl,hx,a⟩:=xW h;obtain⟨y,rfl,hy⟩:=Kv a;grind
end Go.Sv
namespace Go.Proofs
open Go Go.Sv Num Tryz
variable {G:Imm}
variable {u:Nat} {rest:List SV} {l:G6}
class ba (G:Imm):Prop where
 h:G 0=some (Lib.pow10Tab.map fun z=>Value.int .u64 z).toArray
def zAp [ba G] {I:Imm} {W:World} (h:Sv.Holds G I W):Lib.TabIs prog W "internal/strconv.uint64pow10" .u64 Lib.pow10Tab:=by
 have b:prog.globalNamed "internal/strconv.uint64pow10" =some 0:=V;obtain⟨e,f,a⟩:=h.mem _ _ (h.glob _ _ ba.h);simp [Lib.TabIs,World.var?,b,a]
def zcw {m:G6}:G0 G 434 [strS l,strS m] (yR [strS (Lib.trimPrefix l m),zp (Lib.hasPrefix l m)]):=
 vX (Go.Proofs.enters_of func434 Z Z) fun I W vs h1 c=>by
  obtain⟨x,y,rfl,hx,hy⟩:=Zr c;rw [show x= .string ⟨l.toArray⟩ from hx,show y= .string ⟨m.toArray⟩ from hy];exact (Tryz.strings_CutPrefix ⟨l.toArray⟩ ⟨m.toArray⟩ W).mono fun e W' ⟨b,a⟩=>⟨_,b,fun J _=>⟨_,Z,yB Z (yB Z aq)⟩,by rw [a];exact Go.RowKit.Below.refl _ _⟩
def zea {c:UInt8} (d:c.toNat<128):G0 G 105 [strS l,strS [c]] (strS (l.dropWhile (· ==c))):=
 vX (Go.Proofs.enters_of func105 Z Z) fun I W vs h1 f=>by
  obtain⟨x,y,rfl,hx,hy⟩:=Zr f;rw [show x= .string ⟨l.toArray⟩ from hx,show y= .string ⟨#[c]⟩ from hy];exact (Tryz.strings_TrimLeft_one ⟨l.toArray⟩ c d W).mono fun e W' ⟨b,a⟩=>⟨_,b,fun J _=>rfl,by rw [a];exact Go.RowKit.Below.refl _ _⟩
def zhV {c:Nat} (f:c<=9223372036854775807) (b:l.length*c<=140737488355328):G0 G 104 [strS l,MK c] (strS (Lib.repeatL l c)):=
 vX (Go.Proofs.enters_of func104 Z Z) fun I W vs h1 g=>by
  obtain⟨x,y,rfl,hx,hy⟩:=Zr g;rw [show x= .string ⟨l.toArray⟩ from hx,show y= .int .i64 c from hy];exact (Tryz.strings_Repeat ⟨l.toArray⟩ c W f (by assumption)).mono fun e W' ⟨d,a⟩=>⟨_,d,fun J _=>rfl,a⟩
def zaW (h:u<100):G0 G 160 [MK u] (strS (Lib.decDigits u)):=
 vX (Go.Proofs.enters_of func160 Z Z) fun I W vs h1 c=>by
  obtain⟨x,rfl,hx⟩:=Kv c;rw [show x= .int .i64 u from hx];exact (Tryz.internal_strconv_small u h W).mono fun e W' ⟨b,a⟩=>⟨_,b,fun J _=>rfl,by rw [a];exact Go.RowKit.Below.refl _ _⟩
def zcx [ba G] (h1:1<=u) (f:u<18446744073709551616):G0 G 161 [ze .u64 u] (MK (Lib.nDigits u)):=
 vX (Go.Proofs.enters_of func161 Z Z) fun I W vs d c=>by
  obtain⟨x,rfl,hx⟩:=Kv c;rw [show x= .int .u64 u from hx];exact (Tryz.internal_strconv_numDigits u h1 f W (zAp d)).mono fun e W' ⟨b,a⟩=>⟨_,b,fun J _=>rfl,by rw [a];exact Go.RowKit.Below.refl _ _⟩
def zkl (h1:1<=u) (b:u<18446744073709551616):Lib.nDigits u<=20:=by
 obtain⟨a,c⟩:=Lib.numDigits_eq u h1 b;grind
def zCt {i:Nat} (h:i<24):((List.replicate 24 (Value.int .u8 0)).map eqS)[i]? =some (ze .u8 0):=by grind
def zmy {i:Nat} (h:i<l.length):(l.flatMap u8S++rest)[0+i]? =some (ze .u8 ((l.getD i 0).toNat:Int)):=by
 induction l generalizing i with
 | nil=>grind
 | cons x l ih=>
  grind
def zkm {b e N k:Nat} {cs:List SV} (U:u<18446744073709551616) (hn:Lib.nDigits u<=cs.length) (X:Lib.nDigits u<=20) (S:∀ i,i<Lib.nDigits u->cs[i]? =some (ze .u8 0)):
 CallSpec prog G 162 [eqS (.slice (some ⟨b,0,none⟩) (Lib.nDigits u) N),ze .u64 u] [⟨some b,e,cs,k⟩] (fun s H'=>s=yR []/\H'=[⟨some b,e,(Lib.decDigits u).flatMap u8S++cs.drop (Lib.nDigits u),k⟩]):=by
 refine⟨Go.Proofs.enters_of func162 Z Z,fun I W vs h1 h2 h3=>?_⟩;obtain⟨x,y,rfl,hx,hy⟩:=Zr h3;rw [show x= .slice (some ⟨b,0,none⟩) (Lib.nDigits u) N from hx,show y= .int .u64 u from hy];obtain⟨R,c,D,Q,M,P⟩:=(h2.mem _ (AS.2 Z)).some Z;simp only at D Q M P;have g:∀ (i:Nat) (s:SV),cs[i]? =some s->∃ x,c[i]? =some x/\s.den I x/\x.oneCell'=true:=fun i s hi=>by
  obtain⟨x,hx,w⟩:=P.get hi;have F:=yJ hi;have:=M x (AE hx);grind
 have hH:Go.Sort.Holds (fun (b:UInt8)=>Value.int .u8 (b.toNat:Int)) W b 0 (Array.replicate (Lib.nDigits u) (0:UInt8)):=fun j hj=>by
  rw [Dn] at hj
  obtain⟨x,hx,w,_⟩:=g j _ (S j hj);refine⟨?_,by simp [World.frozen?,D]⟩;rw [xC D,Br,hx,show x= .int .u8 0 from w];simp_all
 have v:=Tryz.internal_strconv_formatBase10 b 0 N u (Array.replicate (Lib.nDigits u) (0:UInt8)) W hH (by rw [Dn];exact Lib.lt_pow_nDigits u) U (by grind);rw [Dn] at v
 refine v.mono ?_;rintro ed W' ⟨rfl,m,v',h,rfl,f⟩;have Y:=f.size;have hb:((Go.Sort.putRow (fun (b:UInt8)=>Value.int .u8 (b.toNat:Int)) W b 0 h).drewN m).heap[b]? =some (.cells (Go.Sort.putCells (fun (b:UInt8)=>Value.int .u8 (b.toNat:Int)) 0 h c) e (0,0)):=by
  show (W.heap.modify b _)[b]? =_;rw [Dp];simp [D,Go.Sort.onCells]
 have hsz:(Go.Sort.putCells (fun (b:UInt8)=>Value.int .u8 (b.toNat:Int)) 0 h c).size=c.size:=by simp [Go.Sort.putCells]
 obtain⟨E,K⟩:=uz (W':=(Go.Sort.putRow (fun (b:UInt8)=>Value.int .u8 (b.toNat:Int)) W b 0 h).drewN m) h1 R Z Z Z (by simp) (fun k q=>by
  show (W.heap.modify b _)[k]? =_
  grind)
 have d:((Lib.decDigits u).flatMap u8S).length=Lib.nDigits u:=by
  rw [<-Lib.decDigits_length];generalize Lib.decDigits u=l
  induction l with
  | nil=>rfl
  | cons x l ih=>grind
 have H:∀ i,i<Lib.nDigits u->((Lib.decDigits u).flatMap u8S)[i]? =some (ze .u8 (h[i]!.toNat:Int)):=fun i hi=>by
  have t:i<(Lib.decDigits u).length:=by rw [Lib.decDigits_length];exact hi
  rw [<-Lib.row_is_numeral f i t,BW];have:=ZD (st:=1) (css:=(Lib.decDigits u).map u8S) B (i:=i) (j:=0) (c:=u8S (Lib.decDigits u)[i]) (by simp [t]) Z;exact Le
 refine⟨_,I,_,_,Z,⟨Z,Z⟩,⟨[],Z,aq⟩,E,⟨by simp [bs],fun p hp=>?_⟩,K.weaken (fun k q=>by simp [bs];exact q) fun k q=>.inl (by simpa [bs] using q)⟩;rw [AS.1 hp];have a:((Lib.decDigits u).flatMap u8S++cs.drop (Lib.nDigits u)).length=cs.length:=by rw [Aw,d,Cc];omega
 have z:∀ i x,((Go.Sort.putCells (fun (b:UInt8)=>Value.int .u8 (b.toNat:Int)) 0 h c).toList.take cs.length)[i]? =some x->(i<Lib.nDigits u/\x= .int .u8 (h[i]!.toNat:Int))\/(¬i<Lib.nDigits u/\i<cs.length/\c[i]? =some x):=fun i x hx=>by
  have hi:i<cs.length:=by have:=yJ hx;simp at this;omega
  have r:i<c.size:=by omega
  rw [Dh hi] at hx
  simp only [Go.Sort.putCells,Dq,Array.getElem?_mapIdx,AJ r,AM,Dk] at hx
  grind
 refine .of_some Z ⟨R,_,hb,?_,?_,?_⟩
 .grind
 .simp only;rw [a];intro x hx;obtain⟨i,hi⟩:=Dr hx;rcases z i x hi with ⟨_,rfl⟩ | ⟨_,O,L⟩
  .rfl
  .exact M x (AE (i:=i) (by grind))
 .simp only;rw [a];refine⟨by grind,fun i s x A hx=>?_⟩;rcases z i x hx with ⟨n,rfl⟩ | ⟨n,O,L⟩
  .rw [Ad (by omega),H i n] at A
   cases A;rfl
  .rw [Ae (by omega),d,AV,(C:Lib.nDigits u+(i-Lib.nDigits u)=i)] at A
   grind
def zoL [ba G] (b:u<18446744073709551616):G0 G 151 [ze .u64 u,MK 10] (strS (Lib.decDigits u)):=by
 refine Fq func151 ?_;refine Ft ?_;refine Fo ?_ ?_<;>intro _ a
 .refine Fi (yO Z Z (wrap_i64 C C)) ?_;refine Fl Z Z (zaW C) ?_;exact Hj
 .have c:=zkl (by omega) b;refine Fm fun d=>?_;refine Fl Z Z (zcx C b) ?_;refine Fi (Ku Z Z Z Z C) ?_;refine aE 0 Z Z Z Z (zkm b (C:_<=24) c (fun i hi=>zCt C)) Z Z Z ?_
  rintro s1 H1 ⟨rfl,rfl⟩;refine zg ?_;refine Fi (Ku Z Z Z Z C) ?_;refine Fi (zkj 0 Z Z Z (Lib.decDigits_length u) (fun i hi=>zmy (by rw [Lib.decDigits_length];exact hi))) ?_;exact Hj
def zoM [ba G] (a:u<18446744073709551616):G0 G 103 [ze .u64 u,MK 10] (strS (Lib.decDigits u)):=by
 refine Fq func103 ?_;refine Fk (zoL a) ?_;exact Hj
end Go.Proofs
namespace Num
open Go Go.Lib
variable {n k m:Nat} {l:G6}
def JH (n:Nat):G7:=if h:n=0 then [] else n%1000000000::JH (n/1000000000)
 termination_by n
 decreasing_by omega
def Xd:JH 0=[]:=by unfold JH;rfl
def VT (h:n≠0):JH n=n%1000000000::JH (n/1000000000):=by rw [JH];simp [h]
def pd (k n:Nat):G6:=(List.range k).map fun t=>dg n (k-1-t)
def qU (k n:Nat):(pd k n).length=k:=by simp [pd]
def zrd (n i j:Nat):dg n (i+j)=dg (n/10^i) j:=by
 unfold dg;rw [Ct,CQ]
def zre {i j:Nat} (h:j<i):dg (n%10^i) j=dg n j:=by
 unfold dg;congr 2;obtain⟨d,rfl⟩:∃ d,i=j+(d+1):=⟨i-j-1,C⟩;rw [Ct,C2,Ch,Ck (10^d),Nat.mod_mul_right_mod]
def Kw (k i n:Nat):pd (k+i) n=pd k (n/10^i)++pd i n:=by
 unfold pd;rw [List.range_add,Cp,As];congr 1
 .refine Bk fun t ht=>?_;have:=AI.1 ht;rw [<-zrd]
  grind
 .refine Bk fun t ht=>?_;grind
def mL (i n:Nat):pd i (n%10^i)=pd i n:=by
 refine Bk fun t ht=>?_;have:=AI.1 ht;exact zre C
def zuI (i:Nat):pd i 0=List.replicate i 48:=by
 unfold pd;rw [List.eq_replicate_iff];refine⟨B,fun b a=>?_⟩;obtain⟨t,_,rfl⟩:=Bc.1 a;simp [dg]
def jd (h:nDigits n<=k):pd k n=List.replicate (k-nDigits n) 48++decDigits n:=by
 obtain⟨c,rfl⟩:∃ c,k=c+nDigits n:=⟨k-nDigits n,by omega⟩
 rw [Kw,decDigits_eq,CT (lt_pow_nDigits n),zuI,Ds];rfl
theorem xn:∀ {k n:Nat},n<10^(k+1)->nDigits n<=k+1
  | 0,n,h=>by rw [nDigits_small GP];omega
  | k+1,n,h=>by
    by_cases a:n<10
    . rw [nDigits_small a];omega
    . rw [nDigits_big a]
      have:=xn (k:=k) (n:=n/10) (by omega)
      omega
theorem WA (h:n≠0):10^(nDigits n-1)<=n:=by
  induction n using Nat.strongRecOn with
  | _ n ih=>
    by_cases a:n<10
    . rw [nDigits_small a];omega
    . rw [nDigits_big a]
      have h1:=ih (n/10) (by omega) (by omega)
      have b:=nDigits_pos (n/10);rw [(C:nDigits (n/10)+1-1=(nDigits (n/10)-1)+1),Ch];omega
def zaX:∀ c,repeatL [48] c=List.replicate c (48:UInt8)
 | 0=>rfl
 | c+1=>by
  show [48]++repeatL [48] c=_;rw [zaX c,Cn];rfl
def zCu (h:m<1000000000):repeatL [48] (9-nDigits m)++decDigits m=pd 9 m:=by
 rw [zaX,jd (xn h)]
def txt (l:G7):G6:=l.foldl (fun s m=>pd 9 m++s) []
def zoN (l:G7) (s:G6):l.foldl (fun s m=>pd 9 m++s) s=txt l++s:=by
 unfold txt;simp
def zhW (m:Nat) (l:G7):txt (m::l)=txt l++pd 9 m:=by
 show l.foldl _ (pd 9 m++[])=_;rw [zoN,BV]
def zrg {l:G7} (h:l[k]? =some m):txt (l.take (k+1))=pd 9 m++txt (l.take k):=by
 unfold txt;rw [Cz,h,Dt];rfl
def zcz (l:G7):(txt l).length=9*l.length:=by
 induction l with
 | nil=>rfl
 | cons m l ih=>rw [zhW,Aw,ih,qU,Ap];omega
theorem zuJ (n:Nat):txt (JH n)=pd (9*(JH n).length) n:=by
  induction n using Nat.strongRecOn with
  | _ n ih=>
    by_cases h:n=0
    . subst h;rw [Xd];rfl
    . rw [VT h,zhW,ih (n/1000000000) C,Ap,Nat.mul_succ,Kw]
      rw [(FV:(1000000000:Nat)=10^9),mL]
theorem qV (n:Nat):n<10^(9*(JH n).length):=by
  induction n using Nat.strongRecOn with
  | _ n ih=>
    by_cases h:n=0
    . grind
    . rw [VT h,Ap,Nat.mul_succ,Ct]
      grind
theorem zhX (h:n≠0):∃ c r,decDigits n=c::r/\c≠48:=by
  induction n using Nat.strongRecOn with
  | _ n ih=>
    rw [decDigits]
    by_cases a:n<10
    . rw [MZ a]
      refine⟨_,_,Z,fun e=>?_⟩;have:(UInt8.ofNat (48+n)).toNat=48:=by rw [e];rfl
      rw [UInt8.toNat_ofNat'] at this;omega
    . rw [M0 a]
      obtain⟨c,r,h1,b⟩:=ih (n/10) C C;grind
def cC:decDigits 0=[48]:=by rw [decDigits,MZ J];rfl
def zko (c:Nat) (l:G6):(List.replicate c 48++l).dropWhile (· ==48)=l.dropWhile (· ==48):=by
 simp
def zrh (h:n≠0):(decDigits n).dropWhile (· ==48)=decDigits n:=by
 obtain⟨c,r,h1,a⟩:=zhX h;simp_all
def zoO (n:Nat):(txt (JH n)).dropWhile (· ==48)=if n=0 then [] else decDigits n:=by
 by_cases h:n=0
 .subst h;rw [Xd,MX Z];rfl
 .rw [MY h,zuJ,jd,zko,zrh h];have h1:=qV n;have b:(JH n).length≠0:=by rw [VT h,Ap];omega
  obtain⟨k,a⟩:∃ k,9*(JH n).length=k+1:=⟨9*(JH n).length-1,C⟩;rw [a] at h1 ⊢
  exact xn h1
theorem VU:∀ {L n:Nat},n<4294967296^L->(JH n).length<=2*L
  | 0,n,h=>by
    have:n=0:=by simpa using h
    rw [this,Xd];simp
  | L+1,n,h=>by
    by_cases a:n=0
    . rw [a,Xd];simp
    . rw [VT a,Ap]
      by_cases h1:n/1000000000=0
      . rw [h1,Xd,Ax];omega
      . rw [VT h1,Ap]
        have b:n/1000000000/1000000000<4294967296^L:=by
          rw [Ch] at h
          generalize 4294967296^L=q at h
          omega
        have:=VU b;omega
def isD (c:UInt8):Bool:=decide (48<=c.toNat)&&decide (c.toNat<=57)
def Xo (l:G6):Nat:=l.foldl (fun a c=>a*10+(c.toNat-48)) 0
def zeD (l:G6) (c:UInt8):Xo (l++[c])=Xo l*10+(c.toNat-48):=by unfold Xo;simp
def qW (h:k<l.length):Xo (l.take (k+1))=Xo (l.take k)*10+(l[k].toNat-48):=by
 rw [Cz,AL h];exact zeD _ _
def kH (h:l.all isD=true):Xo l<10^l.length:=by
 have a:∀ k,k<=l.length->Xo (l.take k)<10^k:=fun k=>by
  induction k with
  | zero=>intro _;rw [Di];decide
  | succ k ih=>
   intro c;rw [qW C,Ch];have h1:=ih C;have b:=B9.1 h l[k] (Bf _);simp only [isD,AD,decide_eq_true_eq] at b
   omega
 grind
def Vm {u:Nat} (h:u<10):(UInt8.ofNat (48+u)).toNat=48+u:=by rw [UInt8.toNat_ofNat'];omega
theorem QC (n:Nat):(decDigits n).all isD=true:=by
  induction n using Nat.strongRecOn with
  | _ n ih=>
    rw [decDigits]
    by_cases h:n<10
    . rw [MZ h]
      simp only [Du,List.all_nil,Bool.and_true,isD,Vm h,AD,decide_eq_true_eq];omega
    . rw [M0 h,Dl,ih (n/10) C]
      have h1:n%10<10:=Be _ J;simp only [Du,List.all_nil,Bool.and_true,isD,Vm h1,C5,AD,decide_eq_true_eq];omega
theorem Ky (n:Nat):Xo (decDigits n)=n:=by
  induction n using Nat.strongRecOn with
  | _ n ih=>
    rw [decDigits]
    by_cases h:n<10
    . rw [MZ h]
      show 0*10+((UInt8.ofNat (48+n)).toNat-48)=n;rw [Vm h];omega
    . rw [M0 h,zeD,ih (n/10) C,Vm (Be _ J)]
      omega
def QX (l:G6):Bool:= !l.isEmpty&&(decide (l.length<=60)&&l.all isD)
def Kz (l:G6):Nat:=if QX l then Xo l else 0
def fe (l:G6):Int:=if QX l then 0 else 60
def zaY {α:Type} (l:List α):l=[]\/∃ r c,l=r++[c]:=by
 rcases List.eq_nil_or_concat l with h | ⟨r,c,h⟩
 .grind
 grind
def KA (h:l.all isD=true) (a:l≠[]):nDigits (Xo l)<=l.length:=by
 obtain⟨k,b⟩:∃ k,l.length=k+1:=⟨l.length-1,by have:=Er.2 a;omega⟩
 have:=kH h;rw [b] at this ⊢;exact xn this
def zkp {a:Nat} (h:a≠0) (c:n<10^k):decDigits (a*10^k+n)=decDigits a++pd k n:=by
 have hp:0<10^k:=CS J;have g:(a*10^k+n)/10^k=a:=by rw [Ck,Nat.mul_add_div hp,CT c];rfl
 have f:(a*10^k+n)%10^k=n:=by rw [Ck,Nat.mul_add_mod,CZ c]
 have h1:=WA h;have i:=lt_pow_nDigits a;have j:=nDigits_pos a;have d:nDigits (a*10^k+n)=nDigits a+k:=by
  rw [nDigits_unique (nDigits a-1+k) _ ?_ ?_]
  .omega
  .rw [Ct];exact Ag (BK _ h1) (Dg _ _)
  .rw [(C:nDigits a-1+k+1=nDigits a+k),Ct];have:=BK (10^k) (Nat.succ_le_of_lt i);grind
 have b:=jd (by rw [d];exact Af _);rw [d,Az,Kw,g,<-mL k (a*10^k+n),f] at b
 have e:=jd (n:=a) (Af _);grind
def zkq (h:nDigits m<nDigits n):m<n:=by
 have h1:=lt_pow_nDigits m;have a:n≠0:=fun e=>by rw [e,nDigits_small (J:0<10)] at h;have:=nDigits_pos m;omega
 have b:=WA a;have:10^nDigits m<=10^(nDigits n-1):=Cm (by decide) C;omega
def zuK:decDigits m=decDigits n↔m=n:=⟨fun h=>by rw [<-Ky m,h,Ky],fun h=>by rw [h]⟩
def zn (b:Bool) (n:Nat):Int:=if b then -(n:Int) else n
def WT (a b:G6) (m:Bool):Rat×Int×Int:=
 let t:=trimPrefix a [45]
 if QX t=false then (0,0,60)
 else if m=false then (mkRat (zn (hasPrefix a [45]) (Xo t)) 1,(t.length:Nat),0)
 else if QX b=false then (0,0,60)
 else if Xo b=0 then (0,((max t.length b.length:Nat):Int),30)
 else (mkRat (zn (hasPrefix a [45]) (Xo t)) (Xo b),((max t.length b.length:Nat):Int),0)
def UM (z:Int):G6:=if z<0 then 45::decDigits z.natAbs else decDigits z.natAbs
def uE (q:Rat):G6:=UM q.num++(if q.den=1 then [] else 47::decDigits q.den)
def zrj {c d:UInt8} (h:isD c=true) (a:isD d=false):c≠d:=fun e=>by grind
def kv {l:G6} {d:UInt8} (h:l.all isD=true) (a:isD d=false):∀ x∈l,x≠d:=fun _ hx=>zrj (B9.1 h _ hx) a
def zeE (z:Int):∀ x∈UM z,x≠47:=fun x hx=>by
 unfold UM at hx
 split at hx
 .rcases DZ.1 hx with rfl | hx
  .decide
  .exact kv (QC _) J x hx
 .exact kv (QC _) J x hx
def zkr (n:Nat):hasPrefix (decDigits n) [45]=false/\trimPrefix (decDigits n) [45]=decDigits n:=by
 have h1:=QC n;have:hasPrefix (decDigits n) [45]=false:=by
  cases h2:decDigits n with
  | nil=>decide
  | cons c r=>
   rw [h2] at h1
   simp only [Du,AD] at h1
   have a:¬ (45:UInt8)=c:=fun e=>zrj h1.1 J e.symm;simp [hasPrefix,List.isPrefixOf,a]
 exact⟨this,by unfold trimPrefix;grind⟩
def zrk (z:Int):hasPrefix (UM z) [45]=decide (z<0)/\trimPrefix (UM z) [45]=decDigits z.natAbs:=by
 unfold UM;by_cases h:z<0
 .rw [MX h,MR h];have:hasPrefix (45::decDigits z.natAbs) [45]=true:=by simp [hasPrefix,List.isPrefixOf]
  exact⟨this,by rfl⟩
 .rw [MY h,MS h];exact zkr _
def nE {n:Nat} (h:nDigits n<=60):QX (decDigits n)=true:=by
 unfold QX;rw [QC,decDigits_length];have:(decDigits n).isEmpty=false:=by
  cases h2:decDigits n with
  | nil=>have:=decDigits_length n;rw [h2] at this;have:=nDigits_pos n;grind
  | cons c r=>rfl
 grind
def zeF (z:Int):zn (decide (z<0)) z.natAbs=z:=by
 unfold zn;grind
variable {c:UInt8} {p:G6}
def wA (c:UInt8):G6->G1
  | []=>[[]]
  | x::r=>if x=c then []::wA c r else match wA c r with
    | []=>[[x]]
    | p::q=>(x::p)::q
def Yf (c:UInt8) (l:G6):wA c l≠[]:=by
 cases l with
 | nil=>simp [wA]
 | cons x r=>
  unfold wA;grind
def KC (r:G6) (h:∀ x∈p,x≠c):wA c (p++c::r)=p::wA c r:=by
 induction p with
 | nil=>simp [wA]
 | cons x p ih=>
  have h1:=ih fun y hy=>h y (Bi _ hy);rw [B1,wA,MY (h x (Dv ..)),h1]
def UN (h:∀ x∈p,x≠c):wA c p=[p]:=by
 induction p with
 | nil=>rfl
 | cons x p ih=>rw [wA,MY (h x (Dv ..)),ih fun y hy=>h y (Bi _ hy)]
def qX (c:UInt8) (l:G6):(∀x∈l,x≠c)\/∃ p r,l=p++c::r/\∀ x∈p,x≠c:=by
 induction l with
 | nil=>simp
 | cons x l a=>
  by_cases h:x=c
  . exact .inr ⟨[],l,by grind,fun _ h=>by cases h⟩
  grind
def nC {l:G6} {i:Nat}:occAt l [c] i=true↔l[i]? =some c:=by
 unfold occAt;rw [<-List.head?_drop];cases h:l.drop i with
 | nil=>simp
 | cons x r=>grind
def nB (r:G6) (h:∀ x∈p,x≠c):cut (p++c::r) [c]=(p,r,true):=by
 have hi:index (p++c::r) [c]=(p.length:Nat):=index_first B (nC.2 B) fun j hj=>by
  rw [Dw];intro e;have:=nC.1 e;grind
 unfold cut;simp_all
def bA (h:∀ x∈p,x≠c):cut p [c]=(p,[],false):=by
 have hi:index p [c]= -1:=by
  rcases index_spec p [c] with h1 | ⟨i,_,_,a,_⟩
  .omega
  .exact M1 Z (h c (AE (nC.1 a)))
 unfold cut;grind
theorem zrl (c:UInt8) (l:G6):join (wA c l) [c]=l:=by
  induction l with
  | nil=>rfl
  | cons x r ih=>
    unfold join at ih ⊢;unfold wA
    split
    . rename_i h
      subst h;cases hs:wA x r with
      | nil=>exact M1 hs (Yf _ _)
      | cons p q=>simp_all
    . cases hs:wA c r with
      | nil=>simp_all
      | cons p q=>
        simp_all
def KD:∀ {ws:G1},ws≠[]->(∀w∈ws,∀x∈w,x≠c)->wA c (join ws [c])=ws
 | [],h,_=>M1 Z h
 | [w],_,h=>by
  have:join [w] [c]=w:=by simp [join]
  rw [this,UN (h w (Dv ..))]
 | w::v::ws,_,h=>by
  have h1:=KD B fun u hu=>h u (Bi _ hu);unfold join at h1 ⊢
  rw [Dx,Bw,(FV:[c]++[c].intercalate (v::ws)=c::[c].intercalate (v::ws)),KC _ (h w (Dv ..)),h1]
def zrm (c:UInt8) (l:G6):wA c (l++[c])=wA c l++[[]]:=by
 induction l with
 | nil=>simp [wA]
 | cons x r ih=>
  rw [B1,wA,wA,ih];split
  . rfl
  . cases hs:wA c r with
   | nil=>exact M1 hs (Yf _ _)
   | cons p q=>rfl
def zrn {d:UInt8} (h:d≠c) (l:G6):(wA c (l++[d])).getLast? ≠some []:=by
 induction l with
 | nil=>simp [wA,h]
 | cons x r ih=>
  rw [B1,wA];cases hs:wA c (r++[d]) with
  | nil=>exact M1 hs (Yf _ _)
  | cons p q=>
   grind
def zuL (s:G6):(∃a,s=a/\cut s [47]=(a,[],false)/\wA 47 s=[a])\/∃ a b,cut s [47]=(a,b,true)/\wA 47 s=a::wA 47 b/\s=a++47::b/\∀ x∈a,x≠47:=by
 rcases qX 47 s with h | ⟨p,r,rfl,h⟩
 .exact .inl ⟨s,Z,bA h,UN h⟩
 .exact .inr ⟨p,r,nB r h,KC r h,Z,h⟩
def zro {c:UInt8} (a:isD c=false) (p r:G6):QX (p++c::r)=false:=by
 unfold QX;grind
def zoP {q:Rat} (h1:nDigits q.num.natAbs<=60) (d:nDigits q.den<=60):
 WT (cut (uE q) [47]).1 (cut (uE q) [47]).2.1 (cut (uE q) [47]).2.2=(q,((if q.den=1 then nDigits q.num.natAbs else max (nDigits q.num.natAbs) (nDigits q.den):Nat):Int),0):=by
 obtain⟨c,b⟩:=zrk q.num;unfold uE;by_cases a:q.den=1
 .rw [MX a,BV,bA (zeE _),MX a];unfold WT;simp only [c,b,nE h1,Ky,zeF,decDigits_length];rw [MY J,MX trivial];have:mkRat q.num 1=q:=by rw [<-a,Dy]
  grind
 .rw [MY a,nB _ (zeE _),MY a];unfold WT;simp only [c,b,nE h1,nE d,Ky,zeF,decDigits_length];rw [MY J,MY J,MY J,MY q.den_nz,Dy]
def XD {m n:Nat} (h:m<=n):nDigits m<=nDigits n:=Nat.le_of_not_lt fun g=>by have:=zkq g;omega
def bQ {z:Int} {d:Nat} (b:d≠0):(mkRat z d).num.natAbs<=z.natAbs/\(mkRat z d).den<=d:=by
 unfold mkRat;rw [M0 b,Rat.normalize_eq];refine⟨?_,Cu _ _⟩;show (z/((z.natAbs.gcd d:Nat):Int)).natAbs<=z.natAbs;have a:((z.natAbs.gcd d:Nat):Int)∣z:=Int.natAbs_dvd_natAbs.1 (by rw [Dz];exact Nat.gcd_dvd_left _ _);rw [Int.natAbs_ediv_of_dvd a];exact Cu _ _
def mK (b:Bool) (n:Nat):(zn b n).natAbs=n:=by unfold zn;omega
def zuM {a b:G6} {m:Bool} {q:Rat} {k:Int} (h:WT a b m=(q,k,0)):
 nDigits q.num.natAbs<=60/\nDigits q.den<=60/\((if q.den=1 then nDigits q.num.natAbs else max (nDigits q.num.natAbs) (nDigits q.den):Nat):Int)<=k/\k<=60:=by
 unfold WT at h
 simp only at h
 split at h
 .grind
 rename_i h1;have h1:QX (trimPrefix a [45])=true:=by simpa using h1
 generalize trimPrefix a [45]=t at h h1
 simp only [QX,AD,DA,decide_eq_true_eq] at h1
 have ht:=KA h1.2.2 (by grind);have g:nDigits 1=1:=nDigits_small J;have hp:=nDigits_pos (Xo t);split at h
 .simp only [Prod.mk.injEq] at h
  obtain⟨rfl,rfl,_⟩:=h;obtain⟨e,f⟩:=bQ (z:=zn (hasPrefix a [45]) (Xo t)) (d:=1) J;rw [mK] at e;have l:=XD e;have j:=XD f;grind
 split at h
 .grind
 rename_i c;have c:QX b=true:=by simpa using c
 simp only [QX,AD,DA,decide_eq_true_eq] at c
 have n:=KA c.2.2 (by grind);split at h
 .grind
 rename_i i;simp only [Prod.mk.injEq] at h
 obtain⟨rfl,rfl,_⟩:=h;obtain⟨e,f⟩:=bQ (z:=zn (hasPrefix a [45]) (Xo t)) i;rw [mK] at e;have l:=XD e;have j:=XD f
 grind
end Num
namespace Go.Sv
open Go Go.RowKit
def VV {I:Imm} {s t u:SV} {vs:List Value} (h:dens I [s,t,u] vs):∃ x y z,vs=[x,y,z]/\s.den I x/\t.den I y/\u.den I z:=by
 obtain⟨x,r,rfl,hx,b⟩:=xW h;obtain⟨y,z,rfl,hy,a⟩:=Zr b;grind
def ke {α:Type} {f:α->List SV} {st:Nat} {l:List α} {I:Imm} {v:Value} (h:(zR st id (l.map f)).den I v):(zR st f l).den I v:=by
 obtain⟨a,cap,d,h1,e,c⟩:=h;refine⟨a,cap,by grind,by grind,by grind,?_⟩;simp_all
abbrev tC (s:List UInt8):List SV:=[strS s]
def ji:∀ l:G1,(l.flatMap tC).length=l.length
 | []=>rfl
 | x::l=>by rw [BM,Aw,ji l];grind
def zmz {I G:Imm} {W:World} {b i:Nat} {c:Array Value} (h:Holds G I W) (d:I b=some c):W.cell? ⟨b,i,none⟩=c[i]? :=by
 obtain⟨e,f,a⟩:=h.mem _ _ d;simp [World.cell?,a]
end Go.Sv
namespace Go.Proofs
open Go Go.Sv Num Tryz
variable {G:Imm}
variable {m l:G6}
class aK (G:Imm):Prop where
 h:∃ (c:Array Value) (m:Int),G 1=some c/\c[0]? =some (.int .i64 m)
def zhY [aK G] (f:l.length<4294967281):G0 G 259 [strS l,strS m] (yR [strS (Lib.cut l m).1,strS (Lib.cut l m).2.1,zp (Lib.cut l m).2.2]):=
 vX (Go.Proofs.enters_of func259 Z Z) fun I W vs h1 i=>by
  obtain⟨x,y,rfl,hx,hy⟩:=Zr i;rw [show x= .string ⟨l.toArray⟩ from hx,show y= .string ⟨m.toArray⟩ from hy];obtain⟨j,c,b,a⟩:=aK.h (G:=G);exact (Tryz.strings_Cut ⟨l.toArray⟩ ⟨m.toArray⟩ c W (by assumption) ((zmz h1 (h1.glob _ _ b)).trans a)).mono fun e W' ⟨g,n,d⟩=>⟨_,g,fun J _=>⟨_,Z,yB Z (yB Z (yB Z aq))⟩,by rw [d];exact⟨Z,Z,Z,Af _,fun _ _=>rfl⟩⟩
def zcA (b:l.length<=9223372036854775807):G0 G 164 [strS l,strS m] (yR [strS (Lib.trimSuffix l m),zp (Lib.hasSuffix l m)]):=
 vX (Go.Proofs.enters_of func164 Z Z) fun I W vs h1 d=>by
  obtain⟨x,y,rfl,hx,hy⟩:=Zr d;rw [show x= .string ⟨l.toArray⟩ from hx,show y= .string ⟨m.toArray⟩ from hy];exact (Tryz.strings_CutSuffix ⟨l.toArray⟩ ⟨m.toArray⟩ W (by assumption)).mono fun e W' ⟨c,a⟩=>⟨_,c,fun J _=>⟨_,Z,yB Z (yB Z aq)⟩,by rw [a];exact Go.RowKit.Below.refl _ _⟩
def zbi:G0 G 352 [strS l,strS m] (strS (Lib.trimPrefix l m)):=
 vX (Go.Proofs.enters_of func352 Z Z) fun I W vs h1 c=>by
  obtain⟨x,y,rfl,hx,hy⟩:=Zr c;rw [show x= .string ⟨l.toArray⟩ from hx,show y= .string ⟨m.toArray⟩ from hy];exact (Tryz.strings_TrimPrefix ⟨l.toArray⟩ ⟨m.toArray⟩ W).mono fun e W' ⟨b,a⟩=>⟨_,b,fun J _=>rfl,by rw [a];exact Go.RowKit.Below.refl _ _⟩
def zoQ {ws:G1} (A:(Lib.join ws m).length<=140737488355328):G0 G 71 [zR 1 tC ws,strS m] (strS (Lib.join ws m)):=
 vX (Go.Proofs.enters_of func71 Z Z) fun I W vs h1 F=>by
  obtain⟨x,y,rfl,⟨a,cap,rfl,D,E,l⟩,hy⟩:=Zr F;rw [show y= .string ⟨m.toArray⟩ from hy];rcases l with rfl | ⟨b,o,rfl,l⟩
  .exact (Tryz.strings_Join_none a cap ⟨m.toArray⟩ W).mono fun e W' ⟨k,d⟩=>⟨_,k,fun J _=>rfl,by rw [d];exact Go.RowKit.Below.refl _ _⟩
  .by_cases t:ws=[]
   .subst t;exact (Tryz.strings_Join_none _ cap ⟨m.toArray⟩ W).mono fun e W' ⟨k,d⟩=>⟨_,k,fun J _=>rfl,by rw [d];exact Go.RowKit.Below.refl _ _⟩
   .have h:∀ (j:Nat) x,(ws.map fun w=>ByteArray.mk w.toArray)[j]? =some x->W.cell? ⟨b,o+j,none⟩=some (.string x):=fun j x n=>by
     rw [Ba,DB] at n
     obtain⟨w,d,rfl⟩:=n;obtain⟨c,i,r⟩:=l j w d;obtain⟨v,q,p,_⟩:=r 0 _ Z;rw [zmz h1 i,(C:o+j=o+j*1+0),q,show v= .string ⟨w.toArray⟩ from p]
    have s:b<W.heap.size:=by
     obtain⟨w,d⟩:=List.exists_mem_of_ne_nil ws t;obtain⟨j,n⟩:=Dr d;obtain⟨c,i,_⟩:=l j w n;obtain⟨e,f,d⟩:=h1.mem _ _ i;exact yv d
    have u:(ws.map fun w=>ByteArray.mk w.toArray).map (·.data.toList)=ws:=by
     rw [As];exact (Bk (g:=id) fun w _=>rfl).trans (Dm ws)
    have z:=Tryz.strings_Join b o cap (ws.map fun w=>ByteArray.mk w.toArray) ⟨m.toArray⟩ W h s (by rw [BR];exact E) (by grind) (by grind);rw [BR,u] at z
    exact z.mono fun e W' ⟨k,d⟩=>⟨_,k,fun J _=>rfl,d⟩
end Go.Proofs
