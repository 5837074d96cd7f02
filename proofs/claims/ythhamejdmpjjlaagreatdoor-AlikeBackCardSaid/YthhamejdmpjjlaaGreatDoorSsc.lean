/- Texts: what the program calls of the library: CutPrefix, TrimLeft, Repeat, FormatUint. By the kit's contracts. -/
import Derived.Test.YthhamejdmpjjlaaGreatDoorSzn
import Derived.Test.YthhamejdmpjjlaaGreatDoorSh
import Derived.Test.YthhamejdmpjjlaaGreatDoorSnp
import Derived.Lib.LaidTab
import Derived.Lib.ItoaMem
import Derived.Lib.ItoaNum
import Derived.Lib.Repeat
import GoSem.Op.String
import Derived.Lib.IndexMore
import Derived.Lib.Join
import Derived.Lib.Strings
namespace Go.Sv
open Go Go.RowKit
theorem Uq {P:Program} {G:Imm} {H:HL} {o:Oper} {g:List (Nat×SV)} {t n st:Nat} [ha:IsArr P t n st] {x:Operand} {high:Option Operand} {b hi:Nat} {z:Operand} {k:IntKind} (hop:o.op= .slice t x none high none) (hx:xd g x=some (eqS (.pointer (some ⟨b,0,none⟩)))) (hh:high=some z) (hz:xd g z=some (intS k hi)) (h2:hi≤n):OpOK P G H o g (eqS (.slice (some ⟨b,0,none⟩) hi n)):=by
 subst hh
 refine yC (by simp [hop]) fun I W a hm hh hr=>?_
 have hvx:a.eval x= .pointer (some ⟨b,0,none⟩):=hr.get (by simp [hop,Op.operands]) hx
 have hvz:a.eval z= .int k hi:=hr.get (by simp [hop,Op.operands]) hz
 obtain⟨e,hu,hi'⟩:=ha.h
 refine⟨_,?_,rfl⟩
 obtain⟨i,hi1,his⟩:=Option.map_eq_some_iff.1 hi'
 simp [execOp,hop,hvx,hvz,Instr.sliceAt,Instr.sureAddr,run_underlying hu,Instr.sliceBounds,Instr.sliceBound,asIntOf,h2,sizeOf,typeInfo,hi1,Addr.add_lit]
theorem KA {I:Imm} {s:SV} {vs:List Value} (h:dens I [s] vs):∃ x,vs=[x]∧s.den I x:=by
 obtain⟨x,r,rfl,hx,hr⟩:=xW h
 rw [dens_nil_inv hr];exact⟨x,rfl,hx⟩
theorem uT {I:Imm} {s t:SV} {vs:List Value} (h:dens I [s,t] vs):∃ x y,vs=[x,y]∧s.den I x∧t.den I y:=by
 obtain⟨x,r,rfl,hx,hr⟩:=xW h
 obtain⟨y,rfl,hy⟩:=KA hr
 exact⟨x,y,rfl,hx,hy⟩
end Go.Sv
namespace Go.Proofs
open Go Go.Sv Num
variable {G:Imm}
class Tab10 (G:Imm):Prop where
 h:G 0=some (Lib.pow10Tab.map fun z=>Value.int .u64 z).toArray
theorem zp5 [Tab10 G] {I:Imm} {W:World} (h:Sv.Holds G I W):Lib.TabIs Tryz.prog W "internal/strconv.uint64pow10" .u64 Lib.pow10Tab:=by
 have g1:Tryz.prog.globalNamed "internal/strconv.uint64pow10" =some 0:=by kernel_rfl
 obtain⟨e,f,hw⟩:=h.mem _ _ (h.glob _ _ Tab10.h)
 simp [Lib.TabIs,World.var?,g1,hw]
theorem KC {l m:List UInt8}:zp Tryz.prog G 433 [xb l,xb m] (xn [xb (Lib.trimPrefix l m),zm (Lib.hasPrefix l m)]):=
 vw (Go.Proofs.enters_of Tryz.func433 rfl rfl) fun I W vs h1 h2=>by
  obtain⟨x,y,rfl,hx,hy⟩:=uT h2
  rw [show x= .string ⟨l.toArray⟩ from hx,show y= .string ⟨m.toArray⟩ from hy]
  exact (Tryz.strings_CutPrefix ⟨l.toArray⟩ ⟨m.toArray⟩ W).mono fun e W' ⟨he,hw⟩=>⟨_,he,fun J _=>⟨_,rfl,zW rfl (zW rfl dens_nil)⟩,by rw [hw];exact Go.RowKit.Below.refl _ _⟩
theorem qX {l:List UInt8} {c:UInt8} (hc:c.toNat<128):zp Tryz.prog G 70 [xb l,xb [c]] (xb (l.dropWhile (· ==c))):=
 vw (Go.Proofs.enters_of Tryz.func70 rfl rfl) fun I W vs h1 h2=>by
  obtain⟨x,y,rfl,hx,hy⟩:=uT h2
  rw [show x= .string ⟨l.toArray⟩ from hx,show y= .string ⟨#[c]⟩ from hy]
  exact (Tryz.strings_TrimLeft_one ⟨l.toArray⟩ c hc W).mono fun e W' ⟨he,hw⟩=>⟨_,he,fun J _=>rfl,by rw [hw];exact Go.RowKit.Below.refl _ _⟩
theorem zdj {l:List UInt8} {c:Nat} (hc:c≤9223372036854775807) (hl:l.length*c≤140737488355328):zp Tryz.prog G 69 [xb l,intS .i64 c] (xb (Lib.repeatL l c)):=
 vw (Go.Proofs.enters_of Tryz.func69 rfl rfl) fun I W vs h1 h2=>by
  obtain⟨x,y,rfl,hx,hy⟩:=uT h2
  rw [show x= .string ⟨l.toArray⟩ from hx,show y= .int .i64 c from hy]
  exact (Tryz.strings_Repeat ⟨l.toArray⟩ c W hc (by rw [ZE];exact hl)).mono fun e W' ⟨he,hw⟩=>⟨_,he,fun J _=>rfl,hw⟩
theorem zdk {u:Nat} (h:u<100):zp Tryz.prog G 140 [intS .i64 u] (xb (Lib.decDigits u)):=
 vw (Go.Proofs.enters_of Tryz.func140 rfl rfl) fun I W vs h1 h2=>by
  obtain⟨x,rfl,hx⟩:=KA h2
  rw [show x= .int .i64 u from hx]
  exact (Tryz.internal_strconv_small u h W).mono fun e W' ⟨he,hw⟩=>⟨_,he,fun J _=>rfl,by rw [hw];exact Go.RowKit.Below.refl _ _⟩
theorem KD [Tab10 G] {u:Nat} (h1:1≤u) (h2:u<18446744073709551616):zp Tryz.prog G 141 [intS .u64 u] (intS .i64 (Lib.nDigits u)):=
 vw (Go.Proofs.enters_of Tryz.func141 rfl rfl) fun I W vs h3 h4=>by
  obtain⟨x,rfl,hx⟩:=KA h4
  rw [show x= .int .u64 u from hx]
  exact (Tryz.internal_strconv_numDigits u h1 h2 W (zp5 h3)).mono fun e W' ⟨he,hw⟩=>⟨_,he,fun J _=>rfl,by rw [hw];exact Go.RowKit.Below.refl _ _⟩
theorem ze8 {u:Nat} (h1:1≤u) (h2:u<18446744073709551616):Lib.nDigits u≤20:=by
 obtain⟨h3,h4⟩:=Lib.numDigits_eq u h1 h2
 split at h3 <;> omega
theorem zq9 {i:Nat} (h:i<24):((List.replicate 24 (Value.int .u8 0)).map eqS)[i]? =some (intS .u8 0):=by rw [List.map_replicate,List.getElem?_replicate,if_pos h]
theorem zmW {l:List UInt8} {rest:List SV} {i:Nat} (h:i<l.length):(l.flatMap u8S++rest)[0+i]? =some (intS .u8 ((l.getD i 0).toNat:Int)):=by
  induction l generalizing i with
  | nil=>simp at h
  | cons x l ih=>
    cases i with
    | zero=>rfl
    | succ i=>
      have:=ih (i:=i) (by simp at h;omega)
      rw [Nat.zero_add] at this ⊢
      simpa using this
theorem ze9 {u b e cp k:Nat} {cs:List SV} (hu:u<18446744073709551616) (hn:Lib.nDigits u≤cs.length) (hn2:Lib.nDigits u≤20) (hz:∀ i,i<Lib.nDigits u→cs[i]? =some (intS .u8 0)):
  CallSpec Tryz.prog G 142 [eqS (.slice (some ⟨b,0,none⟩) (Lib.nDigits u) cp),intS .u64 u] [⟨some b,e,cs,k⟩] (fun s H'=>s=xn []∧H'=[⟨some b,e,(Lib.decDigits u).flatMap u8S++cs.drop (Lib.nDigits u),k⟩]):=by
 refine⟨Go.Proofs.enters_of Tryz.func142 rfl rfl,fun I W vs h1 h2 h3=>?_⟩
 obtain⟨x,y,rfl,hx,hy⟩:=uT h3
 rw [show x= .slice (some ⟨b,0,none⟩) (Lib.nDigits u) cp from hx,show y= .int .u64 u from hy]
 obtain⟨g1,c,g2,g3,g4,g5⟩:=(h2.mem _ (List.mem_singleton.2 rfl)).some rfl
 simp only at g2 g3 g4 g5
 have hget:∀ (i:Nat) (s:SV),cs[i]? =some s→∃ x,c[i]? =some x∧s.den I x∧x.oneCell'=true:=fun i s hi=>by
  obtain⟨x,hx,hd⟩:=g5.get hi
  have hlt:=yt hi
  have:=g4 x (List.mem_of_getElem? hx)
  rw [List.getElem?_take_of_lt hlt] at hx
  exact⟨x,by simpa using hx,hd,this⟩
 have hH:Go.Sort.Holds (fun (b:UInt8)=>Value.int .u8 (b.toNat:Int)) W b 0 (Array.replicate (Lib.nDigits u) (0:UInt8)):=fun j hj=>by
  rw [Array.size_replicate] at hj
  obtain⟨x,hx,hd,_⟩:=hget j _ (hz j hj)
  refine⟨?_,by simp [World.frozen?,g2]⟩
  rw [wm g2,Nat.zero_add,hx,show x= .int .u8 0 from hd]
  have:(Array.replicate (Lib.nDigits u) (0:UInt8))[j]! =0:=by simp [hj]
  rw [this];rfl
 have hgo:=Tryz.internal_strconv_formatBase10 b 0 cp u (Array.replicate (Lib.nDigits u) (0:UInt8)) W hH (by rw [Array.size_replicate];exact Lib.lt_pow_nDigits u) hu (by rw [Array.size_replicate];omega)
 rw [Array.size_replicate] at hgo
 refine hgo.mono ?_
 rintro ed W' ⟨rfl,m,v',dk,rfl,hinv⟩
 have hdk:dk.size=Lib.nDigits u:=hinv.size
 have hb:((Go.Sort.putRow (fun (b:UInt8)=>Value.int .u8 (b.toNat:Int)) W b 0 dk).drewN m).heap[b]? =some (.cells (Go.Sort.putCells (fun (b:UInt8)=>Value.int .u8 (b.toNat:Int)) 0 dk c) e (0,0)):=by
  show (W.heap.modify b _)[b]? =_
  rw [Array.getElem?_modify]
  simp [g2,Go.Sort.onCells]
 have hsz:(Go.Sort.putCells (fun (b:UInt8)=>Value.int .u8 (b.toNat:Int)) 0 dk c).size=c.size:=by simp [Go.Sort.putCells]
 obtain⟨hm',hf'⟩:=uO (W':=(Go.Sort.putRow (fun (b:UInt8)=>Value.int .u8 (b.toNat:Int)) W b 0 dk).drewN m) h1 g1 rfl rfl rfl (by show (W.heap.modify b _).size=_;simp) (fun k hk=>by
  show (W.heap.modify b _)[k]? =_
  rw [Array.getElem?_modify,if_neg (fun e=>hk e.symm)])
 have hl1:((Lib.decDigits u).flatMap u8S).length=Lib.nDigits u:=by
  rw [←Lib.decDigits_length]
  generalize Lib.decDigits u=l
  induction l with
  | nil=>rfl
  | cons x l ih=>rw [List.flatMap_cons,List.length_append,ih];show 1+l.length=l.length+1;omega
 have hfm:∀ i,i<Lib.nDigits u→((Lib.decDigits u).flatMap u8S)[i]? =some (intS .u8 (dk[i]!.toNat:Int)):=fun i hi=>by
  have hi':i<(Lib.decDigits u).length:=by rw [Lib.decDigits_length];exact hi
  rw [←Lib.row_is_numeral hinv i hi',List.flatMap_def]
  have:=uB (st:=1) (css:=(Lib.decDigits u).map u8S) (by simp) (i:=i) (j:=0) (c:=u8S (Lib.decDigits u)[i]) (x:=intS .u8 ((Lib.decDigits u)[i].toNat:Int)) (by simp [hi']) rfl
  simpa using this
 refine⟨_,I,_,_,rfl,⟨rfl,rfl⟩,⟨[],rfl,dens_nil⟩,hm',⟨by simp [bs],fun p hp=>?_⟩,hf'.weaken (fun k hk=>by simp [bs];exact hk) fun k hk=>.inl (by simpa [bs] using hk)⟩
 rw [List.mem_singleton.1 hp]
 have hlen:((Lib.decDigits u).flatMap u8S++cs.drop (Lib.nDigits u)).length=cs.length:=by rw [List.length_append,hl1,List.length_drop];omega
 have hat:∀ i x,((Go.Sort.putCells (fun (b:UInt8)=>Value.int .u8 (b.toNat:Int)) 0 dk c).toList.take cs.length)[i]? =some x→(i<Lib.nDigits u∧x= .int .u8 (dk[i]!.toNat:Int))∨(¬i<Lib.nDigits u∧i<cs.length∧c[i]? =some x):=fun i x hx=>by
  have hi:i<cs.length:=by have:=yt hx;simp at this;omega
  have hic:i<c.size:=by omega
  rw [List.getElem?_take_of_lt hi] at hx
  simp only [Go.Sort.putCells,Array.getElem?_toList,Array.getElem?_mapIdx,Array.getElem?_eq_getElem hic,Option.map_some,Option.some.injEq] at hx
  rcases Nat.lt_or_ge i (Lib.nDigits u) with h7 | h7
  ·rw [if_pos ⟨by omega,by omega⟩] at hx
   exact .inl ⟨h7,hx.symm⟩
  ·rw [if_neg (by omega)] at hx
   exact .inr ⟨by omega,hi,by rw [Array.getElem?_eq_getElem hic,hx]⟩
 refine .of_some rfl ⟨g1,_,hb,?_,?_,?_⟩
 ·simp only;rw [hsz,hlen];exact g3
 ·simp only;rw [hlen]
  intro x hx
  obtain⟨i,hi⟩:=List.getElem?_of_mem hx
  rcases hat i x hi with ⟨_,rfl⟩ | ⟨_,h8,h9⟩
  ·rfl
  ·exact g4 x (List.mem_of_getElem? (i:=i) (by rw [List.getElem?_take_of_lt h8];simpa using h9))
 ·simp only;rw [hlen]
  refine⟨by rw [hlen,List.length_take];simp only [Array.length_toList];rw [hsz];omega,fun i s x hs hx=>?_⟩
  rcases hat i x hx with ⟨h7,rfl⟩ | ⟨h7,h8,h9⟩
  ·rw [List.getElem?_append_left (by rw [hl1];exact h7),hfm i h7] at hs
   cases hs;rfl
  ·rw [List.getElem?_append_right (by rw [hl1];omega),hl1,List.getElem?_drop,show Lib.nDigits u+(i-Lib.nDigits u)=i by omega] at hs
   obtain⟨x',hx',hd,_⟩:=hget i s hs
   rw [h9] at hx';cases hx';exact hd
theorem zin [Tab10 G] {u:Nat} (hu:u<18446744073709551616):zp Tryz.prog G 94 [intS .u64 u,intS .i64 10] (xb (Lib.decDigits u)):=by
 refine zs Tryz.func94 ?_;refine zr ?_;refine zz ?_;refine zJ ?_;refine zh ?_;refine zg ?_;refine xt rfl rfl ?_;refine zh ?_;refine zg ?_;refine zd (fun _ k12=>?_) fun _ k12=>?_
 ·refine zg ?_;refine zo (yQ rfl rfl (wrap_i64 (by omega) (by omega))) ?_;refine zo (ze rfl rfl (zdk (by omega))) ?_;refine zg ?_
  exact zj zt
 ·have hn:=ze8 (u:=u) (by omega) hu
  refine zg ?_;refine xg fun b5=>?_;refine zg ?_;refine zo (ze rfl rfl (KD (by omega) hu)) ?_;refine zg ?_;refine zo (Uq rfl rfl rfl rfl (by omega)) ?_;refine zz ?_;refine Run.call1 0 rfl rfl rfl rfl (ze9 hu (show _≤24 by omega) hn (fun i hi=>zq9 (by omega))) rfl rfl rfl ?_
  rintro s1 H1 ⟨rfl,rfl⟩
  refine zg ?_;refine zo (Uq rfl rfl rfl rfl (by omega)) ?_;refine zo (ze6 0 rfl rfl rfl (Lib.decDigits_length u) (fun i hi=>zmW (by rw [Lib.decDigits_length];exact hi))) ?_;refine zg ?_
  exact zj zt
theorem zio [Tab10 G] {u:Nat} (hu:u<18446744073709551616):zp Tryz.prog G 68 [intS .u64 u,intS .i64 10] (xb (Lib.decDigits u)):=by
 refine zs Tryz.func68 ?_;refine zg ?_;refine zf (zin hu) ?_;refine zg ?_
 exact zj zt
end Go.Proofs
namespace Num
open Go Go.Lib
def Qk (n:Nat):List Nat:=if h:n=0 then [] else n%1000000000::Qk (n/1000000000)
termination_by n
decreasing_by omega
theorem Zm:Qk 0=[]:=by unfold Qk;rfl
theorem Xv {n:Nat} (h:n≠0):Qk n=n%1000000000::Qk (n/1000000000):=by rw [Qk];simp [h]
def pd (k n:Nat):List UInt8:=(List.range k).map fun t=>dg n (k-1-t)
theorem zay (k n:Nat):(pd k n).length=k:=by simp [pd]
theorem zoR (n i j:Nat):dg n (i+j)=dg (n/10^i) j:=by
 unfold dg
 rw [Nat.pow_add,Nat.div_div_eq_div_mul]
theorem zoS {n i j:Nat} (h:j<i):dg (n%10^i) j=dg n j:=by
 unfold dg
 congr 2
 obtain⟨d,rfl⟩:∃ d,i=j+(d+1):=⟨i-j-1,by omega⟩
 rw [Nat.pow_add,Nat.mod_mul_right_div_self,Nat.pow_succ,Nat.mul_comm (10^d),Nat.mod_mul_right_mod]
theorem zdl (k i n:Nat):pd (k+i) n=pd k (n/10^i)++pd i n:=by
 unfold pd
 rw [List.range_add,List.map_append,List.map_map]
 congr 1
 ·refine List.map_congr_left fun t ht=>?_
  have:=List.mem_range.1 ht
  rw [←zoR]
  congr 1;omega
 ·refine List.map_congr_left fun t ht=>?_
  have:=List.mem_range.1 ht
  show dg n (k+i-1-(k+t))=_
  congr 1;omega
theorem zoT (i n:Nat):pd i (n%10^i)=pd i n:=by
 unfold pd
 refine List.map_congr_left fun t ht=>?_
 have:=List.mem_range.1 ht
 exact zoS (by omega)
theorem zmX (i:Nat):pd i 0=List.replicate i 48:=by
 unfold pd
 rw [List.eq_replicate_iff]
 refine⟨by simp,fun b hb=>?_⟩
 obtain⟨t,_,rfl⟩:=List.mem_map.1 hb
 simp [dg]
theorem zkF {k n:Nat} (h:nDigits n≤k):pd k n=List.replicate (k-nDigits n) 48++decDigits n:=by
 obtain⟨c,rfl⟩:∃ c,k=c+nDigits n:=⟨k-nDigits n,by omega⟩
 rw [zdl,decDigits_eq,Nat.div_eq_of_lt (lt_pow_nDigits n),zmX,Nat.add_sub_cancel]
 rfl
theorem wM:∀ {k n:Nat},n<10^(k+1)→nDigits n≤k+1
  | 0,n,h=>by rw [nDigits_small (by simpa using h)];exact Nat.le_refl _
  | k+1,n,h=>by
    by_cases h10:n<10
    · rw [nDigits_small h10];omega
    · rw [nDigits_big h10]
      have:=wM (k:=k) (n:=n/10) (by rw [Nat.pow_succ] at h;omega)
      omega
theorem Ur {n:Nat} (h:n≠0):10^(nDigits n-1)≤n:=by
  induction n using Nat.strongRecOn with
  | _ n ih=>
    by_cases h10:n<10
    · rw [nDigits_small h10];simp;omega
    · rw [nDigits_big h10]
      have h1:=ih (n/10) (by omega) (by omega)
      have h2:=nDigits_pos (n/10)
      rw [show nDigits (n/10)+1-1=(nDigits (n/10)-1)+1 by omega,Nat.pow_succ]
      omega
theorem QY:∀ c,repeatL [48] c=List.replicate c (48:UInt8)
  | 0=>rfl
  | c+1=>by
    show [48]++repeatL [48] c=_
    rw [QY c,List.replicate_succ];rfl
theorem zra {m:Nat} (h:m<1000000000):repeatL [48] (9-nDigits m)++decDigits m=pd 9 m:=by
 rw [QY,zkF (wM (k:=8) h)]
def txt (l:List Nat):List UInt8:=l.foldl (fun s m=>pd 9 m++s) []
theorem ziq (l:List Nat) (s:List UInt8):l.foldl (fun s m=>pd 9 m++s) s=txt l++s:=by
 unfold txt
 induction l generalizing s with
 | nil=>rfl
 | cons m l ih=>rw [List.foldl_cons,List.foldl_cons,ih,ih (pd 9 m++[])];simp
theorem zdm (m:Nat) (l:List Nat):txt (m::l)=txt l++pd 9 m:=by
 show l.foldl _ (pd 9 m++[])=_
 rw [ziq,List.append_nil]
theorem zkH {l:List Nat} {k m:Nat} (h:l[k]? =some m):txt (l.take (k+1))=pd 9 m++txt (l.take k):=by
 unfold txt
 rw [List.take_add_one,h,List.foldl_append];rfl
theorem KE (l:List Nat):(txt l).length=9*l.length:=by
 induction l with
 | nil=>rfl
 | cons m l ih=>rw [zdm,List.length_append,ih,zay,List.length_cons];omega
theorem zmY (n:Nat):txt (Qk n)=pd (9*(Qk n).length) n:=by
  induction n using Nat.strongRecOn with
  | _ n ih=>
    by_cases h:n=0
    · subst h;rw [Zm];rfl
    · rw [Xv h,zdm,ih (n/1000000000) (by omega),List.length_cons,Nat.mul_succ,zdl]
      rw [show (1000000000:Nat)=10^9 from rfl,zoT]
theorem zkI (n:Nat):n<10^(9*(Qk n).length):=by
  induction n using Nat.strongRecOn with
  | _ n ih=>
    by_cases h:n=0
    · subst h;rw [Zm];decide
    · rw [Xv h,List.length_cons,Nat.mul_succ,Nat.pow_add]
      have:=ih (n/1000000000) (by omega)
      rw [show (10^9:Nat)=1000000000 from rfl]
      omega
theorem zkJ {n:Nat} (h:n≠0):∃ c r,decDigits n=c::r∧c≠48:=by
  induction n using Nat.strongRecOn with
  | _ n ih=>
    rw [decDigits]
    by_cases h10:n<10
    · rw [dif_pos h10]
      refine⟨_,_,rfl,fun e=>?_⟩
      have:(UInt8.ofNat (48+n)).toNat=48:=by rw [e];rfl
      rw [UInt8.toNat_ofNat'] at this;omega
    · rw [dif_neg h10]
      obtain⟨c,r,h1,h2⟩:=ih (n/10) (by omega) (by omega)
      exact⟨c,r++_,by rw [h1];rfl,h2⟩
theorem zkK:decDigits 0=[48]:=by rw [decDigits,dif_pos (by decide)];rfl
theorem zfa (c:Nat) (l:List UInt8):(List.replicate c 48++l).dropWhile (· ==48)=l.dropWhile (· ==48):=by
 induction c with
 | zero=>rfl
 | succ c ih=>rw [List.replicate_succ,List.cons_append,List.dropWhile_cons];simp [ih]
theorem zkL {n:Nat} (h:n≠0):(decDigits n).dropWhile (· ==48)=decDigits n:=by
 obtain⟨c,r,h1,h2⟩:=zkJ h
 rw [h1,List.dropWhile_cons];simp [h2]
theorem zir (n:Nat):(txt (Qk n)).dropWhile (· ==48)=if n=0 then [] else decDigits n:=by
 by_cases h:n=0
 ·subst h;rw [Zm,if_pos rfl];rfl
 ·rw [if_neg h,zmY,zkF,zfa,zkL h]
  have h1:=zkI n
  have h2:(Qk n).length≠0:=by rw [Xv h,List.length_cons];omega
  obtain⟨k,hk⟩:∃ k,9*(Qk n).length=k+1:=⟨9*(Qk n).length-1,by omega⟩
  rw [hk] at h1 ⊢
  exact wM h1
theorem zbz:∀ {L n:Nat},n<4294967296^L→(Qk n).length≤2*L
  | 0,n,h=>by
    have:n=0:=by simpa using h
    rw [this,Zm];exact Nat.le_refl _
  | L+1,n,h=>by
    by_cases h0:n=0
    · rw [h0,Zm];exact Nat.zero_le _
    · rw [Xv h0,List.length_cons]
      by_cases h1:n/1000000000=0
      · rw [h1,Zm,List.length_nil];omega
      · rw [Xv h1,List.length_cons]
        have h2:n/1000000000/1000000000<4294967296^L:=by
          rw [Nat.pow_succ] at h
          generalize 4294967296^L=q at h
          omega
        have:=zbz h2
        omega
/-! reading -/
def isD (c:UInt8):Bool:=decide (48≤c.toNat)&&decide (c.toNat≤57)
def Ye (l:List UInt8):Nat:=l.foldl (fun a c=>a*10+(c.toNat-48)) 0
theorem zaA (l:List UInt8) (c:UInt8):Ye (l++[c])=Ye l*10+(c.toNat-48):=by unfold Ye;rw [List.foldl_append];rfl
theorem zaB {l:List UInt8} {k:Nat} (h:k<l.length):Ye (l.take (k+1))=Ye (l.take k)*10+(l[k].toNat-48):=by
 rw [List.take_add_one,List.getElem?_eq_getElem h]
 exact zaA _ _
theorem zbA {l:List UInt8} (h:l.all isD=true):Ye l<10^l.length:=by
  have key:∀ k,k≤l.length→Ye (l.take k)<10^k:=fun k=>by
    induction k with
    | zero=>intro _;rw [List.take_zero];decide
    | succ k ih=>
      intro hk
      rw [zaB (by omega),Nat.pow_succ]
      have h1:=ih (by omega)
      have h2:=List.all_eq_true.1 h l[k] (List.getElem_mem _)
      simp only [isD,Bool.and_eq_true,decide_eq_true_eq] at h2
      omega
  have:=key l.length (Nat.le_refl _)
  rwa [List.take_length] at this
theorem WW {u:Nat} (h:u<10):(UInt8.ofNat (48+u)).toNat=48+u:=by rw [UInt8.toNat_ofNat'];omega
theorem Jy (n:Nat):(decDigits n).all isD=true:=by
  induction n using Nat.strongRecOn with
  | _ n ih=>
    rw [decDigits]
    by_cases h:n<10
    · rw [dif_pos h]
      simp only [List.all_cons,List.all_nil,Bool.and_true,isD,WW h,Bool.and_eq_true,decide_eq_true_eq]
      omega
    · rw [dif_neg h,List.all_append,ih (n/10) (by omega)]
      have h1:n%10<10:=Nat.mod_lt _ (by decide)
      simp only [List.all_cons,List.all_nil,Bool.and_true,isD,WW h1,Bool.true_and,Bool.and_eq_true,decide_eq_true_eq]
      omega
theorem zdn (n:Nat):Ye (decDigits n)=n:=by
  induction n using Nat.strongRecOn with
  | _ n ih=>
    rw [decDigits]
    by_cases h:n<10
    · rw [dif_pos h]
      show 0*10+((UInt8.ofNat (48+n)).toNat-48)=n
      rw [WW h];omega
    · rw [dif_neg h,zaA,ih (n/10) (by omega),WW (Nat.mod_lt _ (by decide))]
      omega
def UT (l:List UInt8):Bool:= !l.isEmpty&&(decide (l.length≤60)&&l.all isD)
def pvD (l:List UInt8):Nat:=if UT l then Ye l else 0
def peD (l:List UInt8):Int:=if UT l then 0 else 60
theorem Us {l:List UInt8} (h:l.all isD=true) (hne:l≠[]):nDigits (Ye l)≤l.length:=by
 obtain⟨k,hk⟩:∃ k,l.length=k+1:=⟨l.length-1,by have:=List.length_pos_iff.2 hne;omega⟩
 have:=zbA h
 rw [hk] at this ⊢
 exact wM this
theorem zfb {m n:Nat} (h:nDigits m<nDigits n):m<n:=by
 have h1:=lt_pow_nDigits m
 have hn:n≠0:=fun e=>by rw [e,nDigits_small (show 0<10 by decide)] at h;have:=nDigits_pos m;omega
 have h2:=Ur hn
 have:10^nDigits m≤10^(nDigits n-1):=Nat.pow_le_pow_right (by decide) (by omega)
 omega
end Num
namespace Num
open Go Go.Lib
def zn (b:Bool) (n:Nat):Int:=if b then -(n:Int) else n
def Wp (a b:List UInt8) (m:Bool):Rat×Int×Int:=
 let t:=trimPrefix a [45]
 if UT t=false then (0,0,60)
 else if m=false then (mkRat (zn (hasPrefix a [45]) (Ye t)) 1,(t.length:Nat),0)
 else if UT b=false then (0,0,60)
 else if Ye b=0 then (0,((max t.length b.length:Nat):Int),30)
 else (mkRat (zn (hasPrefix a [45]) (Ye t)) (Ye b),((max t.length b.length:Nat):Int),0)
def zis (z:Int):List UInt8:=if z<0 then 45::decDigits z.natAbs else decDigits z.natAbs
def zit (q:Rat):List UInt8:=zis q.num++(if q.den=1 then [] else 47::decDigits q.den)
theorem zkM {c d:UInt8} (h:isD c=true) (hd:isD d=false):c≠d:=fun e=>by rw [e,hd] at h;cases h
theorem zkN {l:List UInt8} {d:UInt8} (h:l.all isD=true) (hd:isD d=false):∀ x∈l,x≠d:=fun _ hx=>zkM (List.all_eq_true.1 h _ hx) hd
theorem zaC (z:Int):∀ x∈zis z,x≠47:=fun x hx=>by
 unfold zis at hx
 split at hx
 ·rcases List.mem_cons.1 hx with rfl | hx
  ·decide
  ·exact zkN (Jy _) (by decide) x hx
 ·exact zkN (Jy _) (by decide) x hx
theorem zfc (n:Nat):hasPrefix (decDigits n) [45]=false∧trimPrefix (decDigits n) [45]=decDigits n:=by
  have h1:=Jy n
  have:hasPrefix (decDigits n) [45]=false:=by
    cases h2:decDigits n with
    | nil=>decide
    | cons c r=>
      rw [h2] at h1
      simp only [List.all_cons,Bool.and_eq_true] at h1
      have h3:¬ (45:UInt8)=c:=fun e=>zkM h1.1 (by decide) e.symm
      simp [hasPrefix,List.isPrefixOf,h3]
  exact⟨this,by unfold trimPrefix;rw [this];rfl⟩
theorem zkO (z:Int):hasPrefix (zis z) [45]=decide (z<0)∧trimPrefix (zis z) [45]=decDigits z.natAbs:=by
 unfold zis
 by_cases h:z<0
 ·rw [if_pos h,decide_eq_true h]
  have:hasPrefix (45::decDigits z.natAbs) [45]=true:=by simp [hasPrefix,List.isPrefixOf]
  exact⟨this,by unfold trimPrefix;rw [this];rfl⟩
 ·rw [if_neg h,decide_eq_false h]
  exact zfc _
theorem zbB {n:Nat} (h:nDigits n≤60):UT (decDigits n)=true:=by
 unfold UT
 rw [Jy,decDigits_length]
 have:(decDigits n).isEmpty=false:=by
  cases h2:decDigits n with
  | nil=>have:=decDigits_length n;rw [h2] at this;have:=nDigits_pos n;simp at *;omega
  | cons c r=>rfl
 rw [this];simpa using h
theorem zaD (z:Int):zn (decide (z<0)) z.natAbs=z:=by
 unfold zn
 by_cases h:z<0
 ·rw [decide_eq_true h,if_pos rfl];omega
 ·rw [decide_eq_false h,if_neg (by decide)];omega
end Num
namespace Num
open Go Go.Lib
def uw (c:UInt8):List UInt8→List (List UInt8)
  | []=>[[]]
  | x::r=>if x=c then []::uw c r else match uw c r with
    | []=>[[x]]
    | p::q=>(x::p)::q
theorem zfd (c:UInt8) (l:List UInt8):uw c l≠[]:=by
  cases l with
  | nil=>simp [uw]
  | cons x r=>
    unfold uw
    split
    · simp
    · split <;> simp
theorem zm0 {c:UInt8} {p:List UInt8} (r:List UInt8) (h:∀ x∈p,x≠c):uw c (p++c::r)=p::uw c r:=by
  induction p with
  | nil=>simp [uw]
  | cons x p ih=>
    have h1:=ih fun y hy=>h y (List.mem_cons_of_mem _ hy)
    rw [List.cons_append,uw,if_neg (h x (List.mem_cons_self ..)),h1]
theorem zkP {c:UInt8} {p:List UInt8} (h:∀ x∈p,x≠c):uw c p=[p]:=by
 induction p with
 | nil=>rfl
 | cons x p ih=>rw [uw,if_neg (h x (List.mem_cons_self ..)),ih fun y hy=>h y (List.mem_cons_of_mem _ hy)]
theorem ziu (c:UInt8) (l:List UInt8):(∀x∈l,x≠c)∨∃ p r,l=p++c::r∧∀ x∈p,x≠c:=by
  induction l with
  | nil=>exact .inl fun _ h=>by cases h
  | cons x l ih=>
    by_cases h:x=c
    · exact .inr ⟨[],l,by rw [h];rfl,fun _ h=>by cases h⟩
    · rcases ih with ih | ⟨p,r,rfl,hp⟩
      · exact .inl fun y hy=>by rcases List.mem_cons.1 hy with rfl | hy;exact h;exact ih y hy
      · exact .inr ⟨x::p,r,rfl,fun y hy=>by rcases List.mem_cons.1 hy with rfl | hy;exact h;exact hp y hy⟩
theorem zbC {c:UInt8} {l:List UInt8} {i:Nat}:occAt l [c] i=true↔l[i]? =some c:=by
 unfold occAt
 rw [←List.head?_drop]
 cases h:l.drop i with
 | nil=>simp [List.isPrefixOf]
 | cons x r=>simp [List.isPrefixOf];exact eq_comm
theorem zgJ {c:UInt8} {p:List UInt8} (r:List UInt8) (h:∀ x∈p,x≠c):cut (p++c::r) [c]=(p,r,true):=by
 have hi:index (p++c::r) [c]=(p.length:Nat):=index_first (by simp) (zbC.2 (by simp)) fun j hj=>by
  rw [Bool.eq_false_iff]
  intro e
  have:=zbC.1 e
  rw [List.getElem?_append_left hj] at this
  exact h c (List.mem_of_getElem? this) rfl
 unfold cut
 rw [hi,if_pos (by omega)]
 simp
theorem zdo {c:UInt8} {p:List UInt8} (h:∀ x∈p,x≠c):cut p [c]=(p,[],false):=by
 have hi:index p [c]= -1:=by
  rcases index_spec p [c] with h1 | ⟨i,_,_,h2,_⟩
  ·exact h1.1
  ·exact absurd rfl (h c (List.mem_of_getElem? (zbC.1 h2)))
 unfold cut
 rw [hi,if_neg (by omega)]
end Num
namespace Num
open Go Go.Lib
theorem ziv {q:Rat} (h1:nDigits q.num.natAbs≤60) (h2:nDigits q.den≤60):
  Wp (cut (zit q) [47]).1 (cut (zit q) [47]).2.1 (cut (zit q) [47]).2.2=(q,((if q.den=1 then nDigits q.num.natAbs else max (nDigits q.num.natAbs) (nDigits q.den):Nat):Int),0):=by
 obtain⟨p1,p2⟩:=zkO q.num
 unfold zit
 by_cases hd:q.den=1
 ·rw [if_pos hd,List.append_nil,zdo (zaC _),if_pos hd]
  unfold Wp
  simp only [p1,p2,zbB h1,zdn,zaD,decDigits_length]
  rw [if_neg (by decide),if_pos trivial]
  have:mkRat q.num 1=q:=by rw [←hd,Rat.mkRat_self]
  rw [this]
 ·rw [if_neg hd,zgJ _ (zaC _),if_neg hd]
  unfold Wp
  simp only [p1,p2,zbB h1,zbB h2,zdn,zaD,decDigits_length]
  rw [if_neg (by decide),if_neg (by decide),if_neg (by decide),if_neg q.den_nz,Rat.mkRat_self]
theorem ZF {m n:Nat} (h:m≤n):nDigits m≤nDigits n:=Nat.le_of_not_lt fun g=>by have:=zfb g;omega
theorem mkRat_le {z:Int} {d:Nat} (hd:d≠0):(mkRat z d).num.natAbs≤z.natAbs∧(mkRat z d).den≤d:=by
 unfold mkRat
 rw [dif_neg hd,Rat.normalize_eq]
 refine⟨?_,Nat.div_le_self _ _⟩
 show (z/((z.natAbs.gcd d:Nat):Int)).natAbs≤z.natAbs
 have hdv:((z.natAbs.gcd d:Nat):Int)∣z:=Int.natAbs_dvd_natAbs.1 (by rw [Int.natAbs_natCast];exact Nat.gcd_dvd_left _ _)
 rw [Int.natAbs_ediv_of_dvd hdv]
 exact Nat.div_le_self _ _
theorem zkQ (b:Bool) (n:Nat):(zn b n).natAbs=n:=by unfold zn;split <;> omega
theorem zm1 {a b:List UInt8} {m:Bool} {q:Rat} {k:Int} (h:Wp a b m=(q,k,0)):
  nDigits q.num.natAbs≤60∧nDigits q.den≤60∧((if q.den=1 then nDigits q.num.natAbs else max (nDigits q.num.natAbs) (nDigits q.den):Nat):Int)≤k∧k≤60:=by
 unfold Wp at h
 simp only at h
 split at h
 ·simp at h
 rename_i h1
 have h1:UT (trimPrefix a [45])=true:=by simpa using h1
 generalize trimPrefix a [45]=t at h h1
 simp only [UT,Bool.and_eq_true,Bool.not_eq_true',decide_eq_true_eq] at h1
 have ht:=Us h1.2.2 (by simpa using h1.1)
 have hone:nDigits 1=1:=nDigits_small (by decide)
 have hp:=nDigits_pos (Ye t)
 split at h
 ·simp only [Prod.mk.injEq] at h
  obtain⟨rfl,rfl,_⟩:=h
  obtain⟨g1,g2⟩:=mkRat_le (z:=zn (hasPrefix a [45]) (Ye t)) (d:=1) (by decide)
  rw [zkQ] at g1
  have g3:=ZF g1
  have g4:=ZF g2
  have:(mkRat (zn (hasPrefix a [45]) (Ye t)) 1).den=1:=by have:=(mkRat (zn (hasPrefix a [45]) (Ye t)) 1).den_pos;omega
  rw [if_pos this]
  omega
 split at h
 ·simp at h
 rename_i h2
 have h2:UT b=true:=by simpa using h2
 simp only [UT,Bool.and_eq_true,Bool.not_eq_true',decide_eq_true_eq] at h2
 have hb:=Us h2.2.2 (by simpa using h2.1)
 split at h
 ·simp at h
 rename_i h3
 simp only [Prod.mk.injEq] at h
 obtain⟨rfl,rfl,_⟩:=h
 obtain⟨g1,g2⟩:=mkRat_le (z:=zn (hasPrefix a [45]) (Ye t)) h3
 rw [zkQ] at g1
 have g3:=ZF g1
 have g4:=ZF g2
 split <;> omega
end Num
namespace Go.Sv
open Go Go.RowKit
theorem uC {I:Imm} {s t u:SV} {vs:List Value} (h:dens I [s,t,u] vs):∃ x y z,vs=[x,y,z]∧s.den I x∧t.den I y∧u.den I z:=by
 obtain⟨x,r,rfl,hx,hr⟩:=xW h
 obtain⟨y,z,rfl,hy,hz⟩:=uT hr
 exact⟨x,y,z,rfl,hx,hy,hz⟩
theorem sl_map {α:Type} {f:α→List SV} {st:Nat} {l:List α} {I:Imm} {v:Value} (h:(zU st id (l.map f)).den I v):(zU st f l).den I v:=by
 obtain⟨a,cap,hv,h1,h2,h3⟩:=h
 refine⟨a,cap,by rw [hv,List.length_map],by rwa [List.length_map] at h1,by rwa [List.length_map] at h2,?_⟩
 rcases h3 with h3 | ⟨b,o,ha,h4⟩
 ·exact .inl (List.map_eq_nil_iff.1 h3)
 ·exact .inr ⟨b,o,ha,fun i x hx=>h4 i (f x) (by rw [List.getElem?_map,hx];rfl)⟩
abbrev tC (s:List UInt8):List SV:=[xb s]
theorem zgK:∀ l:List (List UInt8),(l.flatMap tC).length=l.length
 | []=>rfl
 | x::l=>by rw [List.flatMap_cons,List.length_append,zgK l];show 1+l.length=l.length+1;omega
theorem zm2 {I G:Imm} {W:World} {b i:Nat} {c:Array Value} (h:Holds G I W) (hb:I b=some c):W.cell? ⟨b,i,none⟩=c[i]? :=by
 obtain⟨e,f,hw⟩:=h.mem _ _ hb
 simp [World.cell?,hw]
end Go.Sv
namespace Go.Proofs
open Go Go.Sv Num
variable {G:Imm}
class MaxLen (G:Imm):Prop where
 h:∃ (c:Array Value) (m:Int),G 1=some c∧c[0]? =some (.int .i64 m)
theorem zdp [MaxLen G] {l m:List UInt8} (hl:l.length<4294967281):zp Tryz.prog G 308 [xb l,xb m] (xn [xb (Lib.cut l m).1,xb (Lib.cut l m).2.1,zm (Lib.cut l m).2.2]):=
 vw (Go.Proofs.enters_of Tryz.func308 rfl rfl) fun I W vs h1 h2=>by
  obtain⟨x,y,rfl,hx,hy⟩:=uT h2
  rw [show x= .string ⟨l.toArray⟩ from hx,show y= .string ⟨m.toArray⟩ from hy]
  obtain⟨c0,m0,hc0,hm0⟩:=MaxLen.h (G:=G)
  exact (Tryz.strings_Cut ⟨l.toArray⟩ ⟨m.toArray⟩ m0 W (by rw [ZE];exact hl) ((zm2 h1 (h1.glob _ _ hc0)).trans hm0)).mono fun e W' ⟨he,n,hw⟩=>⟨_,he,fun J _=>⟨_,rfl,zW rfl (zW rfl (zW rfl dens_nil))⟩,by rw [hw];exact⟨rfl,rfl,rfl,Nat.le_refl _,fun _ _=>rfl⟩⟩
theorem KF {l m:List UInt8} (hl:l.length≤9223372036854775807):zp Tryz.prog G 250 [xb l,xb m] (xn [xb (Lib.trimSuffix l m),zm (Lib.hasSuffix l m)]):=
 vw (Go.Proofs.enters_of Tryz.func250 rfl rfl) fun I W vs h1 h2=>by
  obtain⟨x,y,rfl,hx,hy⟩:=uT h2
  rw [show x= .string ⟨l.toArray⟩ from hx,show y= .string ⟨m.toArray⟩ from hy]
  exact (Tryz.strings_CutSuffix ⟨l.toArray⟩ ⟨m.toArray⟩ W (by rw [ZE];exact hl)).mono fun e W' ⟨he,hw⟩=>⟨_,he,fun J _=>⟨_,rfl,zW rfl (zW rfl dens_nil)⟩,by rw [hw];exact Go.RowKit.Below.refl _ _⟩
theorem Jm {l m:List UInt8}:zp Tryz.prog G 371 [xb l,xb m] (xb (Lib.trimPrefix l m)):=
 vw (Go.Proofs.enters_of Tryz.func371 rfl rfl) fun I W vs h1 h2=>by
  obtain⟨x,y,rfl,hx,hy⟩:=uT h2
  rw [show x= .string ⟨l.toArray⟩ from hx,show y= .string ⟨m.toArray⟩ from hy]
  exact (Tryz.strings_TrimPrefix ⟨l.toArray⟩ ⟨m.toArray⟩ W).mono fun e W' ⟨he,hw⟩=>⟨_,he,fun J _=>rfl,by rw [hw];exact Go.RowKit.Below.refl _ _⟩
end Go.Proofs
