/- Integers: sint. -/
import Derived.Test.YthhamejdmpjjlaaGreatDoorSnp
namespace Go.Proofs
open Go Go.Sv Num
variable {G:Imm}
theorem zdq {P:Program} {G:Imm} {f:FuncId} {args:List SV} {e:Nat} {cs:List SV} (h:CallSpec P G f args [] (fun s H'=>∃ b,s=eqS (.pointer (some ⟨b,0,none⟩))∧H'=[⟨some b,e,cs,0⟩])):zp P G f args (zT cs):=by
 refine⟨h.enters,fun I W vs h1 h2 h3=>(h.main I W vs h1 h2 h3).mono fun ed W' ⟨v,I',s,H',he,⟨b,hs,hH⟩,hv,hm,hh,hf⟩=>?_⟩
 subst hs;subst hH
 have hb:=(hh.mem ⟨some b,e,cs,0⟩ (by simp)).some rfl
 obtain⟨g1,c,g2,g3,g4,g5⟩:=hb
 simp only [Nat.add_zero] at g2 g3 g4 g5
 have hct:c.toList.take cs.length=c.toList:=List.take_of_length_le (by simp [g3])
 rw [hct] at g4 g5
 have hle:=Imm.with_le (c:=c) g1
 refine⟨v,I'.with b c,_,[],he,⟨rfl,rfl⟩,⟨b,0,hv,c,by simp [Imm.with],fun i s hi=>?_⟩,⟨Imm.le_trans hm.glob hle,fun k d hk=>?_⟩,⟨by simp [bs],fun p hp=>by simp at hp⟩,?_⟩
 ·obtain⟨x,hx,hd⟩:=g5.get hi
  refine⟨x,by rw [Nat.zero_add];simpa using hx,s.mono _ _ _ hle hd,g4 x (List.mem_of_getElem? hx)⟩
 ·unfold Imm.with at hk
  split at hk
  ·rename_i e';subst e';cases hk;exact⟨e,(0,0),g2⟩
  ·exact hm.mem _ _ hk
 ·refine⟨hf.os,hf.tape,hf.output,Imm.le_trans hf.imm hle,hf.size,fun k hk hn=>hf.old k hk hn,fun k hk hk'=>?_,fun k hk=>by simp [bs] at hk⟩
  unfold Imm.with at hk'
  split at hk'
  ·rename_i e';subst e';exact hf.own _ (by simp [bs])
  ·exact hf.new k hk hk'
abbrev wS (z:Int):List SV:=[zm (decide (z<0)),zy (yz z.natAbs)]
class Bz (z:Int) (k:outParam Nat):Prop where
 h:z.natAbs<4294967296^k
class IsZ (b:Bool) (l:List Nat) (z:outParam Int) (k:outParam Nat):Prop where
 lim:xU l
 val:uj b (Num.val l)=z
 len:l.length≤k
theorem Bz.len {z:Int} {k:Nat} (h:Bz z k):(yz z.natAbs).length≤k:=zK h.h
instance isZ_can {z:Int} {k:Nat} [h:Bz z k]:IsZ (decide (z<0)) (yz z.natAbs) z k:=⟨xe _,by rw [xq,va],h.len⟩
theorem IsZ.nat {b:Bool} {l:List Nat} {z:Int} {k:Nat} (h:IsZ b l z k):IsNat l z.natAbs:=⟨h.lim,by rw [←h.val,vV]⟩
theorem IsZ.bz {b:Bool} {l:List Nat} {z:Int} {k:Nat} (h:IsZ b l z k):Bz z k:=⟨by
 rw [←h.val,vV];exact Nat.lt_of_lt_of_le (wn h.lim) (Nat.pow_le_pow_right (by decide) h.len)⟩
theorem IsZ.can {b:Bool} {l:List Nat} {z:Int} {k:Nat} (h:IsZ b l z k):wS z=[zm (b&&decide (z.natAbs≠0)),zy (yz z.natAbs)]:=by
 have h1:=zgC b (Num.val l)
 rw [h.val] at h1
 have h2:z.natAbs=Num.val l:=by rw [←h.val,vV]
 show [zm (decide (z<0)),_]=_
 rw [h1,h2]
instance isZ_not {b:Bool} {l:List Nat} {z:Int} {k:Nat} [h:IsZ b l z k]:IsZ (!b) l (-z) k:=⟨h.lim,by rw [zmP,h.val],h.len⟩
theorem KG {b:Bool} {l:List Nat} (h:xU l):IsZ b l (uj b (Num.val l)) l.length:=⟨h,rfl,Nat.le_refl _⟩
instance bz_neg {z:Int} {k:Nat} [h:Bz z k]:Bz (-z) k:=⟨by rw [Int.natAbs_neg];exact h.h⟩
instance bz_add {x y:Int} {k l:Nat} [h:Bz x k] [h':Bz y l]:Bz (x+y) (k+l+1):=⟨Nat.lt_of_le_of_lt (Int.natAbs_add_le x y) (Kh h.h h'.h)⟩
instance bz_sub {x y:Int} {k l:Nat} [h:Bz x k] [h':Bz y l]:Bz (x-y) (k+l+1):=⟨Nat.lt_of_le_of_lt (Int.natAbs_sub_le x y) (Kh h.h h'.h)⟩
instance bz_mul {x y:Int} {k l:Nat} [h:Bz x k] [h':Bz y l]:Bz (x*y) (k+l):=⟨by
 rw [Int.natAbs_mul,Nat.pow_add];exact Nat.mul_lt_mul'' h.h h'.h⟩
instance bz_zero:Bz 0 0:=⟨by decide⟩
instance bz_one:Bz 1 1:=⟨by decide⟩
instance bz_nat {n:Nat} {k:Nat} [h:Bd n k]:Bz (n:Int) k:=⟨h.h⟩
theorem XT {z:Int} {k l:Nat} (h:Bz z k) (hl:k≤l):Bz z l:=⟨Nat.lt_of_lt_of_le h.h (Nat.pow_le_pow_right (by decide) hl)⟩
instance isZ_whole {l:List Nat} {n k:Nat} [h:IsNat l n] [hk:Sz l k]:IsZ false l (n:Int) k:=⟨h.lim,by rw [h.val];rfl,hk.h⟩
abbrev zc (p:Bool×List Nat):List SV:=[zm p.1,zy p.2]
def zv (p:Bool×List Nat):Int:=uj p.1 (Num.val p.2)
theorem vW {α β:Type} (f:β→α→β) (a:β) {l:List α} {i:Nat} {x:α} (h:l[i]? =some x):(l.take (i+1)).foldl f a=f ((l.take i).foldl f a) x:=by
 rw [List.take_add_one,h];simp
def qY (xs:List (Bool×List Nat)) (i:Nat):Nat:=((xs.take i).map fun p=>p.2.length+1).sum
theorem Zn {xs:List (Bool×List Nat)} {i:Nat} {p:Bool×List Nat} (h:xs[i]? =some p):qY xs (i+1)=qY xs i+(p.2.length+1):=by
 unfold qY;exact YK (fun p:Bool×List Nat=>p.2.length+1) h
theorem Wq (xs:List (Bool×List Nat)) (i:Nat):qY xs i≤qY xs xs.length:=by
 have:=Yt (fun p:Bool×List Nat=>p.2.length+1) xs i
 unfold qY;rw [List.take_length];exact this
def zfe (xs:List (Bool×List Nat)):List (List SV):=xs.map fun p=>[zT (wS (zv p))]
theorem Wr {xs:List (Bool×List Nat)}:(zfe xs).length=xs.length:=by simp [zfe]
theorem zdr {xs:List (Bool×List Nat)} {i:Nat} {ss:List SV} (h:(zfe xs)[i]? =some ss):∃ p,xs[i]? =some p∧ss=[zT (wS (zv p))]:=by
 simp only [zfe,List.getElem?_map,Option.map_eq_some_iff] at h
 obtain⟨p,h1,h2⟩:=h;exact⟨p,h1,h2.symm⟩
theorem zgL {xs:List (Bool×List Nat)} {ss:List SV} (h:ss∈zfe xs):ss.length=1:=by
 obtain⟨i,_,rfl⟩:=List.mem_map.1 h;rfl
theorem ZG {α:Type} {st:Nat} {f:α→List SV} (l:List α) {I:Imm} {v:Value} (h:(zU st id (l.map f)).den I v):(zU st f l).den I v:=by
 obtain⟨a,cap,hv,h1,h2,h3⟩:=h
 simp only [List.length_map] at hv h1 h2
 refine⟨a,cap,hv,h1,h2,?_⟩
 rcases h3 with h3 | ⟨b,o,ha,h4⟩
 ·exact .inl (List.map_eq_nil_iff.1 h3)
 ·exact .inr ⟨b,o,ha,fun i x hx=>h4 i (f x) (by rw [List.getElem?_map,hx];rfl)⟩
theorem zp6:[zm false,zy []]=wS 0:=by
 show _=[zm (decide ((0:Int)<0)),zy (yz (0:Int).natAbs)]
 rw [show (0:Int).natAbs=0 from rfl,dig_zero];rfl
theorem zm3 {cs ds:List SV} (h:subL cs ds) (I:Imm) (v:Value) (hv:(zl cs).den I v):(zl ds).den I v:=by
 obtain⟨xs,hv,hd,h1⟩:=hv;exact⟨xs,hv,h.dens hd,h1⟩
theorem zkR (I:Imm) (v:Value) (h:(zl [eqS (.bool false),eqS (.slice none 0 0)]).den I v):(zl (wS 0)).den I v:=by
 rw [←zp6];exact zm3 (cs:=[eqS (.bool false),eqS (.slice none 0 0)]) (ds:=[zm false,zy []]) ⟨fun _ _ h=>h,wF rfl,trivial⟩ I v h
theorem Yf {b:Bool} {l:List Nat} {z:Int} {k bn:Nat} [h:IsZ b l z k] (hs:k≤cap:=by decide):CallSpec Tryz.prog G 171 [eqS (.pointer (some ⟨bn,0,none⟩))] [⟨some bn,182,[zm b,zy l],0⟩] (fun s H'=>s=eqS (.pointer (some ⟨bn,0,none⟩))∧H'=[⟨some bn,182,wS z,0⟩]):=by
 have hn:=h.nat
 have hlen:=h.len
 have hcan:=h.can
 refine zs Tryz.func171 ?_;refine zg ?_;refine zo (ze rfl rfl (xV (by omega))) ?_;(iterate 3 refine zz ?_);refine zw ?_;refine zx ?_;(iterate 5 refine zz ?_)
 refine Run.oneB (yn 0 rfl rfl rfl rfl) rfl rfl rfl (fun h2_5=>?_) (fun h2_5=>?_)
 ·refine zg ?_;refine zj ?_
  exact⟨_,[_],.one (.tmp rfl),List.Sublist.refl _,rfl,by rw [hcan,h2_5,Bool.true_and];exact congrArg (fun x:Bool=>[(⟨some bn,182,[zm x,zy (yz z.natAbs)],0⟩:HE)]) (decide_eq_decide.2 (by have:=yR (n:=z.natAbs);omega))⟩
 ·refine zg ?_;refine zj ?_
  exact⟨_,[_],.one (.tmp rfl),List.Sublist.refl _,rfl,by rw [hcan,h2_5];rfl⟩
theorem zbD {b:Bool} {l:List Nat} {z:Int} {k:Nat} [h:IsZ b l z k] (hs:k≤cap:=by decide):CallSpec Tryz.prog G 117 [zl [zm b,zy l]] [] (fun s H'=>∃ bn,s=eqS (.pointer (some ⟨bn,0,none⟩))∧H'=[⟨some bn,182,wS z,0⟩]):=by
 refine zs Tryz.func117 ?_;refine zr ?_;(iterate 2 refine zz ?_);refine zx ?_;(iterate 2 refine zz ?_);refine Run.box rfl rfl rfl rfl rfl rfl fun bn=>?_;refine Run.call1 0 rfl rfl rfl rfl (Yf hs) rfl rfl rfl ?_
 rintro s1 H1 ⟨rfl,rfl⟩
 refine zg ?_;refine zj ?_
 exact⟨_,[_],.one (.tmp rfl),List.Sublist.refl _,bn,rfl,rfl⟩
theorem KH {b:Bool} {l:List Nat} {z:Int} {k:Nat} [h:IsZ b l z k] (hs:k≤cap:=by decide):zp Tryz.prog G 117 [zl [zm b,zy l]] (zT (wS z)):=zdq (zbD hs)
theorem KI {b:Bool} {l:List Nat} {z:Int} {k:Nat} [h:IsZ b l z k] (hs:k≤cap:=by decide):zp Tryz.prog G 78 [zl [zm b,zy l]] (zl (wS z)):=by
 refine zs Tryz.func78 ?_;refine zg ?_;refine xg fun b2=>?_;refine zg ?_;refine zf (KH hs) ?_;refine zg ?_
 exact zj zt
theorem zff {z:Int} (hs:(yz z.natAbs).length≤cap):zp Tryz.prog G 464 [zT (wS z)] (intS .i64 z.sign):=by
 unfold cap at hs
 have hz:=yR (n:=z.natAbs)
 obtain⟨i,hi⟩:∃ i,i=min (yz z.natAbs).length 1:=⟨_,rfl⟩
 have hi2:i=0∨i=1:=by omega
 refine zs Tryz.func464 ?_;refine zg ?_;refine xg fun b3=>?_;refine zw ?_;refine zx ?_;(iterate 6 refine zz ?_);refine zo ((UY rfl rfl rfl).sub (zD (n:=((i:Nat):Int)) (by omega))) ?_;refine zz ?_;refine zJ ?_;refine zh ?_;refine zg ?_;refine wE (fun h17=>?_) fun h17=>?_
 ·have hzn:z<0:=of_decide_eq_true h17
  refine zg ?_;refine zo (Wf (i:=2) rfl rfl rfl (by decide) rfl) ?_;refine zo ((yn 0 rfl rfl rfl rfl).sub (zD (n:=z.sign) (by rw [Int.sign_eq_neg_one_of_neg hzn]))) ?_;refine zg ?_
  exact zj zt
 ·have hzn:¬ z<0:=of_decide_eq_false h17
  refine zg ?_;refine zo (Wf (i:=i) (q:=i) rfl rfl rfl (by omega) (by omega)) ?_;refine zo (yn (s:=intS .i64 z.sign) 0 rfl rfl rfl (by rcases hi2 with e | e;rw [show z=0 by omega,e];rfl;rw [Int.sign_eq_one_of_pos (by omega),e];rfl)) ?_;refine zg ?_
  exact zj zt
theorem KJ {b:Bool} {l:List Nat} {z:Int} {k:Nat} [h:IsZ b l z k] (hs:k≤cap:=by decide):zp Tryz.prog G 413 [zl [zm b,zy l]] (intS .i64 z.sign):=by
 have hb:=h.bz.len
 refine zs Tryz.func413 ?_;refine zg ?_;refine zf (KH hs) ?_;refine zo (ze rfl rfl (zff (by omega))) ?_;refine zg ?_
 exact zj zt
theorem zfg {x y:Int} {bn k j:Nat} [hx:Bz x k] [hy:Bz y j] (hs:k+j+10≤cap:=by decide):CallSpec Tryz.prog G 183 [eqS (.pointer (some ⟨bn,0,none⟩)),zT (wS y)] [⟨some bn,182,wS x,0⟩] (fun s H'=>s=xn []∧H'=[⟨some bn,182,wS (x+y),0⟩]):=by
 unfold cap at hs
 have hxl:=hx.len
 have hyl:=hy.len
 have i1:Bd x.natAbs k:=⟨hx.h⟩
 have i2:Bd y.natAbs j:=⟨hy.h⟩
 have hd1:(yz (x.natAbs+y.natAbs)).length≤k+j+1:=zK (Kh hx.h hy.h)
 have hd2:(yz (x.natAbs-y.natAbs)).length≤k:=zK (Nat.lt_of_le_of_lt (Nat.sub_le _ _) hx.h)
 have hd3:(yz (y.natAbs-x.natAbs)).length≤j:=zK (Nat.lt_of_le_of_lt (Nat.sub_le _ _) hy.h)
 refine zs Tryz.func183 ?_;refine zh ?_;refine zS 11 (by kernel_rfl) ?_;refine zg ?_;refine zo (XY rfl rfl rfl Tryz.isBool4) ?_;refine zg ?_;refine wE (fun h16=>?_) fun h16=>?_
 ·refine zS 16 (by kernel_rfl) ?_;refine zg ?_;refine zo (zB rfl rfl (by decide) rfl (by simp) rfl rfl) ?_;refine zo (ze rfl rfl (YL (by unfold cap;omega))) ?_;(iterate 3 refine zz ?_);refine zJ ?_;refine zw ?_;refine zJ ?_
  have hsg:decide (x<0)=decide (y<0):=beq_iff_eq.1 h16
  have i3:IsZ (decide (x<0)) (yz (x.natAbs+y.natAbs)) (x+y) (k+j+1):=⟨xe _,by rw [xq];unfold uj;by_cases hn:x<0;have hm:y<0:=of_decide_eq_true (hsg▸decide_eq_true hn);rw [if_pos (decide_eq_true hn)];omega;have hm:¬ y<0:=fun h=>hn (of_decide_eq_true (hsg.symm▸decide_eq_true h));rw [if_neg (by simp [hn])];omega,hd1⟩
  refine zg ?_;refine Run.call1 0 rfl rfl rfl rfl (Yf (by unfold cap;omega)) rfl rfl rfl ?_
  rintro s1 H1 ⟨rfl,rfl⟩
  refine zJ ?_;refine zj ?_
  exact⟨_,[_],.none,List.Sublist.refl _,rfl,rfl⟩
 ·have hsg:decide (x<0)≠decide (y<0):=beq_eq_false_iff_ne.1 h16
  have hsg2:x<0↔¬ y<0:=by by_cases h1:x<0 <;> by_cases h2:y<0 <;> simp [h1,h2] at hsg ⊢
  refine zE ?_;refine zS 16 (by kernel_rfl) ?_;refine zg ?_;refine zo (ze rfl rfl (Kg (by unfold cap;omega))) ?_;(iterate 5 refine zz ?_);(iterate 2 refine zJ ?_);refine zh ?_;refine zg ?_;refine zd (fun _ k50=>?_) fun _ k50=>?_
  ·have hlt:x.natAbs<y.natAbs:=by rcases Nat.lt_or_ge x.natAbs y.natAbs with h | h;exact h;rw [if_neg (by omega)] at k50;exact absurd rfl k50
   refine zS 15 (by kernel_rfl) ?_;refine zg ?_;refine zo (ze rfl rfl (Kg (by unfold cap;omega))) ?_;(iterate 4 refine zz ?_);(iterate 2 refine zJ ?_);refine zO ?_;(iterate 9 refine zz ?_);refine zw ?_;refine zx ?_;(iterate 5 refine zz ?_);refine zw ?_;refine zJ ?_
   have i3:IsZ (decide (y<0)) (yz (y.natAbs-x.natAbs)) (x+y) j:=⟨xe _,by rw [xq];unfold uj;by_cases hm:y<0;rw [if_pos (decide_eq_true hm)];omega;rw [if_neg (by simp [hm])];omega,hd3⟩
   refine zg ?_;refine Run.call1 0 rfl rfl rfl rfl (Yf (by unfold cap;omega)) rfl rfl rfl ?_
   rintro s1 H1 ⟨rfl,rfl⟩
   refine zJ ?_
   exact⟨_,[_],.none,List.Sublist.refl _,rfl,rfl⟩
  ·have hlt:y.natAbs≤x.natAbs:=by rcases Nat.lt_or_ge x.natAbs y.natAbs with h | h;rw [if_pos h] at k50;cases k50;exact h
   refine zE ?_;refine zr ?_;(iterate 5 refine zz ?_);refine zw ?_;refine zJ ?_
   have i3:IsZ (decide (x<0)) (yz (x.natAbs-y.natAbs)) (x+y) k:=⟨xe _,by rw [xq];unfold uj;by_cases hm:x<0;rw [if_pos (decide_eq_true hm)];omega;rw [if_neg (by simp [hm])];omega,hd2⟩
   refine zg ?_;refine Run.call1 0 rfl rfl rfl rfl (Yf (by unfold cap;omega)) rfl rfl rfl ?_
   rintro s1 H1 ⟨rfl,rfl⟩
   refine zJ ?_
   exact⟨_,[_],.none,List.Sublist.refl _,rfl,rfl⟩
theorem zfh {x y:Int} {bn k j:Nat} [hx:Bz x k] [hy:Bz y j] (hs:8*(k+j)+100≤cap:=by decide):CallSpec Tryz.prog G 184 [eqS (.pointer (some ⟨bn,0,none⟩)),zT (wS y)] [⟨some bn,182,wS x,0⟩] (fun s H'=>s=xn []∧H'=[⟨some bn,182,wS (x*y),0⟩]):=by
 have hs0:=hs
 unfold cap at hs
 have i1:Bd x.natAbs k:=⟨hx.h⟩
 have i2:Bd y.natAbs j:=⟨hy.h⟩
 have i3:IsZ (!(decide (x<0)==decide (y<0))) (yz (x.natAbs*y.natAbs)) (x*y) (k+j):=⟨xe _,by rw [xq];exact (zgD _ _ _ _).trans (by rw [va,va]),zK (by have:=(bz_mul (x:=x) (y:=y)).h;rwa [Int.natAbs_mul] at this)⟩
 refine zs Tryz.func184 ?_;refine Uc 27 _ (by kernel_rfl) rfl (.cons _ .slnil) ?_;refine RunE.one (zG rfl rfl) rfl rfl rfl (by kernel_rfl) ?_;refine RunE.lat (zG rfl rfl) rfl rfl rfl ?_;refine RunE.one (zG rfl rfl) rfl rfl rfl (by kernel_rfl) ?_;refine RunE.one (yT rfl rfl) rfl rfl rfl (by kernel_rfl) ?_;(iterate 2 refine RunE.one (zN rfl rfl rfl) rfl rfl rfl (by kernel_rfl) ?_);refine RunE.one (yn 0 rfl rfl rfl rfl) rfl rfl rfl (by kernel_rfl) ?_;refine RunE.one (zG rfl rfl) rfl rfl rfl (by kernel_rfl) ?_;refine RunE.one (uI rfl rfl) rfl rfl rfl (by kernel_rfl) ?_;(iterate 2 refine RunE.one (zX rfl rfl rfl) rfl rfl rfl (by kernel_rfl) ?_);refine RunE.one (yN rfl rfl) rfl rfl rfl (by kernel_rfl) ?_;refine RunE.one (QK rfl rfl rfl Tryz.isBool4) rfl rfl rfl (by kernel_rfl) ?_;refine RunE.one (zG rfl rfl) rfl rfl rfl (by kernel_rfl) ?_;refine RunE.one (yT rfl rfl) rfl rfl rfl (by kernel_rfl) ?_;(iterate 2 refine RunE.one (zN rfl rfl rfl) rfl rfl rfl (by kernel_rfl) ?_);refine RunE.one (yn 0 rfl rfl rfl rfl) rfl rfl rfl (by kernel_rfl) ?_;refine RunE.one (zG rfl rfl) rfl rfl rfl (by kernel_rfl) ?_;refine RunE.one (uI rfl rfl) rfl rfl rfl (by kernel_rfl) ?_;(iterate 2 refine RunE.one (zX rfl rfl rfl) rfl rfl rfl (by kernel_rfl) ?_);refine RunE.one (yN rfl rfl) rfl rfl rfl (by kernel_rfl) ?_;refine RunE.one (ze rfl rfl (Ui hs0)) rfl rfl rfl (by kernel_rfl) ?_;refine RunE.one (yT rfl rfl) rfl rfl rfl (by kernel_rfl) ?_;(iterate 2 refine RunE.one (zN rfl rfl rfl) rfl rfl rfl (by kernel_rfl) ?_);refine RunE.nil ?_;refine EffAt.store 0 rfl rfl rfl rfl rfl rfl rfl rfl (.cons _ .slnil) ?_;refine zg ?_;refine Run.call1 0 rfl rfl rfl rfl (Yf (by unfold cap;omega)) rfl rfl rfl ?_
 rintro s1 H1 ⟨rfl,rfl⟩
 refine zJ ?_
 exact⟨_,[_],.none,List.Sublist.refl _,rfl,rfl⟩
theorem KL {xs:List (Bool×List Nat)} (hl:∀ p∈xs,xU p.2) (hs:∀ p∈xs,p.2.length≤cap):IterSpec Tryz.prog G 239 [zT [zU 2 zc xs]] (zfe xs):=by
 refine xH Tryz.func239 rfl rfl rfl rfl fun l E hy=>?_;refine zr ?_;(iterate 3 refine zz ?_);refine zJ ?_;refine zQ ?_;refine wT 5 rfl fun la=>?_
 unfold yP at la
 refine yK (γ:=Nat) (fun g=>⟨_,[(7,intS .i64 (g:Nat)),(6,intS .i64 xs.length),(5,zU 2 zc xs),(0,yieldS l),(1,zT [zU 2 zc xs])],[],[],(g,false)⟩) (fun g=>g≤xs.length) (fun g=>xs.length-g) 0 (Nat.zero_le _) (yo zk) ?_
 intro g hg
 refine zr ?_;refine zz ?_;refine zJ ?_;refine zh ?_;refine zd (fun _ k8=>?_) fun _ k8=>?_
 ·obtain⟨⟨b,ml⟩,hp⟩:∃ p,xs[g]? =some p:=⟨_,List.getElem?_eq_getElem (by omega)⟩
  have hpm:(b,ml)∈xs:=List.mem_of_getElem? hp
  have i1:IsZ b ml (zv (b,ml)) ml.length:=KG (hl _ hpm)
  have hsl:=hs _ hpm
  refine zE ?_;refine zh ?_;refine zg ?_;refine zo (zi rfl rfl rfl (by omega) (y:=(b,ml)) (hp)) ?_;refine zz ?_;refine xg fun b4=>?_;refine zg ?_;refine zf (KH hsl) ?_;refine Run.yield rfl hy rfl rfl rfl (by simp only [zfe,List.getElem?_map,hp];rfl) (xi _) rfl rfl rfl fun y=>?_;refine zg ?_;refine wE (fun h15=>?_) fun h15=>?_
  ·refine zj ?_
   exact⟨.inl rfl,.inr h15⟩
  ·refine zE ?_;refine zP (zY (h':=[]) (List.nil_sublist _)) ?_;refine zO ?_;refine za ((g+1:Nat):Int) ?_;refine zg ?_
   exact⟨g+1,(by omega:g+1≤xs.length),by omega,rfl,zb rfl (zb rfl (zb rfl (zb rfl (zb rfl (trivial))))),xp _,rfl,by simp only;rw [h15]⟩
 ·refine zI ?_
  exact⟨.inr rfl,.inl (by rw [Wr,show g=xs.length by omega])⟩
theorem zaE {xs:List (Bool×List Nat)}:zp Tryz.prog G 182 [zU 2 zc xs] (wp 239 [zT [zU 2 zc xs]]):=by
 refine zs Tryz.func182 ?_;refine zg ?_
 exact zj zt
theorem zds {n:Int} (h1: -9223372036854775808≤n) (h2:n≤9223372036854775807):zp Tryz.prog G 125 [intS .i64 n] (zl (wS n)):=by
 refine zs Tryz.func125 ?_;refine zr ?_;refine xg fun b2=>?_;refine zJ ?_;refine zh ?_;refine zg ?_;refine zd (fun _ k4=>?_) fun _ k4=>?_
 ·refine zg ?_;refine zo (yQ (z:=18446744073709551616+n) rfl rfl (by rw [wk];omega)) ?_;refine zo ((zex rfl rfl).sub (zD (n:=((n.natAbs:Nat):Int)) (by rw [wk];omega))) ?_;refine zo (ze rfl rfl (Ue (by omega))) ?_;refine zg ?_
  exact zj (zu (e:=by rw [show wS n=[zm true,zy (yz n.natAbs)] by show [zm (decide (n<0)),_]=_;rw [decide_eq_true (by omega)]];rfl))
 ·refine zg ?_;refine zo (yQ (z:=((n.natAbs:Nat):Int)) rfl rfl (by rw [wk];omega)) ?_;refine zo (ze rfl rfl (Ue (by omega))) ?_;refine zg ?_
  exact zj (zu (e:=by rw [show wS n=[zm false,zy (yz n.natAbs)] by show [zm (decide (n<0)),_]=_;rw [decide_eq_false (by omega)]];rfl))
theorem ziw {xs:List (Bool×List Nat)} (hl:∀ p∈xs,xU p.2) (hs:qY xs xs.length+1000≤cap):zp Tryz.prog G 127 [zU 2 zc xs] (zl (wS (xs.foldl (fun z p=>z+zv p) 0))):=by
 unfold cap at hs
 have hps:∀ p∈xs,p.2.length≤cap:=fun p hp=>by
  obtain⟨i,hi⟩:=List.getElem?_of_mem hp
  have h1:=Zn hi
  have h2:=Wq xs (i+1)
  unfold cap;omega
 refine zs Tryz.func127 ?_;refine zr ?_;refine xg fun b2=>?_;refine zx ?_;refine zo ((yW rfl rfl rfl).sub zkR) ?_;refine Run.call0 rfl rfl rfl (zbD (z:=0)) rfl rfl rfl ?_
 rintro s1 H1 ⟨bn,rfl,rfl⟩
 refine xg fun b3=>?_;refine zw ?_;refine zJ ?_;refine zh ?_;refine zg ?_;refine zf zaE ?_;refine zg ?_
 refine ul rfl rfl (KL hl hps) (fun ss h=>zgL h) (by decide) rfl
   (fun k h i=>i=(0,false)∧k≤xs.length∧Bz ((xs.take k).foldl (fun z p=>z+zv p) 0) (qY xs k+1)∧h=[⟨some b3,183,[eqS (.pointer (some ⟨bn,0,none⟩))],0⟩,⟨some bn,182,wS ((xs.take k).foldl (fun z p=>z+zv p) 0),0⟩,⟨some b2,37,[eqS (.bool false),eqS (.slice none 0 0)],0⟩])
   (fun _ _ _=>False) ⟨rfl,Nat.zero_le _,by rw [List.take_zero];exact XT (by show Bz 0 1;exact XT (l:=1) inferInstance (by decide)) (by omega),rfl⟩ ?_ ?_ ?_
 ·rintro l k ss h i hk ⟨rfl,_,hbz,rfl⟩
  obtain⟨p,hp,rfl⟩:=zdr hk
  have hlt:=yt hp
  obtain⟨acc,hacc⟩:∃ acc,acc=(xs.take k).foldl (fun z p=>z+zv p) 0:=⟨_,rfl⟩
  have hfs:=vW (fun z p=>z+zv p) 0 hp
  have hs1:=Zn hp
  have hs2:=Wq xs (k+1)
  rw [←hacc] at hbz hfs ⊢
  have i2:Bz (zv p) p.2.length:=(KG (b:=p.1) (hl p (List.mem_of_getElem? hp))).bz
  refine zO ?_;refine zz ?_;refine zJ ?_
  refine⟨rfl,?_⟩
  refine zg ?_;refine Run.call1 1 rfl rfl rfl rfl (zfg (by unfold cap;omega)) rfl rfl rfl ?_
  rintro s1 H1 ⟨rfl,rfl⟩
  refine zJ ?_
  refine⟨rfl,by omega,?_,by rw [hfs];rfl⟩
  rw [hfs,hs1];exact XT (bz_add (h:=hbz) (h':=i2)) (by omega)
 ·rintro h i D ⟨rfl,_,hbz,rfl⟩
  rw [Wr,List.take_length]
  refine zg ?_
  exact zj zt
 ·intro h i D e c hc hInv;exact hInv.elim
theorem KM {b c:Bool} {l m:List Nat} {x y:Int} {k j:Nat} [hx:IsZ b l x k] [hy:IsZ c m y j] (hs:k+j+1100≤cap:=by decide):zp Tryz.prog G 127 [zU 2 id [[zm b,zy l],[zm c,zy m]]] (zl (wS (x+y))):=by
 have h:=ziw (G:=G) (xs:=[(b,l),(c,m)]) (by intro p hp;rcases List.mem_cons.1 hp with rfl | hp;exact hx.lim;rw [List.mem_singleton.1 hp];exact hy.lim) (by have:=hx.len;have:=hy.len;simp only [qY,List.length_cons,List.length_nil,List.take,List.map,List.sum_cons,List.sum_nil];omega)
 have e:[(b,l),(c,m)].foldl (fun z p=>z+zv p) 0=x+y:=by show 0+uj b (val l)+uj c (val m)=_;rw [hx.val,hy.val,Int.zero_add]
 rw [e] at h
 exact h.args ⟨fun I v hv=>ZG [(b,l),(c,m)] hv,trivial⟩
theorem zix {xs:List (Bool×List Nat)} (hl:∀ p∈xs,xU p.2) (hs:20*qY xs xs.length+1000≤cap):zp Tryz.prog G 128 [zU 2 zc xs] (zl (wS (xs.foldl (fun z p=>z*zv p) 1))):=by
 unfold cap at hs
 have hps:∀ p∈xs,p.2.length≤cap:=fun p hp=>by
  obtain⟨i,hi⟩:=List.getElem?_of_mem hp
  have h1:=Zn hi
  have h2:=Wq xs (i+1)
  unfold cap;omega
 refine zs Tryz.func128 ?_;refine zr ?_;refine xg fun b2=>?_;refine zx ?_;refine zo (ze rfl rfl (zds (n:=1) (by decide) (by decide))) ?_;refine Run.call0 rfl rfl rfl (zbD (z:=1)) rfl rfl rfl ?_
 rintro s1 H1 ⟨bn,rfl,rfl⟩
 refine xg fun b3=>?_;refine zw ?_;refine zJ ?_;refine zh ?_;refine zg ?_;refine zf zaE ?_;refine zg ?_
 refine ul rfl rfl (KL hl hps) (fun ss h=>zgL h) (by decide) rfl
   (fun k h i=>i=(0,false)∧k≤xs.length∧Bz ((xs.take k).foldl (fun z p=>z*zv p) 1) (qY xs k+1)∧h=[⟨some b3,183,[eqS (.pointer (some ⟨bn,0,none⟩))],0⟩,⟨some bn,182,wS ((xs.take k).foldl (fun z p=>z*zv p) 1),0⟩,⟨some b2,37,[eqS (.bool false),eqS (.slice none 0 0)],0⟩])
   (fun _ _ _=>False) ⟨rfl,Nat.zero_le _,by rw [List.take_zero];exact XT (by show Bz 1 1;exact XT (l:=1) inferInstance (by decide)) (by omega),rfl⟩ ?_ ?_ ?_
 ·rintro l k ss h i hk ⟨rfl,_,hbz,rfl⟩
  obtain⟨p,hp,rfl⟩:=zdr hk
  have hlt:=yt hp
  obtain⟨acc,hacc⟩:∃ acc,acc=(xs.take k).foldl (fun z p=>z*zv p) 1:=⟨_,rfl⟩
  have hfs:=vW (fun z p=>z*zv p) 1 hp
  have hs1:=Zn hp
  have hs2:=Wq xs (k+1)
  rw [←hacc] at hbz hfs ⊢
  have i2:Bz (zv p) p.2.length:=(KG (b:=p.1) (hl p (List.mem_of_getElem? hp))).bz
  refine zO ?_;refine zz ?_;refine zJ ?_
  refine⟨rfl,?_⟩
  refine zg ?_;refine Run.call1 1 rfl rfl rfl rfl (zfh (by unfold cap;omega)) rfl rfl rfl ?_
  rintro s1 H1 ⟨rfl,rfl⟩
  refine zJ ?_
  refine⟨rfl,by omega,?_,by rw [hfs];rfl⟩
  rw [hfs,hs1];exact XT (bz_mul (h:=hbz) (h':=i2)) (by omega)
 ·rintro h i D ⟨rfl,_,hbz,rfl⟩
  rw [Wr,List.take_length]
  refine zg ?_
  exact zj zt
 ·intro h i D e c hc hInv;exact hInv.elim
theorem Zc {b c:Bool} {l m:List Nat} {x y:Int} {k j:Nat} [hx:IsZ b l x k] [hy:IsZ c m y j] (hs:20*(k+j)+1100≤cap:=by decide):zp Tryz.prog G 128 [zU 2 id [[zm b,zy l],[zm c,zy m]]] (zl (wS (x*y))):=by
 have h:=zix (G:=G) (xs:=[(b,l),(c,m)]) (by intro p hp;rcases List.mem_cons.1 hp with rfl | hp;exact hx.lim;rw [List.mem_singleton.1 hp];exact hy.lim) (by have:=hx.len;have:=hy.len;simp only [qY,List.length_cons,List.length_nil,List.take,List.map,List.sum_cons,List.sum_nil];omega)
 have e:[(b,l),(c,m)].foldl (fun z p=>z*zv p) 1=x*y:=by show 1*uj b (val l)*uj c (val m)=_;rw [hx.val,hy.val,Int.one_mul]
 rw [e] at h
 exact h.args ⟨fun I v hv=>ZG [(b,l),(c,m)] hv,trivial⟩
theorem zaF {b:Bool} {l:List Nat} {z:Int} {k:Nat} [h:IsZ b l z k] (hs:k≤cap:=by decide):zp Tryz.prog G 54 [zl [zm b,zy l]] (zl (wS (-z))):=by
 refine zs Tryz.func54 ?_;refine zr ?_;refine Run.box rfl rfl rfl rfl rfl rfl fun b1=>?_;refine xg fun b2=>?_;refine zg ?_;refine zf (KI hs) ?_;refine zg ?_
 exact zj zt
theorem ziy {b c:Bool} {l m:List Nat} {x y:Int} {k j:Nat} [hx:IsZ b l x k] [hy:IsZ c m y j] (hs:k+j+1100≤cap:=by decide):zp Tryz.prog G 414 [zl [zm b,zy l],zl [zm c,zy m]] (zl (wS (x-y))):=by
 have i1:=hx.bz
 have i2:=hy.bz
 refine zs Tryz.func414 ?_;refine zg ?_;refine xg fun b4=>?_;refine zJ ?_;refine zS 5 (by kernel_rfl) ?_;refine zg ?_;refine zo (ze rfl rfl (zaF (by omega))) ?_;refine zo (zB rfl rfl (by decide) rfl (by simp) rfl rfl) ?_;refine zo ((ze rfl rfl (KM hs)).sub (show ∀I v,(zl (wS (x+ -y))).den I v→(zl (wS (x-y))).den I v from fun I v h=>by rw [Int.sub_eq_add_neg];exact h)) ?_;refine zg ?_
 exact zj zt
theorem ziz {b c:Bool} {l m:List Nat} {x y:Int} {k j:Nat} [hx:IsZ b l x k] [hy:IsZ c m y j] (hs:k+j+1100≤cap:=by decide):zp Tryz.prog G 341 [zl [zm b,zy l],zl [zm c,zy m]] (intS .i64 (x-y).sign):=by
 have i1:=hx.bz
 have i2:=hy.bz
 refine zs Tryz.func341 ?_;refine zg ?_;refine zf (ziy hs) ?_;refine zo (ze rfl rfl (KJ (by omega))) ?_;refine zg ?_
 exact zj zt
end Go.Proofs
/- Integers: straitref05. -/
namespace Go.Proofs
open Go Go.Sv Num
variable {G:Imm}
theorem zfi {E:Env} {r:Option Nat} {n:Nat} {g:List (Nat×SV)} {b:Option Nat} {e k:Nat} {h:HL} {d:List Nat} {i:Nat×Bool}:ZT G E r ⟨n,g,⟨b,e,[eqS (.bool false),eqS (.slice none 0 0)],k⟩::h,d,i⟩ ⟨n,g,⟨b,e,wS 0,k⟩::h,d,i⟩:=
 VD ⟨rfl,rfl,rfl,rfl,fun I xs hd=>by
  rw [←zp6]
  exact subL.dens (l:=[eqS (.bool false),eqS (.slice none 0 0)]) (m:=[zm false,zy []]) ⟨fun _ _ h=>h,wF rfl,trivial⟩ hd,xp h⟩
theorem wA {b:Bool} {l:List Nat} {z:Int} {k:Nat} [h:IsZ b l z k] (hs:k≤cap:=by decide):zp Tryz.prog G 110 [zl [zm b,zy l]] (zl (wS z)):=by
 have hn:=h.nat
 have hlen:=h.len
 have hcan:=h.can
 refine zs Tryz.func110 ?_;refine zg ?_;refine xg fun b2=>?_;refine zg ?_;refine zo (ze rfl rfl (xE (by omega))) ?_;refine zz ?_;refine zx ?_;refine zz ?_
 refine Run.oneB (yN rfl rfl) rfl rfl rfl (fun h2_1=>?_) (fun h2_1=>?_)
 ·refine zg ?_
  exact zj (zu (e:=by rw [hcan,h2_1,Bool.true_and];exact congrArg (fun x:Bool=>zl [zm x,zy (yz z.natAbs)]) (decide_eq_decide.2 (by have:=yR (n:=z.natAbs);omega))))
 ·refine zg ?_
  exact zj (zu (e:=by rw [hcan,h2_1];rfl))
theorem zfj {b c:Bool} {l m:List Nat}:zp Tryz.prog G 74 [zl [zm b,zy l],zl [zm c,zy m]] (zm (decide (b=c∧l=m))):=by
 refine zs Tryz.func74 ?_;refine zr ?_;(iterate 3 refine zz ?_);refine zx ?_;(iterate 4 refine zz ?_)
 refine Run.oneB (XY rfl rfl rfl Tryz.isBool4) rfl rfl rfl (fun h1_4=>?_) (fun h1_4=>?_)
 ·refine zg ?_;refine zf Ki ?_;refine zg ?_
  exact zj (zu (e:=congrArg zm (decide_eq_decide.2 (by rw [beq_iff_eq.1 h1_4];simp))))
 ·refine zg ?_
  exact zj (zu (e:=congrArg zm (decide_eq_false (fun h=>beq_eq_false_iff_ne.1 h1_4 h.1)).symm))
theorem QZ {b:Bool} {l:List Nat} {z:Int} {k:Nat} [h:IsZ b l z k] (hs:k≤cap:=by decide):zp Tryz.prog G 172 [zl [zm b,zy l]] (intS .i64 z.sign):=by
 have hz:=yR (n:=z.natAbs)
 refine zs Tryz.func172 ?_;refine zr ?_;refine Run.box rfl rfl rfl rfl rfl rfl fun b1=>?_;refine zg ?_;refine zf (wA hs) ?_;refine zw ?_;refine zJ ?_;refine zh ?_;refine zg ?_;refine zd (fun _ k5=>?_) fun _ k5=>?_
 ·have hz0:z=0:=by omega
  refine zg ?_
  exact zj (zu (e:=by rw [hz0];rfl))
 ·have hz0:z≠0:=fun h=>k5 (by rw [h];exact congrArg (fun x:Nat=>(x:Int)) (yR.2 rfl))
  refine zg ?_;refine wE (fun h10=>?_) fun h10=>?_
  ·refine zg ?_
   exact zj (zu (e:=by rw [Int.sign_eq_neg_one_of_neg (of_decide_eq_true h10)]))
  ·refine zg ?_
   exact zj (zu (e:=by rw [Int.sign_eq_one_of_pos (by have:=of_decide_eq_false h10;omega)]))
theorem zaG {n:Int} (h1: -9223372036854775808≤n) (h2:n≤9223372036854775807):zp Tryz.prog G 89 [intS .i64 n] (zl (wS n)):=by
 refine zs Tryz.func89 ?_;refine zr ?_;refine xg fun b2=>?_;refine zJ ?_;refine zh ?_;refine zg ?_;refine zd (fun _ k4=>?_) fun _ k4=>?_
 ·refine zg ?_;refine zo (yA (z:=n+1) rfl rfl rfl (congrArg some (by omega)) (wrap_i64 (by omega) (by omega))) ?_;refine zo ((zex rfl rfl).sub (zD (n:= -(n+1)) ((wrap_i64 (by omega) (by omega)).trans (by omega)))) ?_;refine zo (yQ (z:= -(n+1)) rfl rfl (xf (by omega) (by omega))) ?_;refine za ((n.natAbs:Nat):Int) ?_;refine zo (ze rfl rfl (Ug (by omega))) ?_;refine zg ?_
  exact zj (zu (e:=by rw [show wS n=[zm true,zy (yz n.natAbs)] by show [zm (decide (n<0)),_]=_;rw [decide_eq_true (by omega)]];rfl))
 ·refine zg ?_;refine zo (yQ (z:=((n.natAbs:Nat):Int)) rfl rfl (by rw [wk];omega)) ?_;refine zo (ze rfl rfl (Ug (by omega))) ?_;refine zg ?_
  exact zj (zu (e:=by rw [show wS n=[zm false,zy (yz n.natAbs)] by show [zm (decide (n<0)),_]=_;rw [decide_eq_false (by omega)]];rfl))
theorem KN {b:Bool} {l:List Nat} {z:Int} {k:Nat} [h:IsZ b l z k] (hs:k≤cap:=by decide):zp Tryz.prog G 236 [zl [zm b,zy l]] (zl (wS (-z))):=by
 refine zs Tryz.func236 ?_;refine zg ?_;refine xg fun b2=>?_;refine zg ?_;refine zf (wA hs) ?_;refine zg ?_
 exact zj zt
theorem zfk {b c:Bool} {l m:List Nat} {x y:Int} {k j:Nat} [hx:IsZ b l x k] [hy:IsZ c m y j] (hs:k+j+100≤cap:=by decide):zp Tryz.prog G 303 [zl [zm b,zy l],zl [zm c,zy m]] (zl (wS (x+y))):=by
 unfold cap at hs
 have hxn:=hx.nat
 have hyn:=hy.nat
 have hxl:=hx.len
 have hyl:=hy.len
 have i1:Sz l k:=⟨hxl⟩
 have i2:Sz m j:=⟨hyl⟩
 have hxb:=hx.bz
 have hyb:=hy.bz
 have hxe:uj b x.natAbs=x:=by have h1:=hx.val;rwa [hxn.val] at h1
 have hye:uj c y.natAbs=y:=by have h1:=hy.val;rwa [hyn.val] at h1
 have hd1:(yz (x.natAbs+y.natAbs)).length≤k+j+1:=zK (Kh hxb.h hyb.h)
 have hd2:(yz (x.natAbs-y.natAbs)).length≤k:=zK (Nat.lt_of_le_of_lt (Nat.sub_le _ _) hxb.h)
 have hd3:(yz (y.natAbs-x.natAbs)).length≤j:=zK (Nat.lt_of_le_of_lt (Nat.sub_le _ _) hyb.h)
 unfold uj at hxe hye
 refine zs Tryz.func303 ?_;refine zg ?_;refine xg fun b4=>?_;refine zJ ?_;refine zh ?_;refine zg ?_;refine zo (XY rfl rfl rfl Tryz.isBool4) ?_;refine zJ ?_;refine wE (fun h11=>?_) fun h11=>?_
 ·have hbc:b=c:=beq_iff_eq.1 h11
  have i3:IsZ b (yz (x.natAbs+y.natAbs)) (x+y) (k+j+1):=⟨xe _,by rw [xq];unfold uj;rw [←hbc] at hye;split at hxe <;> simp_all <;> omega,hd1⟩
  refine zS 10 (by kernel_rfl) ?_;refine zg ?_;refine zo (zB rfl rfl (by decide) rfl (by simp) rfl rfl) ?_;refine zo (ze rfl rfl (Xq (by unfold cap;omega))) ?_;refine zz ?_;refine zo (ze rfl rfl (wA (by unfold cap;omega))) ?_;refine zg ?_
  exact zj zt
 ·have hbc:b≠c:=beq_eq_false_iff_ne.1 h11
  refine zg ?_;refine zo (ze rfl rfl (YM (by unfold cap;omega))) ?_;(iterate 5 refine zz ?_);refine zJ ?_;refine zh ?_;refine zg ?_;refine zd (fun _ k31=>?_) fun _ k31=>?_
  ·have hlt:y.natAbs≤x.natAbs:=by rcases Nat.lt_or_ge x.natAbs y.natAbs with h | h;rw [if_pos h] at k31;cases k31;exact h
   have i3:IsZ b (yz (x.natAbs-y.natAbs)) (x+y) k:=⟨xe _,by rw [xq];unfold uj;cases b <;> cases c <;> simp_all <;> omega,hd2⟩
   refine zg ?_;refine zo (ze rfl rfl (wA (by unfold cap;omega))) ?_;refine zg ?_
   exact zj zt
  ·have hlt:x.natAbs<y.natAbs:=by rcases Nat.lt_or_ge x.natAbs y.natAbs with h | h;exact h;rw [if_neg (by omega)] at k31;exact absurd rfl k31
   have i3:IsZ c (yz (y.natAbs-x.natAbs)) (x+y) j:=⟨xe _,by rw [xq];unfold uj;cases b <;> cases c <;> simp_all <;> omega,hd3⟩
   refine zg ?_;refine zo (ze rfl rfl (YM (by unfold cap;omega))) ?_;refine zg ?_;refine zo (ze rfl rfl (wA (by unfold cap;omega))) ?_;refine zg ?_
   exact zj zt
theorem zfl {xs:List (Bool×List Nat)} (hl:∀ p∈xs,xU p.2) (hs:qY xs xs.length+1000≤cap):zp Tryz.prog G 235 [zU 2 zc xs] (zl (wS (xs.foldl (fun z p=>z+zv p) 0))):=by
 unfold cap at hs
 have hps:∀ p∈xs,p.2.length≤cap:=fun p hp=>by
  obtain⟨i,hi⟩:=List.getElem?_of_mem hp
  have h1:=Zn hi
  have h2:=Wq xs (i+1)
  unfold cap;omega
 refine zs Tryz.func235 ?_;refine zr ?_;refine xg fun b2=>?_;refine zx ?_;refine xg fun b3=>?_;refine zJ ?_;refine zh ?_;refine zr ?_;refine Run.ghost _ rfl zfi ?_;refine zz ?_;refine zJ ?_;refine zQ ?_;refine wT 0 rfl fun la=>?_
 unfold yP at la
 refine yX (fun (i:Nat) (acc:Int)=>⟨_,[(4,intS .i64 (i:Nat)),(3,eqS (.pointer (some ⟨b3,0,none⟩))),(2,eqS (.pointer (some ⟨b2,0,none⟩))),(0,zU 2 zc xs)],[⟨some b3,37,wS acc,0⟩,⟨some b2,37,[eqS (.bool false),eqS (.slice none 0 0)],0⟩],[],(0,false)⟩)
   (fun i acc=>i≤xs.length∧acc=(xs.take i).foldl (fun z p=>z+zv p) 0∧Bz acc (qY xs i+1)) (fun i acc=>xs.length-i)
   0 0 ⟨Nat.zero_le _,rfl,XT (l:=qY xs 0+1) (show Bz 0 1 from XT (l:=1) inferInstance (by decide)) (by omega)⟩ (zL zk rfl) ?_
 rintro i acc ⟨hi,hacc,hbz⟩
 refine zh ?_;refine zg ?_;refine zd (fun _ k8=>?_) fun _ k8=>?_
 ·obtain⟨⟨b,m⟩,hp⟩:∃ p,xs[i]? =some p:=⟨_,List.getElem?_eq_getElem (by omega)⟩
  have hpm:(b,m)∈xs:=List.mem_of_getElem? hp
  have i1:IsZ b m (zv (b,m)) m.length:=KG (hl _ hpm)
  have i2:=i1.bz
  have hsl:=hps _ hpm
  have hs1:=Zn hp
  have hs2:=Wq xs (i+1)
  simp only at hs1 hsl
  refine zE ?_;refine zh ?_;refine zQ ?_;refine Zu 7 (by kernel_rfl) ?_;refine zg ?_;refine zo (zi rfl rfl rfl (by omega) (y:=(b,m)) (hp)) ?_;refine zz ?_;refine zf (wA hsl) ?_;refine zo (ze rfl rfl (zfk (by unfold cap;omega))) ?_;refine zg ?_;refine zA ?_;refine zg ?_
  exact⟨i+1,acc+zv (b,m),⟨by omega,by rw [hacc,vW (fun z p=>z+zv p) 0 hp],XT (bz_add (h:=hbz) (h':=i2)) (by omega)⟩,by omega,zL (zb rfl (zb rfl (zb rfl (zb rfl (trivial))))) rfl⟩
 ·have hie:i=xs.length:=by omega
  rw [hie,List.take_length] at hacc
  rw [hie] at hbz
  refine zI ?_;refine zg ?_;refine zo (ze rfl rfl (wA (by unfold cap;omega))) ?_;refine zg ?_
  exact zj (zu (e:=by rw [hacc];rfl))
theorem Ja {b c:Bool} {l m:List Nat} {x y:Int} {k j:Nat} [hx:IsZ b l x k] [hy:IsZ c m y j] (hs:k+j+1100≤cap:=by decide):zp Tryz.prog G 235 [zU 2 id [[zm b,zy l],[zm c,zy m]]] (zl (wS (x+y))):=by
 have h:=zfl (G:=G) (xs:=[(b,l),(c,m)]) (by intro p hp;rcases List.mem_cons.1 hp with rfl | hp;exact hx.lim;rw [List.mem_singleton.1 hp];exact hy.lim) (by have:=hx.len;have:=hy.len;simp only [qY,List.length_cons,List.length_nil,List.take,List.map,List.sum_cons,List.sum_nil];omega)
 have e:[(b,l),(c,m)].foldl (fun z p=>z+zv p) 0=x+y:=by show 0+uj b (val l)+uj c (val m)=_;rw [hx.val,hy.val,Int.zero_add]
 rw [e] at h
 exact h.args ⟨fun I v hv=>ZG [(b,l),(c,m)] hv,trivial⟩
theorem zfm {b c:Bool} {l m:List Nat} {x y:Int} {k j:Nat} [hx:IsZ b l x k] [hy:IsZ c m y j] (hs:k+j+1100≤cap:=by decide):zp Tryz.prog G 175 [zl [zm b,zy l],zl [zm c,zy m]] (zl (wS (x-y))):=by
 have i1:=hx.bz
 have i2:=hy.bz
 refine zs Tryz.func175 ?_;refine zg ?_;refine xg fun b4=>?_;refine zJ ?_;refine zS 5 (by kernel_rfl) ?_;refine zg ?_;refine zo (ze rfl rfl (KN (by omega))) ?_;refine zo (zB rfl rfl (by decide) rfl (by simp) rfl rfl) ?_;refine zo ((ze rfl rfl (Ja hs)).sub (show ∀I v,(zl (wS (x+ -y))).den I v→(zl (wS (x-y))).den I v from fun I v h=>by rw [Int.sub_eq_add_neg];exact h)) ?_;refine zg ?_
 exact zj zt
theorem zfn {xs:List (Bool×List Nat)} (hl:∀ p∈xs,xU p.2) (hs:20*qY xs xs.length+1000≤cap):zp Tryz.prog G 176 [zU 2 zc xs] (zl (wS (xs.foldl (fun z p=>z*zv p) 1))):=by
 unfold cap at hs
 have hps:∀ p∈xs,p.2.length≤cap:=fun p hp=>by
  obtain⟨i,hi⟩:=List.getElem?_of_mem hp
  have h1:=Zn hi
  have h2:=Wq xs (i+1)
  unfold cap;omega
 refine zs Tryz.func176 ?_;refine zr ?_;refine xg fun b2=>?_;refine zx ?_;refine zo (ze rfl rfl (zaG (n:=1) (by decide) (by decide))) ?_;refine xg fun b3=>?_;refine zw ?_;refine zJ ?_;refine zh ?_;refine zr ?_;refine zz ?_;refine zJ ?_;refine zQ ?_;refine wT 0 rfl fun la=>?_
 unfold yP at la
 refine yX (fun (i:Nat) (acc:Int)=>⟨_,[(4,intS .i64 (i:Nat)),(3,eqS (.pointer (some ⟨b3,0,none⟩))),(2,eqS (.pointer (some ⟨b2,0,none⟩))),(0,zU 2 zc xs)],[⟨some b3,37,wS acc,0⟩,⟨some b2,37,[eqS (.bool false),eqS (.slice none 0 0)],0⟩],[],(0,false)⟩)
   (fun i acc=>i≤xs.length∧acc=(xs.take i).foldl (fun z p=>z*zv p) 1∧Bz acc (qY xs i+1)) (fun i acc=>xs.length-i)
   0 1 ⟨Nat.zero_le _,rfl,XT (l:=qY xs 0+1) (show Bz 1 1 from XT (l:=1) inferInstance (by decide)) (by omega)⟩ (zL zk rfl) ?_
 rintro i acc ⟨hi,hacc,hbz⟩
 refine zh ?_;refine zr ?_;(iterate 4 refine zz ?_);refine zJ ?_;refine wE (fun h9=>?_) fun h9=>?_
 ·have k9:=of_decide_eq_true h9
  obtain⟨⟨b,m⟩,hp⟩:∃ p,xs[i]? =some p:=⟨_,List.getElem?_eq_getElem (by omega)⟩
  have hpm:(b,m)∈xs:=List.mem_of_getElem? hp
  have i1:IsZ b m (zv (b,m)) m.length:=KG (hl _ hpm)
  have i2:=i1.bz
  have hsl:=hps _ hpm
  have hs1:=Zn hp
  have hs2:=Wq xs (i+1)
  simp only at hs1 hsl
  have i5:=i1.nat
  have hln:=hbz.len
  have hx:uj b (zv (b,m)).natAbs=zv (b,m):=by show _=uj b (val m);rw [i5.val.symm]
  have i3:IsZ (!(decide (acc<0)==b)) (yz (acc.natAbs*(zv (b,m)).natAbs)) (acc*zv (b,m)) (qY xs i+1+m.length):=⟨xe _,by rw [xq];exact (zgD _ _ _ _).trans (by rw [va,hx]),zK (by have:=(bz_mul (x:=acc) (y:=zv (b,m)) (h:=hbz) (h':=i2)).h;rwa [Int.natAbs_mul] at this)⟩
  refine zE ?_;refine zh ?_;refine zQ ?_;refine Zu 18 (by kernel_rfl) ?_;(iterate 4 refine zz ?_);refine zo (zi rfl rfl rfl (by omega) (y:=(b,m)) (hp)) ?_;refine zo ((show OpOK _ _ _ _ _ (zT [zm b,zy m]) from zX rfl rfl rfl)) ?_;refine zz ?_;refine zo (QK rfl rfl rfl Tryz.isBool4) ?_;(iterate 4 refine zz ?_);refine zo (zi rfl rfl rfl (by omega) (y:=(b,m)) (hp)) ?_;refine zo ((show OpOK _ _ _ _ _ (zT [zy m]) from zX rfl rfl rfl)) ?_;refine zz ?_;refine zo (ze rfl rfl (WR (by unfold cap;omega))) ?_;refine zz ?_;refine zo (ze rfl rfl (wA (by unfold cap;omega))) ?_;refine zJ ?_;refine zw ?_;refine zJ ?_;refine zO ?_;refine zz ?_;refine zA ?_;refine zz ?_;refine zJ ?_
  exact⟨i+1,acc*zv (b,m),⟨by omega,by rw [hacc,vW (fun z p=>z*zv p) 1 hp],XT (bz_mul (h:=hbz) (h':=i2)) (by omega)⟩,by omega,zL (zb rfl (zb rfl (zb rfl (zb rfl (trivial))))) rfl⟩
 ·have k9:=of_decide_eq_false h9
  have hie:i=xs.length:=by omega
  rw [hie,List.take_length] at hacc
  refine zI ?_;refine zr ?_;refine zz ?_;refine zw ?_;refine zJ ?_;refine zj ?_
  exact⟨_,[],.one (.agg 1 inferInstance rfl rfl rfl rfl),List.nil_sublist _,by rw [hacc];rfl,rfl⟩
theorem uK {b c:Bool} {l m:List Nat} {x y:Int} {k j:Nat} [hx:IsZ b l x k] [hy:IsZ c m y j] (hs:20*(k+j)+1100≤cap:=by decide):zp Tryz.prog G 176 [zU 2 id [[zm b,zy l],[zm c,zy m]]] (zl (wS (x*y))):=by
 have h:=zfn (G:=G) (xs:=[(b,l),(c,m)]) (by intro p hp;rcases List.mem_cons.1 hp with rfl | hp;exact hx.lim;rw [List.mem_singleton.1 hp];exact hy.lim) (by have:=hx.len;have:=hy.len;simp only [qY,List.length_cons,List.length_nil,List.take,List.map,List.sum_cons,List.sum_nil];omega)
 have e:[(b,l),(c,m)].foldl (fun z p=>z*zv p) 1=x*y:=by show 1*uj b (val l)*uj c (val m)=_;rw [hx.val,hy.val,Int.one_mul]
 rw [e] at h
 exact h.args ⟨fun I v hv=>ZG [(b,l),(c,m)] hv,trivial⟩
end Go.Proofs
/- Rationals: rat. -/
namespace Go.Proofs
open Go Go.Sv Num
variable {G:Imm}
abbrev zR (q:Rat):List SV:=[zm (decide (q.num<0)),zy (yz q.num.natAbs),zy (yz q.den)]
class Bq (q:Rat) (k:outParam Nat):Prop where
 num:q.num.natAbs<4294967296^k
 den:q.den<4294967296^k
class IsQ (b:Bool) (l d:List Nat) (q:outParam Rat) (k:outParam Nat):Prop where
 lim:xU l
 limd:xU d
 val:mkRat (uj b (Num.val l)) (Num.val d)=q
 len:l.length≤k
 lend:d.length≤k
 pos:0<k
theorem Bq.bz {q:Rat} {k:Nat} (h:Bq q k):Bz q.num k:=⟨h.num⟩
theorem Bq.bd {q:Rat} {k:Nat} (h:Bq q k):Bd q.den k:=⟨h.den⟩
theorem Bq.pos {q:Rat} {k:Nat} (h:Bq q k):0<k:=by
 rcases Nat.eq_zero_or_pos k with e | e
 ·have h1:=h.den;rw [e,Nat.pow_zero] at h1;exact absurd q.den_pos (by omega)
 ·exact e
theorem Bq.lens {q:Rat} {k:Nat} (h:Bq q k):(yz q.num.natAbs).length≤k∧(yz q.den).length≤k:=⟨zK h.num,zK h.den⟩
instance isQ_can {q:Rat} {k:Nat} [h:Bq q k]:IsQ (decide (q.num<0)) (yz q.num.natAbs) (yz q.den) q k:=
 ⟨xe _,xe _,by rw [xq,xq,va,Rat.mkRat_self],h.lens.1,h.lens.2,h.pos⟩
theorem mkRat_le {z:Int} {d:Nat} (hd:d≠0):(mkRat z d).num.natAbs≤z.natAbs∧(mkRat z d).den≤d:=by
 have h1:=zap (b:=decide (z<0)) (a:=z.natAbs) hd
 have h2:=Qi (b:=decide (z<0)) (a:=z.natAbs) hd
 rw [va] at h1 h2
 exact⟨by rw [h1];exact Nat.div_le_self _ _,by rw [h2];exact Nat.div_le_self _ _⟩
theorem Ws {z:Int} {d k:Nat} (hz:z.natAbs<4294967296^k) (hd:d<4294967296^k) (hk:0<k):Bq (mkRat z d) k:=by
 rcases Nat.eq_zero_or_pos d with e | e
 ·rw [e,Rat.mkRat_zero];exact⟨Nat.pow_pos (by decide),Nat.one_lt_pow (by omega) (by decide)⟩
 ·obtain⟨h1,h2⟩:=mkRat_le (z:=z) (d:=d) (by omega)
  exact⟨Nat.lt_of_le_of_lt h1 hz,Nat.lt_of_le_of_lt h2 hd⟩
theorem IsQ.bq {b:Bool} {l d:List Nat} {q:Rat} {k:Nat} (h:IsQ b l d q k):Bq q k:=by
 rw [←h.val]
 exact Ws (by rw [vV];exact Nat.lt_of_lt_of_le (wn h.lim) (Nat.pow_le_pow_right (by decide) h.len)) (Nat.lt_of_lt_of_le (wn h.limd) (Nat.pow_le_pow_right (by decide) h.lend)) h.pos
theorem uU {q:Rat} {k l:Nat} (h:Bq q k) (hl:k≤l):Bq q l:=⟨Nat.lt_of_lt_of_le h.num (Nat.pow_le_pow_right (by decide) hl),Nat.lt_of_lt_of_le h.den (Nat.pow_le_pow_right (by decide) hl)⟩
theorem zbE {x y k:Nat} (h:x<4294967296^k) (h':y<4294967296^k):x+y<4294967296^(k+1):=by
 rw [yZ];exact Nat.lt_of_lt_of_le (Nat.add_lt_add h h') (by rw [←Nat.mul_two];exact Nat.mul_le_mul_left _ (by decide))
theorem YO {p q:Rat} {k j:Nat} (hp:Bq p k) (hq:Bq q j):(p.num*(q.den:Int)).natAbs<4294967296^(k+j)∧(q.num*(p.den:Int)).natAbs<4294967296^(k+j)∧p.den*q.den<4294967296^(k+j):=by
 rw [Int.natAbs_mul,Int.natAbs_mul,Nat.pow_add,Int.natAbs_natCast,Int.natAbs_natCast]
 exact⟨Nat.mul_lt_mul'' hp.num hq.den,by rw [Nat.mul_comm (4294967296^k)];exact Nat.mul_lt_mul'' hq.num hp.den,Nat.mul_lt_mul'' hp.den hq.den⟩
instance bq_add {p q:Rat} {k j:Nat} [hp:Bq p k] [hq:Bq q j]:Bq (p+q) (k+j+1):=by
 obtain⟨h1,h2,h3⟩:=YO hp hq
 rw [Rat.add_def']
 exact Ws (Nat.lt_of_le_of_lt (Int.natAbs_add_le _ _) (zbE h1 h2)) (Nat.lt_of_lt_of_le h3 (Nat.pow_le_pow_right (by decide) (by omega))) (by omega)
instance bq_sub {p q:Rat} {k j:Nat} [hp:Bq p k] [hq:Bq q j]:Bq (p-q) (k+j+1):=by
 obtain⟨h1,h2,h3⟩:=YO hp hq
 rw [Rat.sub_def']
 exact Ws (Nat.lt_of_le_of_lt (Int.natAbs_sub_le _ _) (zbE h1 h2)) (Nat.lt_of_lt_of_le h3 (Nat.pow_le_pow_right (by decide) (by omega))) (by omega)
instance bq_mul {p q:Rat} {k j:Nat} [hp:Bq p k] [hq:Bq q j]:Bq (p*q) (k+j):=by
 rw [Rat.mul_def']
 exact Ws (by rw [Int.natAbs_mul,Nat.pow_add];exact Nat.mul_lt_mul'' hp.num hq.num) (YO hp hq).2.2 (by have:=hp.pos;omega)
instance bq_neg {q:Rat} {k:Nat} [h:Bq q k]:Bq (-q) k:=⟨by rw [Rat.neg_num,Int.natAbs_neg];exact h.num,h.den⟩
instance bq_zero:Bq 0 1:=⟨by decide,by decide⟩
instance bq_one:Bq 1 1:=⟨by decide,by decide⟩
theorem zgM:yz 1=[1]:=by rw [Xp (by decide),show 1/4294967296=0 from rfl,dig_zero]
theorem zm4 {z:Int} {d:Nat} (hd:d≠0):zR (mkRat z d)=[zm (decide (z<0)),zy (yz (z.natAbs/Nat.gcd z.natAbs d)),zy (yz (d/Nat.gcd z.natAbs d))]:=by
 have h1:=zap (b:=decide (z<0)) (a:=z.natAbs) hd
 have h2:=Qi (b:=decide (z<0)) (a:=z.natAbs) hd
 have h3:=zaq (b:=decide (z<0)) (a:=z.natAbs) hd
 rw [va] at h1 h2 h3
 have h4:decide ((mkRat z d).num<0)=decide (z<0):=by
  rw [h3];by_cases h:z<0
  ·rw [decide_eq_true h,Bool.true_and];exact decide_eq_true (by omega)
  ·rw [decide_eq_false h,Bool.false_and]
 show [zm (decide ((mkRat z d).num<0)),zy (yz (mkRat z d).num.natAbs),zy (yz (mkRat z d).den)]=_
 rw [h4,h1,h2]
theorem zkS {z:Int} {d k:Nat} {q:Rat} (hz:z.natAbs<4294967296^k) (hd:d<4294967296^k) (hk:0<k) (hq:mkRat z d=q):IsQ (decide (z<0)) (yz z.natAbs) (yz d) q k:=
 ⟨xe _,xe _,by rw [xq,xq,va,hq],zK hz,zK hd,hk⟩
abbrev qc (p:Bool×List Nat×List Nat):List SV:=[zm p.1,zy p.2.1,zy p.2.2]
def qv (p:Bool×List Nat×List Nat):Rat:=mkRat (uj p.1 (Num.val p.2.1)) (Num.val p.2.2)
def qsz (p:Bool×List Nat×List Nat):Nat:=max p.2.1.length p.2.2.length+1
theorem KO {b:Bool} {l d:List Nat} (h:xU l) (h':xU d):IsQ b l d (qv (b,l,d)) (qsz (b,l,d)):=⟨h,h',rfl,by unfold qsz;simp only;omega,by unfold qsz;simp only;omega,by unfold qsz;omega⟩
def qU (xs:List (Bool×List Nat×List Nat)) (i:Nat):Nat:=((xs.take i).map fun p=>qsz p+1).sum
theorem YP {xs:List (Bool×List Nat×List Nat)} {i:Nat} {p:Bool×List Nat×List Nat} (h:xs[i]? =some p):qU xs (i+1)=qU xs i+(qsz p+1):=by
 unfold qU;exact YK (fun p:Bool×List Nat×List Nat=>qsz p+1) h
theorem Ql (xs:List (Bool×List Nat×List Nat)) (i:Nat):qU xs i≤qU xs xs.length:=by
 have:=Yt (fun p:Bool×List Nat×List Nat=>qsz p+1) xs i
 unfold qU;rw [List.take_length];exact this
def zfo (xs:List (Bool×List Nat×List Nat)):List (List SV):=xs.map fun p=>[zT (zR (qv p))]
theorem Wt {xs:List (Bool×List Nat×List Nat)}:(zfo xs).length=xs.length:=by simp [zfo]
theorem zdt {xs:List (Bool×List Nat×List Nat)} {i:Nat} {ss:List SV} (h:(zfo xs)[i]? =some ss):∃ p,xs[i]? =some p∧ss=[zT (zR (qv p))]:=by
 simp only [zfo,List.getElem?_map,Option.map_eq_some_iff] at h
 obtain⟨p,h1,h2⟩:=h;exact⟨p,h1,h2.symm⟩
theorem zgN {xs:List (Bool×List Nat×List Nat)} {ss:List SV} (h:ss∈zfo xs):ss.length=1:=by
 obtain⟨i,_,rfl⟩:=List.mem_map.1 h;rfl
theorem KP {p q:Rat}:(p.num*(q.den:Int)-q.num*(p.den:Int)).sign=ue p q:=by
 unfold ue
 by_cases h1:p<q
 ·rw [if_pos h1];have:=(Rat.lt_iff p q).1 h1;exact Int.sign_eq_neg_one_of_neg (by omega)
 ·rw [if_neg h1]
  by_cases h2:q<p
  ·rw [if_pos h2];have:=(Rat.lt_iff q p).1 h2;exact Int.sign_eq_one_of_pos (by omega)
  ·rw [if_neg h2]
   have h3:=mt (Rat.lt_iff p q).2 h1
   have h4:=mt (Rat.lt_iff q p).2 h2
   rw [show p.num*(q.den:Int)-q.num*(p.den:Int)=0 by omega];rfl
theorem Yv {l:List Nat}:zp Tryz.prog G 129 [zy l] (zl [zm false,zy l]):=by
 refine zs Tryz.func129 ?_;refine zr ?_;refine xg fun b2=>?_;refine zg ?_
 exact zj zt
theorem Zo {n:Int} {q:Rat} (h1: -9223372036854775808≤n) (h2:n≤9223372036854775807) (hq:(n:Rat)=q:=by rfl):zp Tryz.prog G 86 [intS .i64 n] (zl (zR q)):=by
 refine zs Tryz.func86 ?_;refine zr ?_;refine xg fun b2=>?_;refine zg ?_;refine zf (zds h1 h2) ?_;refine zo (xl [1] rfl rfl (by decide) rfl (by simp) rfl rfl rfl) ?_;refine zg ?_
 exact zj (zu (e:=by rw [←hq];show _=zl [zm (decide (n<0)),zy (yz n.natAbs),zy (yz 1)];rw [zgM];rfl))
theorem Yg [Tab G] {b:Bool} {l d:List Nat} {q:Rat} {k bn:Nat} [h:IsQ b l d q k] (hs:2*k+11000≤cap:=by decide):CallSpec Tryz.prog G 77 [eqS (.pointer (some ⟨bn,0,none⟩))] [⟨some bn,85,[zm b,zy l,zy d],0⟩] (fun s H'=>s=zm (decide (val d≠0))∧H'=[⟨some bn,85,zR q,0⟩]):=by
 have hlen:=h.len
 have hlend:=h.lend
 have hv:=h.val
 have i1:IsNat d (val d):=vT h.limd
 have i2:IsZ b l (uj b (val l)) k:=⟨h.lim,rfl,hlen⟩
 have hz:=i2.bz.len
 obtain⟨z,hze⟩:∃ z,z=uj b (val l):=⟨_,rfl⟩
 rw [←hze] at hv hz i2
 refine zs Tryz.func77 ?_;refine zr ?_;refine zz ?_;refine zJ ?_;refine zh ?_;refine zg ?_;refine zo (ze rfl rfl (xV (by omega))) ?_;refine zg ?_;refine zd (fun _ k10=>?_) fun _ k10=>?_
 ·have hd0:val d=0:=yR.1 (by omega)
  rw [hd0,Rat.mkRat_zero] at hv
  refine zg ?_;refine zo (ze rfl rfl (Zo (n:=0) (q:=q) (by decide) (by decide) (by rw [←hv];rfl))) ?_;refine zg ?_;refine zj ?_
  exact⟨_,[_],.one (.tmp rfl),List.Sublist.refl _,congrArg zm (decide_eq_false (by simp [hd0])).symm,rfl⟩
 ·have hd0:val d≠0:=fun h0=>k10 (by rw [h0,dig_zero];rfl)
  refine zg ?_;refine zo (ze rfl rfl (KI (by omega))) ?_;refine zg ?_;refine Uc 21 _ (by kernel_rfl) rfl (.cons _ .slnil) ?_;refine RunE.one (zG rfl rfl) rfl rfl rfl (by kernel_rfl) ?_;refine RunE.lat (zG rfl rfl) rfl rfl rfl ?_;refine RunE.one (zG rfl rfl) rfl rfl rfl (by kernel_rfl) ?_;refine RunE.one (yT rfl rfl) rfl rfl rfl (by kernel_rfl) ?_;(iterate 3 refine RunE.one (zN rfl rfl rfl) rfl rfl rfl (by kernel_rfl) ?_);refine RunE.one (yn 0 rfl rfl rfl rfl) rfl rfl rfl (by kernel_rfl) ?_;refine RunE.one (zG rfl rfl) rfl rfl rfl (by kernel_rfl) ?_;refine RunE.one (yT rfl rfl) rfl rfl rfl (by kernel_rfl) ?_;(iterate 2 refine RunE.one (zN rfl rfl rfl) rfl rfl rfl (by kernel_rfl) ?_);refine RunE.one (yn 0 rfl rfl rfl rfl) rfl rfl rfl (by kernel_rfl) ?_;refine RunE.one (ze rfl rfl (zc7 (by omega))) rfl rfl rfl (by kernel_rfl) ?_;refine RunE.one (zG rfl rfl) rfl rfl rfl (by kernel_rfl) ?_;refine RunE.one (xo rfl rfl rfl) rfl rfl rfl (by kernel_rfl) ?_;refine RunE.lat (xo rfl rfl rfl) rfl rfl rfl ?_;refine RunE.one (yT rfl rfl) rfl rfl rfl (by kernel_rfl) ?_;(iterate 3 refine RunE.one (zN rfl rfl rfl) rfl rfl rfl (by kernel_rfl) ?_);refine RunE.nil ?_;refine EffAt.store 0 rfl rfl rfl rfl rfl rfl rfl rfl (.cons _ .slnil) ?_;refine zg ?_;refine zj ?_
  exact⟨_,[_],.one (.tmp rfl),List.Sublist.refl _,congrArg zm (decide_eq_true hd0).symm,by rw [←hv,zm4 hd0];rfl⟩
theorem zgO [Tab G] {b:Bool} {l d:List Nat} {q:Rat} {k:Nat} [h:IsQ b l d q k] (hs:2*k+11000≤cap:=by decide):CallSpec Tryz.prog G 53 [zl [zm b,zy l,zy d]] [] (fun s H'=>∃ bn,s=eqS (.pointer (some ⟨bn,0,none⟩))∧H'=[⟨some bn,85,zR q,0⟩]):=by
 refine zs Tryz.func53 ?_;refine zr ?_;(iterate 2 refine zz ?_);refine zx ?_;(iterate 2 refine zz ?_);refine Run.box rfl rfl rfl rfl rfl rfl fun bn=>?_;refine zg ?_;refine Run.call1 0 rfl rfl rfl rfl (Yg hs) rfl rfl rfl ?_
 rintro s1 H1 ⟨rfl,rfl⟩
 refine zg ?_;refine zj ?_
 exact⟨_,[_],.one (.tmp rfl),List.Sublist.refl _,bn,rfl,rfl⟩
theorem Yh [Tab G] {b:Bool} {l d:List Nat} {q:Rat} {k:Nat} [h:IsQ b l d q k] (hs:2*k+11000≤cap:=by decide):zp Tryz.prog G 53 [zl [zm b,zy l,zy d]] (zT (zR q)):=zdq (zgO hs)
theorem vh [Tab G] {b:Bool} {l d:List Nat} {q:Rat} {k:Nat} [h:IsQ b l d q k] (hs:2*k+11000≤cap:=by decide):zp Tryz.prog G 27 [zl [zm b,zy l,zy d]] (zl (zR q)):=by
 refine zs Tryz.func27 ?_;refine zg ?_;refine xg fun b2=>?_;refine zg ?_;refine zf (Yh hs) ?_;refine zg ?_
 exact zj zt
theorem Qm [Tab G] {b:Bool} {l d:List Nat} {q:Rat} {k:Nat} [h:IsQ b l d q k] (hs:2*k+11000≤cap:=by decide):zp Tryz.prog G 26 [zl [zm b,zy l,zy d]] (zl (zR (-q))):=by
 have i1:=h.bq.bz
 refine zs Tryz.func26 ?_;refine zg ?_;refine xg fun b2=>?_;refine zg ?_;refine Run.call0 rfl rfl rfl (zgO hs) rfl rfl rfl ?_
 rintro s1 H1 ⟨bn,rfl,rfl⟩
 refine zg ?_;refine zo (ze rfl rfl (zaF (by omega))) ?_;refine zg ?_
 exact zj zt
theorem wt [Tab G] {b c:Bool} {l d m e:List Nat} {p q:Rat} {k j:Nat} [hx:IsQ b l d p k] [hy:IsQ c m e q j] (hs:100*(k+j)+20000≤cap:=by decide):zp Tryz.prog G 280 [zl [zm b,zy l,zy d],zl [zm c,zy m,zy e]] (intS .i64 (ue p q)):=by
 have hxb:=hx.bq
 have hyb:=hy.bq
 have i1:=hxb.bz
 have i2:=hxb.bd
 have i3:=hyb.bz
 have i4:=hyb.bd
 refine zs Tryz.func280 ?_;refine zg ?_;refine zS 6 (by kernel_rfl) ?_;refine zz ?_;refine zo (ze rfl rfl (Yh (by omega))) ?_;refine zz ?_;refine zo (ze rfl rfl (Yh (by omega))) ?_;refine zg ?_;refine zS 28 (by kernel_rfl) ?_;refine zg ?_;refine zf Yv ?_;refine zo (zB rfl rfl (by decide) rfl (by simp) rfl rfl) ?_;refine zo (ze rfl rfl (Zc (by omega))) ?_;refine zg ?_;refine zf Yv ?_;refine zo (zB rfl rfl (by decide) rfl (by simp) rfl rfl) ?_;refine zo (ze rfl rfl (Zc (by omega))) ?_;refine zo ((ze rfl rfl (ziz (by omega))).sub (zD KP)) ?_;refine zg ?_
 exact zj zt
theorem zfp [Tab G] {p q:Rat} {bn k j:Nat} [hx:Bq p k] [hy:Bq q j] (hs:100*(k+j)+15000≤cap:=by decide):CallSpec Tryz.prog G 88 [eqS (.pointer (some ⟨bn,0,none⟩)),zT (zR q)] [⟨some bn,85,zR p,0⟩] (fun s H'=>s=xn []∧H'=[⟨some bn,85,zR (p+q),0⟩]):=by
 have i1:=hx.bz
 have i2:=hx.bd
 have i3:=hy.bz
 have i4:=hy.bd
 obtain⟨g1,g2,g3⟩:=YO hx hy
 have i5:IsQ (decide (p.num*(q.den:Int)+q.num*(p.den:Int)<0)) (yz (p.num*(q.den:Int)+q.num*(p.den:Int)).natAbs) (yz (p.den*q.den)) (p+q) (k+j+1):=zkS (Nat.lt_of_le_of_lt (Int.natAbs_add_le _ _) (zbE g1 g2)) (Nat.lt_of_lt_of_le g3 (Nat.pow_le_pow_right (by decide) (by omega))) (by omega) (Rat.add_def' p q).symm
 refine zs Tryz.func88 ?_;refine zS 32 (by kernel_rfl) ?_;refine zg ?_;refine zf Yv ?_;refine zo (zB rfl rfl (by decide) rfl (by simp) rfl rfl) ?_;refine zo (ze rfl rfl (Zc (by omega))) ?_;refine zg ?_;refine zf Yv ?_;refine zo (zB rfl rfl (by decide) rfl (by simp) rfl rfl) ?_;refine zo (ze rfl rfl (Zc (by omega))) ?_;refine zo (zB rfl rfl (by decide) rfl (by simp) rfl rfl) ?_;refine zo (ze rfl rfl (KM (by omega))) ?_;refine zg ?_;refine zS 15 (by kernel_rfl) ?_;refine zg ?_;refine zo (ze rfl rfl (Ui (by omega))) ?_;refine zg ?_;refine Run.call1 0 rfl rfl rfl rfl (Yg (by omega)) rfl rfl rfl ?_
 rintro s1 H1 ⟨rfl,rfl⟩
 refine zJ ?_
 exact⟨_,[_],.none,List.Sublist.refl _,rfl,rfl⟩
theorem zfq [Tab G] {p q:Rat} {bn k j:Nat} [hx:Bq p k] [hy:Bq q j] (hs:100*(k+j)+15000≤cap:=by decide):CallSpec Tryz.prog G 475 [eqS (.pointer (some ⟨bn,0,none⟩)),zT (zR q)] [⟨some bn,85,zR p,0⟩] (fun s H'=>s=xn []∧H'=[⟨some bn,85,zR (p*q),0⟩]):=by
 have i1:=hx.bz
 have i2:=hx.bd
 have i3:=hy.bz
 have i4:=hy.bd
 have i5:IsQ (decide (p.num*q.num<0)) (yz (p.num*q.num).natAbs) (yz (p.den*q.den)) (p*q) (k+j):=zkS (by rw [Int.natAbs_mul,Nat.pow_add];exact Nat.mul_lt_mul'' hx.num hy.num) (YO hx hy).2.2 (by have:=hx.pos;omega) (Rat.mul_def' p q).symm
 refine zs Tryz.func475 ?_;refine Uc 28 _ (by kernel_rfl) rfl (.cons _ .slnil) ?_;refine RunE.one (zG rfl rfl) rfl rfl rfl (by kernel_rfl) ?_;refine RunE.lat (zG rfl rfl) rfl rfl rfl ?_;refine RunE.one (zG rfl rfl) rfl rfl rfl (by kernel_rfl) ?_;refine RunE.one (yT rfl rfl) rfl rfl rfl (by kernel_rfl) ?_;(iterate 2 refine RunE.one (zN rfl rfl rfl) rfl rfl rfl (by kernel_rfl) ?_);refine RunE.one (zC 0 rfl rfl rfl rfl rfl) rfl rfl rfl (by kernel_rfl) ?_;refine RunE.one (zG rfl rfl) rfl rfl rfl (by kernel_rfl) ?_;refine RunE.one (uI rfl rfl) rfl rfl rfl (by kernel_rfl) ?_;(iterate 2 refine RunE.one (zX rfl rfl rfl) rfl rfl rfl (by kernel_rfl) ?_);refine RunE.one (zF rfl rfl rfl rfl) rfl rfl rfl (by kernel_rfl) ?_;refine RunE.one (zB rfl rfl (by decide) rfl (by simp) rfl rfl) rfl rfl rfl (by kernel_rfl) ?_;refine RunE.one (ze rfl rfl (Zc (by omega))) rfl rfl rfl (by kernel_rfl) ?_;refine RunE.one (zG rfl rfl) rfl rfl rfl (by kernel_rfl) ?_;refine RunE.one (yT rfl rfl) rfl rfl rfl (by kernel_rfl) ?_;(iterate 2 refine RunE.one (zN rfl rfl rfl) rfl rfl rfl (by kernel_rfl) ?_);refine RunE.one (yn 0 rfl rfl rfl rfl) rfl rfl rfl (by kernel_rfl) ?_;refine RunE.one (zG rfl rfl) rfl rfl rfl (by kernel_rfl) ?_;refine RunE.one (uI rfl rfl) rfl rfl rfl (by kernel_rfl) ?_;(iterate 2 refine RunE.one (zX rfl rfl rfl) rfl rfl rfl (by kernel_rfl) ?_);refine RunE.one (yN rfl rfl) rfl rfl rfl (by kernel_rfl) ?_;refine RunE.one (ze rfl rfl (Ui (by omega))) rfl rfl rfl (by kernel_rfl) ?_;refine RunE.one (yT rfl rfl) rfl rfl rfl (by kernel_rfl) ?_;(iterate 2 refine RunE.one (zN rfl rfl rfl) rfl rfl rfl (by kernel_rfl) ?_);refine RunE.nil ?_;refine EffAt.store 0 rfl rfl rfl rfl rfl rfl rfl rfl (.cons _ .slnil) ?_;refine zg ?_;refine Run.call1 0 rfl rfl rfl rfl (Yg (by omega)) rfl rfl rfl ?_
 rintro s1 H1 ⟨rfl,rfl⟩
 refine zJ ?_
 exact⟨_,[_],.none,List.Sublist.refl _,rfl,rfl⟩
theorem KQ [Tab G] {xs:List (Bool×List Nat×List Nat)} (hl:∀ p∈xs,xU p.2.1∧xU p.2.2) (hs:∀ p∈xs,2*qsz p+11000≤cap):IterSpec Tryz.prog G 126 [zT [zU 3 qc xs]] (zfo xs):=by
 refine xH Tryz.func126 rfl rfl rfl rfl fun l E hy=>?_;refine zr ?_;(iterate 3 refine zz ?_);refine zJ ?_;refine zQ ?_;refine wT 5 rfl fun la=>?_
 unfold yP at la
 refine yK (γ:=Nat) (fun g=>⟨_,[(7,intS .i64 (g:Nat)),(6,intS .i64 xs.length),(5,zU 3 qc xs),(0,yieldS l),(1,zT [zU 3 qc xs])],[],[],(g,false)⟩) (fun g=>g≤xs.length) (fun g=>xs.length-g) 0 (Nat.zero_le _) (yo zk) ?_
 intro g hg
 refine zr ?_;refine zz ?_;refine zJ ?_;refine zh ?_;refine zd (fun _ k8=>?_) fun _ k8=>?_
 ·obtain⟨⟨b,ml,md⟩,hp⟩:∃ p,xs[g]? =some p:=⟨_,List.getElem?_eq_getElem (by omega)⟩
  have hpm:(b,ml,md)∈xs:=List.mem_of_getElem? hp
  have i1:IsQ b ml md (qv (b,ml,md)) (qsz (b,ml,md)):=KO (hl _ hpm).1 (hl _ hpm).2
  have hsl:=hs _ hpm
  refine zE ?_;refine zh ?_;refine zg ?_;refine zo (zi rfl rfl rfl (by omega) (y:=(b,ml,md)) (hp)) ?_;refine zz ?_;refine xg fun b4=>?_;refine zg ?_;refine zf (Yh hsl) ?_;refine Run.yield rfl hy rfl rfl rfl (by simp only [zfo,List.getElem?_map,hp];rfl) (xi _) rfl rfl rfl fun y=>?_;refine zg ?_;refine wE (fun h15=>?_) fun h15=>?_
  ·refine zj ?_
   exact⟨.inl rfl,.inr h15⟩
  ·refine zE ?_;refine zP (zY (h':=[]) (List.nil_sublist _)) ?_;refine zO ?_;refine za ((g+1:Nat):Int) ?_;refine zg ?_
   exact⟨g+1,(by omega:g+1≤xs.length),by omega,rfl,zb rfl (zb rfl (zb rfl (zb rfl (zb rfl (trivial))))),xp _,rfl,by simp only;rw [h15]⟩
 ·refine zI ?_
  exact⟨.inr rfl,.inl (by rw [Wt,show g=xs.length by omega])⟩
theorem zaI {xs:List (Bool×List Nat×List Nat)}:zp Tryz.prog G 87 [zU 3 qc xs] (wp 126 [zT [zU 3 qc xs]]):=by
 refine zs Tryz.func87 ?_;refine zg ?_
 exact zj zt
theorem ziA [Tab G] {xs:List (Bool×List Nat×List Nat)} (hl:∀ p∈xs,xU p.2.1∧xU p.2.2) (hs:100*qU xs xs.length+18000≤cap+400):zp Tryz.prog G 64 [zU 3 qc xs] (zl (zR (xs.foldl (fun z p=>z+qv p) 0))):=by
 unfold cap at hs
 have hps:∀ p∈xs,2*qsz p+11000≤cap:=fun p hp=>by
  obtain⟨i,hi⟩:=List.getElem?_of_mem hp
  have h1:=YP hi
  have h2:=Ql xs (i+1)
  unfold cap;omega
 refine zs Tryz.func64 ?_;refine zr ?_;refine xg fun b2=>?_;refine zx ?_;refine zo (ze rfl rfl (Zo (n:=0) (q:=0) (by decide) (by decide))) ?_;refine zz ?_;refine Run.box rfl rfl rfl rfl rfl rfl fun bn=>?_;refine xg fun b3=>?_;refine zw ?_;refine zJ ?_;refine zh ?_;refine zg ?_;refine zf zaI ?_;refine zg ?_
 refine ul rfl rfl (KQ hl hps) (fun ss h=>zgN h) (by decide) rfl
   (fun k h i=>i=(0,false)∧k≤xs.length∧Bq ((xs.take k).foldl (fun z p=>z+qv p) 0) (qU xs k+1)∧h=[⟨some b3,81,[eqS (.pointer (some ⟨bn,0,none⟩))],0⟩,⟨some bn,85,zR ((xs.take k).foldl (fun z p=>z+qv p) 0),0⟩,⟨some b2,39,[eqS (.bool false),eqS (.slice none 0 0),eqS (.slice none 0 0)],0⟩])
   (fun _ _ _=>False) ⟨rfl,Nat.zero_le _,by rw [List.take_zero];exact uU (l:=qU xs 0+1) (show Bq 0 1 from inferInstance) (by omega),rfl⟩ ?_ ?_ ?_
 ·rintro l k ss h i hk ⟨rfl,_,hbz,rfl⟩
  obtain⟨p,hp,rfl⟩:=zdt hk
  have hlt:=yt hp
  obtain⟨acc,hacc⟩:∃ acc,acc=(xs.take k).foldl (fun z p=>z+qv p) 0:=⟨_,rfl⟩
  have hfs:=vW (fun z p=>z+qv p) 0 hp
  have hs1:=YP hp
  have hs2:=Ql xs (k+1)
  rw [←hacc] at hbz hfs ⊢
  have hpm:=List.mem_of_getElem? hp
  have i2:Bq (qv p) (qsz p):=(KO (b:=p.1) (hl p hpm).1 (hl p hpm).2).bq
  refine zO ?_;refine zz ?_;refine zJ ?_
  refine⟨rfl,?_⟩
  refine zg ?_;refine Run.call1 1 rfl rfl rfl rfl (zfp (by unfold cap;omega)) rfl rfl rfl ?_
  rintro s1 H1 ⟨rfl,rfl⟩
  refine zJ ?_
  refine⟨rfl,by omega,?_,by rw [hfs];rfl⟩
  rw [hfs,hs1];exact uU (bq_add (hp:=hbz) (hq:=i2)) (by omega)
 ·rintro h i D ⟨rfl,_,hbz,rfl⟩
  rw [Wt,List.take_length]
  refine zg ?_
  exact zj zt
 ·intro h i D e c hc hInv;exact hInv.elim
theorem uD [Tab G] {b c:Bool} {l d m e:List Nat} {p q:Rat} {k j:Nat} [hx:IsQ b l d p k] [hy:IsQ c m e q j] (hs:100*(k+j)+20000≤cap:=by decide):zp Tryz.prog G 64 [zU 3 id [[zm b,zy l,zy d],[zm c,zy m,zy e]]] (zl (zR (p+q))):=by
 have h:=ziA (G:=G) (xs:=[(b,l,d),(c,m,e)]) (by intro x hp;rcases List.mem_cons.1 hp with rfl | hp;exact⟨hx.lim,hx.limd⟩;rw [List.mem_singleton.1 hp];exact⟨hy.lim,hy.limd⟩) (by have:=hx.len;have:=hy.len;have:=hx.lend;have:=hy.lend;have:=hx.pos;have:=hy.pos;simp only [qU,qsz,List.length_cons,List.length_nil,List.take,List.map,List.sum_cons,List.sum_nil];omega)
 have ee:[(b,l,d),(c,m,e)].foldl (fun z p=>z+qv p) 0=p+q:=by show 0+mkRat (uj b (val l)) (val d)+mkRat (uj c (val m)) (val e)=_;rw [hx.val,hy.val,Rat.zero_add]
 rw [ee] at h
 exact h.args ⟨fun I v hv=>ZG [(b,l,d),(c,m,e)] hv,trivial⟩
theorem ziB [Tab G] {xs:List (Bool×List Nat×List Nat)} (hl:∀ p∈xs,xU p.2.1∧xU p.2.2) (hs:100*qU xs xs.length+18000≤cap+400):zp Tryz.prog G 425 [zU 3 qc xs] (zl (zR (xs.foldl (fun z p=>z*qv p) 1))):=by
 unfold cap at hs
 have hps:∀ p∈xs,2*qsz p+11000≤cap:=fun p hp=>by
  obtain⟨i,hi⟩:=List.getElem?_of_mem hp
  have h1:=YP hi
  have h2:=Ql xs (i+1)
  unfold cap;omega
 refine zs Tryz.func425 ?_;refine zr ?_;refine xg fun b2=>?_;refine zx ?_;refine zo (ze rfl rfl (Zo (n:=1) (q:=1) (by decide) (by decide))) ?_;refine zz ?_;refine Run.box rfl rfl rfl rfl rfl rfl fun bn=>?_;refine xg fun b3=>?_;refine zw ?_;refine zJ ?_;refine zh ?_;refine zg ?_;refine zf zaI ?_;refine zg ?_
 refine ul rfl rfl (KQ hl hps) (fun ss h=>zgN h) (by decide) rfl
   (fun k h i=>i=(0,false)∧k≤xs.length∧Bq ((xs.take k).foldl (fun z p=>z*qv p) 1) (qU xs k+1)∧h=[⟨some b3,81,[eqS (.pointer (some ⟨bn,0,none⟩))],0⟩,⟨some bn,85,zR ((xs.take k).foldl (fun z p=>z*qv p) 1),0⟩,⟨some b2,39,[eqS (.bool false),eqS (.slice none 0 0),eqS (.slice none 0 0)],0⟩])
   (fun _ _ _=>False) ⟨rfl,Nat.zero_le _,by rw [List.take_zero];exact uU (l:=qU xs 0+1) (show Bq 1 1 from inferInstance) (by omega),rfl⟩ ?_ ?_ ?_
 ·rintro l k ss h i hk ⟨rfl,_,hbz,rfl⟩
  obtain⟨p,hp,rfl⟩:=zdt hk
  have hlt:=yt hp
  obtain⟨acc,hacc⟩:∃ acc,acc=(xs.take k).foldl (fun z p=>z*qv p) 1:=⟨_,rfl⟩
  have hfs:=vW (fun z p=>z*qv p) 1 hp
  have hs1:=YP hp
  have hs2:=Ql xs (k+1)
  rw [←hacc] at hbz hfs ⊢
  have hpm:=List.mem_of_getElem? hp
  have i2:Bq (qv p) (qsz p):=(KO (b:=p.1) (hl p hpm).1 (hl p hpm).2).bq
  refine zO ?_;refine zz ?_;refine zJ ?_
  refine⟨rfl,?_⟩
  refine zg ?_;refine Run.call1 1 rfl rfl rfl rfl (zfq (by unfold cap;omega)) rfl rfl rfl ?_
  rintro s1 H1 ⟨rfl,rfl⟩
  refine zJ ?_
  refine⟨rfl,by omega,?_,by rw [hfs];rfl⟩
  rw [hfs,hs1];exact uU (bq_mul (hp:=hbz) (hq:=i2)) (by omega)
 ·rintro h i D ⟨rfl,_,hbz,rfl⟩
  rw [Wt,List.take_length]
  refine zg ?_
  exact zj zt
 ·intro h i D e c hc hInv;exact hInv.elim
theorem Yi [Tab G] {b c:Bool} {l d m e:List Nat} {p q:Rat} {k j:Nat} [hx:IsQ b l d p k] [hy:IsQ c m e q j] (hs:100*(k+j)+20000≤cap:=by decide):zp Tryz.prog G 425 [zU 3 id [[zm b,zy l,zy d],[zm c,zy m,zy e]]] (zl (zR (p*q))):=by
 have h:=ziB (G:=G) (xs:=[(b,l,d),(c,m,e)]) (by intro x hp;rcases List.mem_cons.1 hp with rfl | hp;exact⟨hx.lim,hx.limd⟩;rw [List.mem_singleton.1 hp];exact⟨hy.lim,hy.limd⟩) (by have:=hx.len;have:=hy.len;have:=hx.lend;have:=hy.lend;have:=hx.pos;have:=hy.pos;simp only [qU,qsz,List.length_cons,List.length_nil,List.take,List.map,List.sum_cons,List.sum_nil];omega)
 have ee:[(b,l,d),(c,m,e)].foldl (fun z p=>z*qv p) 1=p*q:=by show 1*mkRat (uj b (val l)) (val d)*mkRat (uj c (val m)) (val e)=_;rw [hx.val,hy.val,Rat.one_mul]
 rw [ee] at h
 exact h.args ⟨fun I v hv=>ZG [(b,l,d),(c,m,e)] hv,trivial⟩
theorem uL [Tab G] {b c:Bool} {l d m e:List Nat} {p q:Rat} {k j:Nat} [hx:IsQ b l d p k] [hy:IsQ c m e q j] (hs:100*(k+j)+20000≤cap:=by decide):zp Tryz.prog G 301 [zl [zm b,zy l,zy d],zl [zm c,zy m,zy e]] (zl (zR (p-q))):=by
 have i1:=hx.bq
 have i2:=hy.bq
 refine zs Tryz.func301 ?_;refine zg ?_;refine xg fun b4=>?_;refine zJ ?_;refine zS 5 (by kernel_rfl) ?_;refine zg ?_;refine zo (ze rfl rfl (Qm (by omega))) ?_;refine zo (zB rfl rfl (by decide) rfl (by simp) rfl rfl) ?_;refine zo ((ze rfl rfl (uD hs)).sub (show ∀I v,(zl (zR (p+ -q))).den I v→(zl (zR (p-q))).den I v from fun I v h=>by rw [Rat.sub_eq_add_neg];exact h)) ?_;refine zg ?_
 exact zj zt
end Go.Proofs
