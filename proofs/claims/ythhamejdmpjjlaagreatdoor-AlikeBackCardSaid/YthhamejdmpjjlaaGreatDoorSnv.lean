/- Rationals: straitref07. -/
import Derived.Test.YthhamejdmpjjlaaGreatDoorSns
import Derived.Test.YthhamejdmpjjlaaGreatDoorSv1
import Derived.Test.YthhamejdmpjjlaaGreatDoorSsc
import Derived.Test.YthhamejdmpjjlaaGreatDoorRows
import Derived.ChangeMaps5
import Derived.Lib.LaidU8
import Derived.Lay
import Derived.Shelf.Vars
namespace Go.Proofs
open Go Go.Sv Num
variable {G:Imm}
theorem Wu {p q:Rat}:(ue p q==0)=decide (p=q):=by
 unfold ue
 by_cases h1:p<q
 ·rw [if_pos h1,decide_eq_false (fun h=>Rat.lt_irrefl (h▸h1))];rfl
 ·rw [if_neg h1]
  by_cases h2:q<p
  ·rw [if_pos h2,decide_eq_false (fun h=>Rat.lt_irrefl (h▸h2))];rfl
  ·rw [if_neg h2,decide_eq_true (Rat.le_antisymm (Rat.not_lt.1 h2) (Rat.not_lt.1 h1))];rfl
theorem zdu {q:Rat}:q.num.sign=ue q 0:=by
 rw [←KP];simp
theorem zfr {z:Int} {d:Nat} (hd:d≠0):(mkRat z d).num.sign=z.sign:=by
 have h3:=WS (b:=decide (z<0)) (a:=z.natAbs) hd
 have h4:=zaq (b:=decide (z<0)) (a:=z.natAbs) hd
 have h5:(mkRat z d).num=0↔z=0:=by
  rw [Rat.num_eq_zero];exact Rat.mkRat_eq_zero hd
 rw [va] at h4
 by_cases hz:z<0
 ·have h6:(mkRat z d).num<0:=by
   rw [decide_eq_true hz,Bool.true_and,decide_eq_true (show z.natAbs≠0 by omega)] at h4;exact of_decide_eq_true h4
  rw [Int.sign_eq_neg_one_of_neg hz,Int.sign_eq_neg_one_of_neg h6]
 ·have h6:¬ (mkRat z d).num<0:=by
   rw [decide_eq_false hz,Bool.false_and] at h4;exact of_decide_eq_false h4
  by_cases h0:z=0
  ·rw [h0,Rat.zero_mkRat];rfl
  ·rw [Int.sign_eq_one_of_pos (by omega),Int.sign_eq_one_of_pos (by have:=mt h5.1 h0;omega)]
theorem zoU (q:Rat):q⁻¹=mkRat (uj (decide (q.num<0)) q.den) q.num.natAbs:=by
 rw [Rat.inv_def]
 obtain⟨n,hn⟩:∃ n,n=q.num:=⟨_,rfl⟩
 rw [←hn]
 rcases Int.lt_or_le n 0 with h | h
 ·obtain⟨m,rfl⟩:∃ m:Nat,n= -(m:Int):=⟨n.natAbs,by omega⟩
  rw [Rat.divInt_neg',Rat.divInt_ofNat,decide_eq_true h,Int.natAbs_neg,Int.natAbs_natCast];rfl
 ·obtain⟨m,rfl⟩:∃ m:Nat,n=(m:Int):=⟨n.natAbs,by omega⟩
  rw [Rat.divInt_ofNat,decide_eq_false (by omega),Int.natAbs_natCast];rfl
theorem zfs (p q:Rat):mkRat (p.num*uj (decide (q.num<0)) q.den) (p.den*q.num.natAbs)=p/q:=by
 rw [Rat.div_def,zoU q,←Rat.mkRat_mul_mkRat,Rat.mkRat_self]
instance bq_div {p q:Rat} {k j:Nat} [hp:Bq p k] [hq:Bq q j]:Bq (p/q) (k+j):=by
 rw [←zfs]
 exact Ws (by rw [Int.natAbs_mul,vV,Nat.pow_add];exact Nat.mul_lt_mul'' hp.num hq.den) (by rw [Nat.pow_add];exact Nat.mul_lt_mul'' hp.den hq.num) (by have:=hp.pos;omega)
theorem IsQ.z {b:Bool} {l d:List Nat} {q:Rat} {k:Nat} (h:IsQ b l d q k):IsZ b l (uj b (Num.val l)) k:=⟨h.lim,rfl,h.len⟩
theorem Xw {l:List Nat}:zp Tryz.prog G 177 [zy l] (zl [zm false,zy l]):=by
 refine zs Tryz.func177 ?_;refine zr ?_;refine xg fun b2=>?_;refine zg ?_
 exact zj zt
theorem YQ {n:Int} {q:Rat} (h1: -9223372036854775808≤n) (h2:n≤9223372036854775807) (hq:(n:Rat)=q:=by rfl):zp Tryz.prog G 65 [intS .i64 n] (zl (zR q)):=by
 refine zs Tryz.func65 ?_;refine zr ?_;refine xg fun b2=>?_;refine zg ?_;refine zf (zaG h1 h2) ?_;refine zo (xl [1] rfl rfl (by decide) rfl (by simp) rfl rfl rfl) ?_;refine zg ?_
 exact zj (zu (e:=by rw [←hq];show _=zl [zm (decide (n<0)),zy (yz n.natAbs),zy (yz 1)];rw [zgM];rfl))
theorem WX {b:Bool} {l d:List Nat} {z:Int} {n k j:Nat} [h:IsZ b l z k] [hd:IsNat d n] [hk:Sz d j] (hs:64*max k j+2000≤131072:=by decide):zp Tryz.prog G 73 [zl [zm b,zy l],zy d] (xn [zl (zR (mkRat z n)),intS .i64 (if n=0 then 30 else 0)]):=by
 have hlen:=h.len
 have hlend:=hk.h
 have hb:=h.bz.len
 refine zs Tryz.func73 ?_;refine zr ?_;refine Run.box rfl rfl rfl rfl rfl rfl fun b2=>?_;refine xg fun b4=>?_;refine zz ?_;refine zJ ?_;refine zh ?_;refine zg ?_;refine zo (ze rfl rfl (xE (by unfold cap;omega))) ?_;refine zg ?_;refine zd (fun _ k21=>?_) fun _ k21=>?_
 ·have hn0:n=0:=yR.1 (by omega)
  refine zr ?_;refine zo (ze rfl rfl (YQ (n:=0) (q:=mkRat z n) (by decide) (by decide) (by rw [hn0,Rat.mkRat_zero];rfl))) ?_;refine zg ?_
  exact zj (zu (e:=by rw [if_pos hn0];rfl))
 ·have hn0:n≠0:=fun h0=>k21 (by rw [h0,dig_zero];rfl)
  have hnp:=Nat.pos_of_ne_zero hn0
  obtain⟨x,hx⟩:∃ x,x=z.natAbs:=⟨_,rfl⟩
  obtain⟨g,hg⟩:∃ g,g=Nat.gcd x n:=⟨_,rfl⟩
  have hg0:0<g:=by rw [hg];exact Nat.gcd_pos_of_pos_right _ hnp
  have hqn:=WS (b:=decide (z<0)) (a:=z.natAbs) hn0
  have hqd:=Qi (b:=decide (z<0)) (a:=z.natAbs) hn0
  rw [va,←hx,←hg] at hqn hqd
  obtain⟨q,hq⟩:∃ q,q=mkRat z n:=⟨_,rfl⟩
  rw [←hq] at hqn hqd ⊢
  have hxg:x/g≤x:=Nat.div_le_self _ _
  have hng:n/g≤n:=Nat.div_le_self _ _
  have hxl:x<4294967296^k:=by rw [hx];exact h.bz.h
  have i1:IsZ (decide (z<0)) (yz (x/g)) q.num k:=⟨xe _,by rw [xq,hqn],zK (Nat.lt_of_le_of_lt hxg hxl)⟩
  refine zg ?_;refine zo (ze rfl rfl (wA (by unfold cap;omega))) ?_;refine zg ?_;refine zo (ze rfl rfl (QU (by unfold cap;omega))) ?_;refine zg ?_;refine zo (ze rfl rfl (QU (by unfold cap;omega))) ?_;(iterate 5 refine zz ?_);refine zJ ?_;refine xS (K:=fun S1=>Ent S1 (⟨82,[(5,intS .i64 0),(4,eqS (.pointer (some ⟨b4,0,none⟩))),(2,eqS (.pointer (some ⟨b2,0,none⟩))),(1,zy d)],[⟨some b4,39,[eqS (.bool false),eqS (.slice none 0 0),eqS (.slice none 0 0)],0⟩,⟨some b2,37,wS z,0⟩],[],(0,false)⟩)) ?_ ?_
  ·refine zr ?_
   refine Run.oneB (zG rfl rfl) rfl rfl rfl (fun h6_0=>?_) (fun h6_0=>?_)
   ·refine zg ?_;refine wE (fun h39=>?_) fun h39=>?_
    ·have hx64:x<18446744073709551616:=by rw [hx];exact of_decide_eq_true h6_0
     have hn64:n<18446744073709551616:=of_decide_eq_true h39
     refine zr ?_;refine zo ((zG rfl rfl).sub (zD (n:=((x:Nat):Int)) (by rw [←hx,if_pos hx64]))) ?_;refine zo ((zG rfl rfl).sub (zD (n:=((n:Nat):Int)) (if_pos hn64))) ?_;refine zo ((ze rfl rfl (zc8 hx64 hn64)).sub (zD (n:=((g:Nat):Int)) (by rw [hg]))) ?_;refine zg ?_;refine zS 13 (by kernel_rfl) ?_;(iterate 2 refine zz ?_);refine zo ((zG rfl rfl).sub (zD (n:=((x:Nat):Int)) (by rw [←hx,if_pos hx64]))) ?_;refine zz ?_;refine zo ((wU rfl rfl rfl (by omega) (by omega) (by have:=Nat.div_le_self x g;rw [←Int.natCast_ediv];exact xf (Int.natCast_nonneg _) (by omega))).sub (zD (n:=((x/g:Nat):Int)) (Int.natCast_ediv _ _).symm)) ?_;refine zo (ze rfl rfl (Ug (by omega))) ?_;refine zz ?_;refine zo (ze rfl rfl (wA (by unfold cap;omega))) ?_;refine zo ((zG rfl rfl).sub (zD (n:=((n:Nat):Int)) (if_pos hn64))) ?_;refine zz ?_;refine zo ((wU rfl rfl rfl (by omega) (by omega) (by have:=Nat.div_le_self n g;rw [←Int.natCast_ediv];exact xf (Int.natCast_nonneg _) (by omega))).sub (zD (n:=((n/g:Nat):Int)) (Int.natCast_ediv _ _).symm)) ?_;refine zo (ze rfl rfl (Ug (by omega))) ?_;refine zg ?_
     exact zj (zu (e:=by rw [if_neg hn0,←hqd];rfl))
    ·refine zE ?_
     exact zL zk rfl
   ·refine zg ?_;refine yM rfl rfl ?_;refine zE ?_
    exact zL zk rfl
  ·intro S1 hS1
   refine wG hS1 ?_;refine zg ?_;refine zo ((ze rfl rfl (zik (by omega))).sub (show ∀I v,(zy (yz (Nat.gcd z.natAbs n))).den I v→(zy (yz g)).den I v from fun I v h=>by rw [←hx,←hg] at h;exact h)) ?_
   have hgl:(yz g).length≤j:=zK (Nat.lt_of_le_of_lt (by rw [hg];exact Nat.gcd_le_right _ hnp) (by have h1:=wn hd.lim;rw [hd.val] at h1;exact Nat.lt_of_lt_of_le h1 (Nat.pow_le_pow_right (by decide) hlend)))
   refine zg ?_;refine zo (ze rfl rfl (zas (by unfold cap;omega) (by unfold cap;omega))) ?_;refine zz ?_;refine zo ((xo rfl rfl rfl).sub (show ∀I v,(zy (yz (z.natAbs/g))).den I v→(zy (yz (x/g))).den I v from fun I v h=>by rw [←hx] at h;exact h)) ?_;refine zg ?_;refine zo (ze rfl rfl (zas (by unfold cap;omega) (by unfold cap;omega))) ?_;refine zg ?_;refine zo (ze rfl rfl (wA (by unfold cap;omega))) ?_;refine zg ?_
   exact zj (zu (e:=by rw [if_neg hn0,←hqd];rfl))
theorem zft {b:Bool} {l d:List Nat} {q:Rat} {k:Nat} [h:IsQ b l d q k] (hs:64*k+2000≤131072:=by decide):zp Tryz.prog G 73 [zl [zm b,zy l],zy d] (xn [zl (zR q),intS .i64 (if val d=0 then 30 else 0)]):=by
 have i1:=h.z
 have i2:IsNat d (val d):=vT h.limd
 have i3:Sz d k:=⟨h.lend⟩
 have:=WX (G:=G) (b:=b) (l:=l) (d:=d) (z:=uj b (val l)) (n:=val d) (k:=k) (j:=k) (by omega)
 rw [h.val] at this;exact this
theorem vb {b:Bool} {l d:List Nat} {q:Rat} {k:Nat} [h:IsQ b l d q k] (hs:64*k+2000≤131072:=by decide):zp Tryz.prog G 49 [zl [zm b,zy l,zy d]] (zl (zR q)):=by
 refine zs Tryz.func49 ?_;refine zg ?_;refine xg fun b2=>?_;refine zg ?_;refine zf (zft hs) ?_;refine zg ?_;refine xg fun b3=>?_;refine zg ?_
 exact zj zt
theorem Wv {b:Bool} {l d:List Nat} {q:Rat} {k:Nat} [h:IsQ b l d q k] (hs:64*k+2000≤131072:=by decide):zp Tryz.prog G 118 [zl [zm b,zy l,zy d]] (intS .i64 (ue q 0)):=by
 have i1:=h.z
 have i2:IsNat d (val d):=vT h.limd
 have hlend:=h.lend
 have hv:=h.val
 rw [←zdu]
 refine zs Tryz.func118 ?_;refine zr ?_;(iterate 2 refine zz ?_);refine zJ ?_;refine zh ?_;refine zg ?_;refine zo (ze rfl rfl (xE (by unfold cap;omega))) ?_;refine zg ?_;refine zd (fun _ k7=>?_) fun _ k7=>?_
 ·have hd0:val d=0:=yR.1 (by omega)
  rw [hd0,Rat.mkRat_zero] at hv
  refine zg ?_
  exact zj (zu (e:=by rw [←hv];rfl))
 ·have hd0:val d≠0:=fun h0=>k7 (by rw [h0,dig_zero];rfl)
  refine zg ?_;refine zo ((ze rfl rfl (QZ (by unfold cap;omega))).sub (zD (n:=q.num.sign) (by rw [←hv,zfr hd0]))) ?_;refine zg ?_
  exact zj zt
theorem zfu {p q:Rat} {k j:Nat} [hx:Bq p k] [hy:Bq q j] (hs:64*(k+j)+2100≤131072:=by decide):zp Tryz.prog G 302 [zl (zR p),zl (zR q)] (zl (zR (p+q))):=by
 have i1:=hx.bz
 have i2:=hx.bd
 have i3:=hy.bz
 have i4:=hy.bd
 obtain⟨g1,g2,g3⟩:=YO hx hy
 have i5:Bz (p.num*(q.den:Int)+q.num*(p.den:Int)) (k+j+1):=⟨Nat.lt_of_le_of_lt (Int.natAbs_add_le _ _) (zbE g1 g2)⟩
 have hpl:=hx.lens
 have hql:=hy.lens
 refine zs Tryz.func302 ?_;refine zg ?_;refine xg fun b4=>?_;refine zJ ?_;refine Yc 25 (by kernel_rfl) rfl rfl ?_;refine RunE.lat (zX rfl rfl rfl) rfl rfl rfl ?_;refine RunE.lat (zF rfl rfl rfl rfl) rfl rfl rfl ?_;refine RunE.lat (zX rfl rfl rfl) rfl rfl rfl ?_;refine RunE.lat (yN rfl rfl) rfl rfl rfl ?_;refine RunE.lat (ze rfl rfl Xw) rfl rfl rfl ?_;refine RunE.lat (zB rfl rfl (by decide) rfl (by simp) rfl rfl) rfl rfl rfl ?_;refine RunE.lat (ze rfl rfl (uK (by unfold cap;omega))) rfl rfl rfl ?_;refine RunE.lat (zX rfl rfl rfl) rfl rfl rfl ?_;refine RunE.lat (zF rfl rfl rfl rfl) rfl rfl rfl ?_;refine RunE.lat (zX rfl rfl rfl) rfl rfl rfl ?_;refine RunE.lat (yN rfl rfl) rfl rfl rfl ?_;refine RunE.lat (ze rfl rfl Xw) rfl rfl rfl ?_;refine RunE.lat (zB rfl rfl (by decide) rfl (by simp) rfl rfl) rfl rfl rfl ?_;refine RunE.lat (ze rfl rfl (uK (by unfold cap;omega))) rfl rfl rfl ?_;refine RunE.lat (zB rfl rfl (by decide) rfl (by simp) rfl rfl) rfl rfl rfl ?_;refine RunE.lat (ze rfl rfl (Ja (by unfold cap;omega))) rfl rfl rfl ?_;refine RunE.lat (zX rfl rfl rfl) rfl rfl rfl ?_;refine RunE.lat (yN rfl rfl) rfl rfl rfl ?_;refine RunE.lat (zX rfl rfl rfl) rfl rfl rfl ?_;refine RunE.lat (yN rfl rfl) rfl rfl rfl ?_;refine RunE.lat (ze rfl rfl (WR (by unfold cap;omega))) rfl rfl rfl ?_;refine RunE.lat (ze rfl rfl (WX (by omega))) rfl rfl rfl ?_;refine RunE.lat (zG rfl rfl) rfl rfl rfl ?_;(iterate 2 refine RunE.lat (xo rfl rfl rfl) rfl rfl rfl ?_);refine RunE.nil ?_;refine EffAA.mk1 rfl rfl rfl rfl rfl rfl rfl rfl (by intro h;cases h) rfl rfl rfl fun b5=>?_;refine zg ?_
 exact zj (zu (e:=by rw [Rat.add_def'];rfl))
theorem zfv {b:Bool} {l d:List Nat} {q:Rat} {k:Nat} [h:IsQ b l d q k] (hs:64*k+2000≤131072:=by decide):zp Tryz.prog G 233 [zl [zm b,zy l,zy d]] (zl (zR (-q))):=by
 have i1:=h.bq.bz
 refine zs Tryz.func233 ?_;refine zr ?_;refine Run.box rfl rfl rfl rfl rfl rfl fun b1=>?_;refine xg fun b2=>?_;refine zg ?_;refine zf (vb hs) ?_;refine zg ?_;refine zS 6 (by kernel_rfl) ?_;refine zg ?_;refine zo (ze rfl rfl (KN (by unfold cap;omega))) ?_;refine zg ?_
 exact zj zt
theorem zfw {xs:List (Bool×List Nat×List Nat)} (hl:∀ p∈xs,xU p.2.1∧xU p.2.2) (hs:64*qU xs xs.length+3000≤131072):zp Tryz.prog G 232 [zU 3 qc xs] (zl (zR (xs.foldl (fun z p=>z+qv p) 0))):=by
 refine zs Tryz.func232 ?_;refine zr ?_;refine xg fun b2=>?_;refine zx ?_;refine zo (ze rfl rfl (YQ (n:=0) (q:=0) (by decide) (by decide))) ?_;refine xg fun b3=>?_;refine zw ?_;refine zJ ?_;refine zh ?_;refine zr ?_;refine zz ?_;refine zJ ?_;refine zQ ?_;refine wT 0 rfl fun la=>?_
 unfold yP at la
 refine yX (fun (i:Nat) (acc:Rat)=>⟨_,[(4,intS .i64 (i:Nat)),(3,eqS (.pointer (some ⟨b3,0,none⟩))),(2,eqS (.pointer (some ⟨b2,0,none⟩))),(0,zU 3 qc xs)],[⟨some b3,39,zR acc,0⟩,⟨some b2,39,[eqS (.bool false),eqS (.slice none 0 0),eqS (.slice none 0 0)],0⟩],[],(0,false)⟩)
   (fun i acc=>i≤xs.length∧acc=(xs.take i).foldl (fun z p=>z+qv p) 0∧Bq acc (qU xs i+1)) (fun i acc=>xs.length-i)
   0 0 ⟨Nat.zero_le _,rfl,uU (l:=qU xs 0+1) (show Bq 0 1 from inferInstance) (by omega)⟩ (zL zk rfl) ?_
 rintro i acc ⟨hi,hacc,hbz⟩
 refine zh ?_;refine zg ?_;refine zd (fun _ k9=>?_) fun _ k9=>?_
 ·obtain⟨⟨b,m,d⟩,hp⟩:∃ p,xs[i]? =some p:=⟨_,List.getElem?_eq_getElem (by omega)⟩
  have hpm:(b,m,d)∈xs:=List.mem_of_getElem? hp
  have i1:IsQ b m d (qv (b,m,d)) (qsz (b,m,d)):=KO (hl _ hpm).1 (hl _ hpm).2
  have i2:=i1.bq
  have hs1:=YP hp
  have hs2:=Ql xs (i+1)
  refine zE ?_;refine zh ?_;refine zQ ?_;refine Zu 7 (by kernel_rfl) ?_;refine zg ?_;refine zo (zi rfl rfl rfl (by omega) (y:=(b,m,d)) (hp)) ?_;refine zz ?_;refine zo (ze rfl rfl (vb (by omega))) ?_;refine zo (ze rfl rfl (zfu (by omega))) ?_;refine zg ?_;refine zA ?_;refine zg ?_
  exact⟨i+1,acc+qv (b,m,d),⟨by omega,by rw [hacc,vW (fun z p=>z+qv p) 0 hp],uU (bq_add (hp:=hbz) (hq:=i2)) (by omega)⟩,by omega,zL (zb rfl (zb rfl (zb rfl (zb rfl (trivial))))) rfl⟩
 ·have hie:i=xs.length:=by omega
  rw [hie,List.take_length] at hacc
  refine zI ?_;refine zg ?_
  exact zj (zu (e:=by rw [hacc];rfl))
theorem Yw {b c:Bool} {l d m e:List Nat} {p q:Rat} {k j:Nat} [hx:IsQ b l d p k] [hy:IsQ c m e q j] (hs:64*(k+j)+4000≤131072:=by decide):zp Tryz.prog G 232 [zU 3 id [[zm b,zy l,zy d],[zm c,zy m,zy e]]] (zl (zR (p+q))):=by
 have h:=zfw (G:=G) (xs:=[(b,l,d),(c,m,e)]) (by intro x hp;rcases List.mem_cons.1 hp with rfl | hp;exact⟨hx.lim,hx.limd⟩;rw [List.mem_singleton.1 hp];exact⟨hy.lim,hy.limd⟩) (by have:=hx.len;have:=hy.len;have:=hx.lend;have:=hy.lend;have:=hx.pos;have:=hy.pos;simp only [qU,qsz,List.length_cons,List.length_nil,List.take,List.map,List.sum_cons,List.sum_nil];omega)
 have ee:[(b,l,d),(c,m,e)].foldl (fun z p=>z+qv p) 0=p+q:=by show 0+mkRat (uj b (val l)) (val d)+mkRat (uj c (val m)) (val e)=_;rw [hx.val,hy.val,Rat.zero_add]
 rw [ee] at h
 exact h.args ⟨fun I v hv=>ZG [(b,l,d),(c,m,e)] hv,trivial⟩
theorem zfx {xs:List (Bool×List Nat×List Nat)} (hl:∀ p∈xs,xU p.2.1∧xU p.2.2) (hs:64*qU xs xs.length+3000≤131072):zp Tryz.prog G 174 [zU 3 qc xs] (zl (zR (xs.foldl (fun z p=>z*qv p) 1))):=by
 refine zs Tryz.func174 ?_;refine zr ?_;refine xg fun b2=>?_;refine zx ?_;refine zo (ze rfl rfl (YQ (n:=1) (q:=1) (by decide) (by decide))) ?_;refine xg fun b3=>?_;refine zw ?_;refine zJ ?_;refine zh ?_;refine zr ?_;refine zz ?_;refine zJ ?_;refine zQ ?_;refine wT 0 rfl fun la=>?_
 unfold yP at la
 refine yX (fun (i:Nat) (acc:Rat)=>⟨_,[(4,intS .i64 (i:Nat)),(3,eqS (.pointer (some ⟨b3,0,none⟩))),(2,eqS (.pointer (some ⟨b2,0,none⟩))),(0,zU 3 qc xs)],[⟨some b3,39,zR acc,0⟩,⟨some b2,39,[eqS (.bool false),eqS (.slice none 0 0),eqS (.slice none 0 0)],0⟩],[],(0,false)⟩)
   (fun i acc=>i≤xs.length∧acc=(xs.take i).foldl (fun z p=>z*qv p) 1∧Bq acc (qU xs i+1)) (fun i acc=>xs.length-i)
   0 1 ⟨Nat.zero_le _,rfl,uU (l:=qU xs 0+1) (show Bq 1 1 from inferInstance) (by omega)⟩ (zL zk rfl) ?_
 rintro i acc ⟨hi,hacc,hbz⟩
 refine zh ?_;refine zg ?_;refine zd (fun _ k10=>?_) fun _ k10=>?_
 ·obtain⟨⟨b,m,d⟩,hp⟩:∃ p,xs[i]? =some p:=⟨_,List.getElem?_eq_getElem (by omega)⟩
  have hpm:(b,m,d)∈xs:=List.mem_of_getElem? hp
  have i1:IsQ b m d (qv (b,m,d)) (qsz (b,m,d)):=KO (hl _ hpm).1 (hl _ hpm).2
  have i2:=i1.bq
  have hs1:=YP hp
  have hs2:=Ql xs (i+1)
  obtain⟨x,hxe⟩:∃ x,x=qv (b,m,d):=⟨_,rfl⟩
  rw [←hxe] at i1 i2
  have j1:=hbz.bz
  have j2:=hbz.bd
  have j3:=i2.bz
  have j4:=i2.bd
  have j5:=hbz.lens
  have j6:=i2.lens
  refine zE ?_;refine zh ?_;refine zg ?_;refine zo (zi rfl rfl rfl (by omega) (y:=(b,m,d)) (hp)) ?_;refine zz ?_;refine zo (ze rfl rfl (vb (by omega))) ?_;refine xg fun b5=>?_;refine zg ?_;refine zbp 15 _ (by kernel_rfl) rfl (.cons_cons _ (.cons _ (.cons_cons _ .slnil))) ?_;refine RunE.one (zN rfl rfl rfl) rfl rfl rfl (by kernel_rfl) ?_;refine RunE.one (zC 1 rfl rfl rfl rfl rfl) rfl rfl rfl (by kernel_rfl) ?_;refine RunE.one (zN rfl rfl rfl) rfl rfl rfl (by kernel_rfl) ?_;refine RunE.one (zC 0 rfl rfl rfl rfl rfl) rfl rfl rfl (by kernel_rfl) ?_;refine RunE.one (zB rfl rfl (by decide) rfl (by simp) rfl rfl) rfl rfl rfl (by kernel_rfl) ?_;refine RunE.one (ze rfl rfl (uK (by unfold cap;omega))) rfl rfl rfl (by kernel_rfl) ?_;refine RunE.one (zN rfl rfl rfl) rfl rfl rfl (by kernel_rfl) ?_;refine RunE.one (yn 1 rfl rfl rfl rfl) rfl rfl rfl (by kernel_rfl) ?_;refine RunE.one (zN rfl rfl rfl) rfl rfl rfl (by kernel_rfl) ?_;refine RunE.one (yn 0 rfl rfl rfl rfl) rfl rfl rfl (by kernel_rfl) ?_;refine RunE.one (ze rfl rfl (WR (by unfold cap;omega))) rfl rfl rfl (by kernel_rfl) ?_;refine RunE.one (ze rfl rfl (WX (by omega))) rfl rfl rfl (by kernel_rfl) ?_;refine RunE.one (zG rfl rfl) rfl rfl rfl (by kernel_rfl) ?_;refine RunE.one ((xo rfl rfl rfl).sub (show ∀I v,(zl (zR (mkRat (acc.num*x.num) (acc.den*x.den)))).den I v→(zl (zR (acc*x))).den I v from fun I v h=>by rw [Rat.mul_def'];exact h)) rfl rfl rfl (by kernel_rfl) ?_;refine RunE.lat (xo rfl rfl rfl) rfl rfl rfl ?_;refine RunE.nil ?_;refine EffAt.store 1 rfl rfl rfl rfl rfl rfl rfl rfl (.cons_cons _ (.cons _ (.cons_cons _ .slnil))) ?_;refine zJ ?_;refine zP (zY (List.sublist_cons_self _ _)) ?_;refine zg ?_;refine zA ?_;refine zg ?_
  exact⟨i+1,acc*x,⟨by omega,by rw [hacc,hxe,vW (fun z p=>z*qv p) 1 hp],uU (bq_mul (hp:=hbz) (hq:=i2)) (by omega)⟩,by omega,zL (zb rfl (zb rfl (zb rfl (zb rfl (trivial))))) rfl⟩
 ·have hie:i=xs.length:=by omega
  rw [hie,List.take_length] at hacc
  refine zI ?_;refine zg ?_
  exact zj (zu (e:=by rw [hacc];rfl))
theorem uM {b c:Bool} {l d m e:List Nat} {p q:Rat} {k j:Nat} [hx:IsQ b l d p k] [hy:IsQ c m e q j] (hs:64*(k+j)+4000≤131072:=by decide):zp Tryz.prog G 174 [zU 3 id [[zm b,zy l,zy d],[zm c,zy m,zy e]]] (zl (zR (p*q))):=by
 have h:=zfx (G:=G) (xs:=[(b,l,d),(c,m,e)]) (by intro x hp;rcases List.mem_cons.1 hp with rfl | hp;exact⟨hx.lim,hx.limd⟩;rw [List.mem_singleton.1 hp];exact⟨hy.lim,hy.limd⟩) (by have:=hx.len;have:=hy.len;have:=hx.lend;have:=hy.lend;have:=hx.pos;have:=hy.pos;simp only [qU,qsz,List.length_cons,List.length_nil,List.take,List.map,List.sum_cons,List.sum_nil];omega)
 have ee:[(b,l,d),(c,m,e)].foldl (fun z p=>z*qv p) 1=p*q:=by show 1*mkRat (uj b (val l)) (val d)*mkRat (uj c (val m)) (val e)=_;rw [hx.val,hy.val,Rat.one_mul]
 rw [ee] at h
 exact h.args ⟨fun I v hv=>ZG [(b,l,d),(c,m,e)] hv,trivial⟩
theorem VJ {b c:Bool} {l d m e:List Nat} {p q:Rat} {k j:Nat} [hx:IsQ b l d p k] [hy:IsQ c m e q j] (hs:64*(k+j)+4000≤131072:=by decide):zp Tryz.prog G 173 [zl [zm b,zy l,zy d],zl [zm c,zy m,zy e]] (zl (zR (p-q))):=by
 have i1:=hx.bq
 have i2:=hy.bq
 refine zs Tryz.func173 ?_;refine zg ?_;refine xg fun b4=>?_;refine zJ ?_;refine zS 5 (by kernel_rfl) ?_;refine zg ?_;refine zo (ze rfl rfl (zfv (by omega))) ?_;refine zo (zB rfl rfl (by decide) rfl (by simp) rfl rfl) ?_;refine zo ((ze rfl rfl (Yw hs)).sub (show ∀I v,(zl (zR (p+ -q))).den I v→(zl (zR (p-q))).den I v from fun I v h=>by rw [Rat.sub_eq_add_neg];exact h)) ?_;refine zg ?_
 exact zj zt
theorem KR {b c:Bool} {l d m e:List Nat} {p q:Rat} {k j:Nat} [hx:IsQ b l d p k] [hy:IsQ c m e q j] (hs:64*(k+j)+4000≤131072:=by decide):zp Tryz.prog G 121 [zl [zm b,zy l,zy d],zl [zm c,zy m,zy e]] (intS .i64 (ue p q)):=by
 have hxb:=hx.bq
 have hyb:=hy.bq
 have i1:=hxb.bz
 have i2:=hxb.bd
 have i3:=hyb.bz
 have i4:=hyb.bd
 refine zs Tryz.func121 ?_;refine zr ?_;refine Run.box rfl rfl rfl rfl rfl rfl fun b2=>?_;refine Run.box rfl rfl rfl rfl rfl rfl fun b3=>?_;refine zg ?_;refine zS 4 (by kernel_rfl) ?_;refine zz ?_;refine zo (ze rfl rfl (vb (by omega))) ?_;refine zz ?_;refine zo (ze rfl rfl (vb (by omega))) ?_;refine zg ?_;refine zS 17 (by kernel_rfl) ?_;refine zg ?_;refine zf Xw ?_;refine zo (zB rfl rfl (by decide) rfl (by simp) rfl rfl) ?_;refine zo (ze rfl rfl (uK (by unfold cap;omega))) ?_;refine zg ?_;refine zf Xw ?_;refine zo (zB rfl rfl (by decide) rfl (by simp) rfl rfl) ?_;refine zo (ze rfl rfl (uK (by unfold cap;omega))) ?_;refine zo (ze rfl rfl (zfm (by unfold cap;omega))) ?_;refine zo ((ze rfl rfl (QZ (by unfold cap;omega))).sub (zD KP)) ?_;refine zg ?_
 exact zj zt
theorem zdv {b c:Bool} {l d m e:List Nat}:zp Tryz.prog G 50 [zl [zm b,zy l,zy d],zl [zm c,zy m,zy e]] (zm (decide ((b=c∧l=m)∧d=e))):=by
 refine zs Tryz.func50 ?_;refine zr ?_;(iterate 3 refine zz ?_);refine zx ?_;(iterate 4 refine zz ?_)
 refine Run.oneB (ze rfl rfl zfj) rfl rfl rfl (fun h1_4=>?_) (fun h1_4=>?_)
 ·refine zg ?_;refine zf Ki ?_;refine zg ?_
  exact zj (zu (e:=congrArg zm (decide_eq_decide.2 ⟨fun h=>⟨of_decide_eq_true h1_4,h⟩,fun h=>h.2⟩)))
 ·refine zg ?_
  exact zj (zu (e:=congrArg zm (decide_eq_false (fun h=>of_decide_eq_false h1_4 h.1)).symm))
theorem zfy {b c:Bool} {l d m e:List Nat} {p q:Rat} {k j:Nat} [hx:IsQ b l d p k] [hy:IsQ c m e q j] (hs:64*(k+j)+4000≤131072:=by decide):zp Tryz.prog G 179 [zl [zm b,zy l,zy d],zl [zm c,zy m,zy e]] (xn [zl (zR (p/q)),intS .i64 (if q=0 then 30 else 0)]):=by
 have hxb:=hx.bq
 have hyb:=hy.bq
 have i1:=hxb.bz
 have i2:=hxb.bd
 have i3:=hyb.bz
 have i4:=hyb.bd
 have i5:Bd q.num.natAbs j:=⟨hyb.num⟩
 have i6:IsZ (decide (q.num<0)) (yz q.den) (uj (decide (q.num<0)) q.den) j:=⟨xe _,by rw [xq],hyb.lens.2⟩
 have i7:=i6.bz
 have hpl:=hxb.lens
 have hql:=hyb.lens
 refine zs Tryz.func179 ?_;refine zr ?_;refine Run.box rfl rfl rfl rfl rfl rfl fun b2=>?_;refine Run.box rfl rfl rfl rfl rfl rfl fun b3=>?_;refine xg fun b4=>?_;refine zg ?_;refine zS 4 (by kernel_rfl) ?_;refine zo (zC 2 rfl rfl rfl rfl rfl) ?_;refine zo (ze rfl rfl (vb (by omega))) ?_;refine zz ?_;refine zo (ze rfl rfl (vb (by omega))) ?_;refine zg ?_;refine zS 19 (by kernel_rfl) ?_;refine zz ?_;refine zo (zC 2 rfl rfl rfl rfl rfl) ?_;refine zg ?_;refine zo (zB rfl rfl (by decide) rfl (by simp) rfl rfl) ?_;refine zo (ze rfl rfl (uK (by unfold cap;omega))) ?_;refine zg ?_;refine zo (ze rfl rfl (WR (by unfold cap;omega))) ?_;refine zo (ze rfl rfl (WX (by omega))) ?_;refine zz ?_
 refine zo ((xo rfl rfl rfl).sub (zD (n:=(if q=0 then 30 else 0)) (by by_cases h:q=0;rw [if_pos h,if_pos (by rw [h];exact Nat.mul_zero _)];rw [if_neg h,if_neg (Nat.mul_ne_zero p.den_nz (fun h0=>h (Rat.num_eq_zero.1 (Int.natAbs_eq_zero.1 h0))))]))) ?_
 refine zg ?_
 exact zj (zu (e:=by rw [←zfs];rfl))
end Go.Proofs
/- Points: vec, straitref08. -/
namespace Go.Proofs
open Go Go.Sv Num
variable {G:Imm}
theorem Zx {f:FuncId} (I:Imm) (v:Value) (h:(eqS (.func (.func f) #[] #[])).den I v):(wp f []).den I v:=⟨[],h,dens_nil⟩
abbrev VK (x y:Rat):List SV:=[zm (decide (x.num<0)),zy (yz x.num.natAbs),zy (yz x.den),zm (decide (y.num<0)),zy (yz y.num.natAbs),zy (yz y.den)]
def KS (x y:Rat):Rat:=if x<y then y-x else x-y
instance bq_dist {p q:Rat} {k j:Nat} [hp:Bq p k] [hq:Bq q j]:Bq (KS p q) (k+j+1):=by
 unfold KS;split
 ·rw [Nat.add_comm k j];exact bq_sub
 ·exact bq_sub
def qZ (x y u v:Rat):Int:=if ue x u=0 then ue y v else ue x u
theorem Ww {p q:Rat}:ue p q=0↔p=q:=by
 have:=Wu (p:=p) (q:=q)
 by_cases h:p=q
 ·rw [decide_eq_true h] at this;exact⟨fun _=>h,fun _=>beq_iff_eq.1 this⟩
 ·rw [decide_eq_false h] at this;exact⟨fun h1=>absurd h1 (beq_eq_false_iff_ne.1 this),fun h1=>absurd h1 h⟩
theorem Qn {x y u v:Rat}:(qZ x y u v==0)=decide (x=u∧y=v):=by
 unfold qZ
 by_cases h:ue x u=0
 ·rw [if_pos h,Wu];exact decide_eq_decide.2 ⟨fun h1=>⟨Ww.1 h,h1⟩,fun h1=>h1.2⟩
 ·rw [if_neg h,beq_eq_false_iff_ne.2 h];exact (decide_eq_false fun h1=>h (Ww.2 h1.1)).symm
theorem zkT {p q:Rat}:((decide (p.num<0)=decide (q.num<0)∧yz p.num.natAbs=yz q.num.natAbs)∧yz p.den=yz q.den)↔p=q:=by
 constructor
 ·rintro⟨⟨h1,h2⟩,h3⟩
  refine Rat.ext ?_ (zgy.1 h3)
  have h2:=zgy.1 h2
  rw [←va p.num,←va q.num,h1,h2]
 ·rintro rfl;exact⟨⟨rfl,rfl⟩,rfl⟩
theorem KT {p q:Rat}:zp Tryz.prog G 50 [zl (zR p),zl (zR q)] (zm (decide (p=q))):=by
 have h:=zdv (G:=G) (b:=decide (p.num<0)) (c:=decide (q.num<0)) (l:=yz p.num.natAbs) (d:=yz p.den) (m:=yz q.num.natAbs) (e:=yz q.den)
 rw [show decide ((decide (p.num<0)=decide (q.num<0)∧yz p.num.natAbs=yz q.num.natAbs)∧yz p.den=yz q.den)=decide (p=q) from decide_eq_decide.2 zkT] at h
 exact h
abbrev pc (p:(Bool×List Nat×List Nat)×(Bool×List Nat×List Nat)):List SV:=[zm p.1.1,zy p.1.2.1,zy p.1.2.2,zm p.2.1,zy p.2.2.1,zy p.2.2.2]
abbrev yy (p:Rat×Rat):List SV:=VK p.1 p.2
def pv (p:(Bool×List Nat×List Nat)×(Bool×List Nat×List Nat)):Rat×Rat:=(qv p.1,qv p.2)
abbrev xQ (k:Nat) (p:(Bool×List Nat×List Nat)×(Bool×List Nat×List Nat)):Prop:=(xU p.1.2.1∧xU p.1.2.2∧p.1.2.1.length≤k∧p.1.2.2.length≤k)∧xU p.2.2.1∧xU p.2.2.2∧p.2.2.1.length≤k∧p.2.2.2.length≤k
theorem yY {b:Bool} {l d:List Nat} {k:Nat} (h:xU l∧xU d∧l.length≤k∧d.length≤k) (hk:0<k):IsQ b l d (qv (b,l,d)) k:=⟨h.1,h.2.1,rfl,h.2.2.1,h.2.2.2,hk⟩
theorem vO:∀ l:List (Rat×Rat),(l.flatMap yy).length=l.length*6
 | []=>rfl
 | x::l=>by rw [List.flatMap_cons,List.length_append,vO l];show 6+l.length*6=(l.length+1)*6;omega
theorem Ut {n m:Int} {p q:Rat} (h1: -9223372036854775808≤n) (h2:n≤9223372036854775807) (h3: -9223372036854775808≤m) (h4:m≤9223372036854775807) (hp:(n:Rat)=p:=by rfl) (hq:(m:Rat)=q:=by rfl):zp Tryz.prog G 274 [intS .i64 n,intS .i64 m] (zl (VK p q)):=by
 refine zs Tryz.func274 ?_;refine zr ?_;refine xg fun b4=>?_;refine zg ?_;refine zf (Zo h1 h2 hp) ?_;refine zz ?_;refine zf (Zo h3 h4 hq) ?_;refine zg ?_
 exact zj zt
theorem zdw {f:FuncId}:zp Tryz.prog G 63 [eqS (.func (.func f) #[] #[])] (wp 85 [zT [eqS (.func (.func f) #[] #[])]]):=by
 refine zs Tryz.func63 ?_;refine zg ?_
 exact zj zt
theorem WY {f:FuncId} {b1 b2:Bool} {l1 d1 l2 d2:List Nat} {r:Rat} (h:zp Tryz.prog G f [zU 3 id [[zm b1,zy l1,zy d1],[zm b2,zy l2,zy d2]]] (zl (zR r))):zp Tryz.prog G 85 [zl [zm b1,zy l1,zy d1],zl [zm b2,zy l2,zy d2],zT [eqS (.func (.func f) #[] #[])]] (zl (zR r)):=by
 refine zs Tryz.func85 ?_;refine zg ?_;refine xg fun b5=>?_;refine zx ?_;refine zo ((yN rfl rfl).sub Zx) ?_;refine zg ?_;refine zo (zB rfl rfl (by decide) rfl (by simp) rfl rfl) ?_;refine zo (yI rfl rfl rfl h) ?_;refine zg ?_
 exact zj zt
theorem Xx {s:SV} [One s]:zp Tryz.prog G 62 [s] (wp 84 [zT [s]]):=by
 refine zs Tryz.func62 ?_;refine zg ?_
 exact zj zt
theorem Yx {s:SV} {f:FuncId} {caps:List SV} {b1 c1 b2 c2:Bool} {l1 d1 m1 e1 l2 d2 m2 e2:List Nat} {r1 r2:Rat} (hs:∀ I v,s.den I v→(wp f caps).den I v) (h1:zp Tryz.prog G f ([zl [zm b1,zy l1,zy d1],zl [zm b2,zy l2,zy d2]]++caps) (zl (zR r1))) (h2:zp Tryz.prog G f ([zl [zm c1,zy m1,zy e1],zl [zm c2,zy m2,zy e2]]++caps) (zl (zR r2))):zp Tryz.prog G 84 [zl [zm b1,zy l1,zy d1,zm c1,zy m1,zy e1],zl [zm b2,zy l2,zy d2,zm c2,zy m2,zy e2],zT [s]] (zl (VK r1 r2)):=by
 refine zs Tryz.func84 ?_;refine zg ?_;refine xg fun b5=>?_;refine zJ ?_;refine zS 13 (by kernel_rfl) ?_;refine zo ((yN rfl rfl).sub hs) ?_;refine zg ?_;refine zo (yI rfl rfl rfl h1) ?_;refine zo ((yN rfl rfl).sub hs) ?_;refine zg ?_;refine zo (yI rfl rfl rfl h2) ?_;refine zg ?_
 exact zj zt
theorem Qo [Tab G] {b1 c1:Bool} {l1 d1 m1 e1:List Nat} {x1 y1:Rat} {k1 j1:Nat} [hx1:IsQ b1 l1 d1 x1 k1] [hy1:IsQ c1 m1 e1 y1 j1] {b2 c2:Bool} {l2 d2 m2 e2:List Nat} {x2 y2:Rat} {k2 j2:Nat} [hx2:IsQ b2 l2 d2 x2 k2] [hy2:IsQ c2 m2 e2 y2 j2] (hs:100*(k1+j1+k2+j2)+21000≤cap:=by decide):zp Tryz.prog G 41 [zl [zm b1,zy l1,zy d1,zm c1,zy m1,zy e1],zl [zm b2,zy l2,zy d2,zm c2,zy m2,zy e2]] (zl (VK (x1+x2) (y1+y2))):=by
 refine zs Tryz.func41 ?_;refine zg ?_;refine xg fun b4=>?_;refine zJ ?_;refine zS 5 (by kernel_rfl) ?_;refine zf zdw ?_;refine zf Xx ?_;refine zg ?_;refine zo (yI rfl rfl rfl (Yx (fun _ _ h=>h) (WY (uD (by omega))) (WY (uD (by omega))))) ?_;refine zg ?_
 exact zj zt
theorem YR [Tab G] {b1 c1:Bool} {l1 d1 m1 e1:List Nat} {x1 y1:Rat} {k1 j1:Nat} [hx1:IsQ b1 l1 d1 x1 k1] [hy1:IsQ c1 m1 e1 y1 j1] {b2 c2:Bool} {l2 d2 m2 e2:List Nat} {x2 y2:Rat} {k2 j2:Nat} [hx2:IsQ b2 l2 d2 x2 k2] [hy2:IsQ c2 m2 e2 y2 j2] (hs:100*(k1+j1+k2+j2)+21000≤cap:=by decide):zp Tryz.prog G 275 [zl [zm b1,zy l1,zy d1,zm c1,zy m1,zy e1],zl [zm b2,zy l2,zy d2,zm c2,zy m2,zy e2]] (zl (VK (x1-x2) (y1-y2))):=by
 refine zs Tryz.func275 ?_;refine zg ?_;refine xg fun b4=>?_;refine zJ ?_;refine zS 4 (by kernel_rfl) ?_;refine zf Xx ?_;refine zg ?_;refine zo (yI rfl rfl rfl (Yx Zx (uL (by omega)) (uL (by omega)))) ?_;refine zg ?_
 exact zj zt
theorem zdx [Tab G] {b1 c1:Bool} {l1 d1 m1 e1:List Nat} {x1 y1:Rat} {k1 j1:Nat} [hx1:IsQ b1 l1 d1 x1 k1] [hy1:IsQ c1 m1 e1 y1 j1] {bt:Bool} {lt dt:List Nat} {t:Rat} {kt:Nat} [ht:IsQ bt lt dt t kt] (hs:100*(k1+j1+2*kt)+21000≤cap:=by decide):zp Tryz.prog G 492 [zl [zm b1,zy l1,zy d1,zm c1,zy m1,zy e1],zl [zm bt,zy lt,zy dt]] (zl (VK (x1*t) (y1*t))):=by
 refine zs Tryz.func492 ?_;refine zg ?_;refine xg fun b4=>?_;refine zJ ?_;refine zS 7 (by kernel_rfl) ?_;refine zf zdw ?_;refine zf Xx ?_;refine zg ?_;refine zo (yI rfl rfl rfl (Yx (b2:=bt) (l2:=lt) (d2:=dt) (c2:=bt) (m2:=lt) (e2:=dt) (fun _ _ h=>h) (WY (Yi (by omega))) (WY (Yi (by omega))))) ?_;refine zg ?_
 exact zj zt
theorem zkU [Tab G] {b1 c1:Bool} {l1 d1 m1 e1:List Nat} {x1 y1:Rat} {k1 j1:Nat} [hx1:IsQ b1 l1 d1 x1 k1] [hy1:IsQ c1 m1 e1 y1 j1] {b2 c2:Bool} {l2 d2 m2 e2:List Nat} {x2 y2:Rat} {k2 j2:Nat} [hx2:IsQ b2 l2 d2 x2 k2] [hy2:IsQ c2 m2 e2 y2 j2] {bt:Bool} {lt dt:List Nat} {t:Rat} {kt:Nat} [ht:IsQ bt lt dt t kt] (hs:200*(k1+j1+k2+j2+2*kt)+22000≤cap:=by decide):zp Tryz.prog G 452 [zl [zm b1,zy l1,zy d1,zm c1,zy m1,zy e1],zl [zm b2,zy l2,zy d2,zm c2,zy m2,zy e2],zl [zm bt,zy lt,zy dt]] (zl (VK (x1+(x2-x1)*t) (y1+(y2-y1)*t))):=by
 have hxb1:=hx1.bq
 have hyb1:=hy1.bq
 have hxb2:=hx2.bq
 have hyb2:=hy2.bq
 have htb:=ht.bq
 refine zs Tryz.func452 ?_;refine zg ?_;refine xg fun b6=>?_;refine zJ ?_;refine zS 7 (by kernel_rfl) ?_;refine zg ?_;refine zo (ze rfl rfl (YR (by omega))) ?_;refine zz ?_;refine zo (ze rfl rfl (zdx (by omega))) ?_;refine zo (ze rfl rfl (Qo (by omega))) ?_;refine zg ?_
 exact zj zt
theorem Jb [Tab G] {b1 c1:Bool} {l1 d1 m1 e1:List Nat} {x1 y1:Rat} {k1 j1:Nat} [hx1:IsQ b1 l1 d1 x1 k1] [hy1:IsQ c1 m1 e1 y1 j1] {b2 c2:Bool} {l2 d2 m2 e2:List Nat} {x2 y2:Rat} {k2 j2:Nat} [hx2:IsQ b2 l2 d2 x2 k2] [hy2:IsQ c2 m2 e2 y2 j2] (hs:100*(k1+j1+k2+j2)+21000≤cap:=by decide):zp Tryz.prog G 449 [zl [zm b1,zy l1,zy d1,zm c1,zy m1,zy e1],zl [zm b2,zy l2,zy d2,zm c2,zy m2,zy e2]] (zl (zR (x1*y2-y1*x2))):=by
 have hxb1:=hx1.bq
 have hyb1:=hy1.bq
 have hxb2:=hx2.bq
 have hyb2:=hy2.bq
 refine zs Tryz.func449 ?_;refine zg ?_;refine xg fun b4=>?_;refine zJ ?_;refine zS 13 (by kernel_rfl) ?_;refine zg ?_;refine zo (zB rfl rfl (by decide) rfl (by simp) rfl rfl) ?_;refine zo (ze rfl rfl (Yi (by omega))) ?_;refine zg ?_;refine zo (zB rfl rfl (by decide) rfl (by simp) rfl rfl) ?_;refine zo (ze rfl rfl (Yi (by omega))) ?_;refine zo (ze rfl rfl (uL (by omega))) ?_;refine zg ?_
 exact zj zt
theorem zaJ [Tab G] {b1 b2:Bool} {l1 d1 l2 d2:List Nat} {x1 x2:Rat} {k1 k2:Nat} [hx1:IsQ b1 l1 d1 x1 k1] [hx2:IsQ b2 l2 d2 x2 k2] (hs:100*(k1+k2)+20000≤cap:=by decide):zp Tryz.prog G 300 [zl [zm b1,zy l1,zy d1],zl [zm b2,zy l2,zy d2]] (zl (zR (KS x1 x2))):=by
 refine zs Tryz.func300 ?_;refine zr ?_;refine Run.box rfl rfl rfl rfl rfl rfl fun b2=>?_;refine Run.box rfl rfl rfl rfl rfl rfl fun b3=>?_;refine xg fun b4=>?_;refine zJ ?_;refine zh ?_;refine zr ?_;refine zo (zC 2 rfl rfl rfl rfl rfl) ?_;refine zz ?_;refine zf (wt hs) ?_;refine zg ?_;refine zd (fun _ k8=>?_) fun _ k8=>?_
 ·have hlt:x1<x2:=by unfold ue at k8;by_cases h:x1<x2;exact h;rw [if_neg h] at k8;split at k8 <;> omega
  refine zO ?_;refine zz ?_;refine zo (zC 2 rfl rfl rfl rfl rfl) ?_;(iterate 2 refine zw ?_);refine zx ?_;refine zo (zC 2 rfl rfl rfl rfl rfl) ?_;refine zz ?_;refine zo (ze rfl rfl (uL (by omega))) ?_;refine zg ?_
  exact zj (zu (e:=by unfold KS;rw [if_pos hlt];rfl))
 ·have hlt:¬ x1<x2:=fun h=>by unfold ue at k8;rw [if_pos h] at k8;omega
  refine zE ?_;refine zr ?_;refine zo (zC 2 rfl rfl rfl rfl rfl) ?_;refine zz ?_;refine zo (ze rfl rfl (uL (by omega))) ?_;refine zg ?_
  exact zj (zu (e:=by unfold KS;rw [if_neg hlt];rfl))
theorem ziC [Tab G] {b1 c1:Bool} {l1 d1 m1 e1:List Nat} {x1 y1:Rat} {k1 j1:Nat} [hx1:IsQ b1 l1 d1 x1 k1] [hy1:IsQ c1 m1 e1 y1 j1] {b2 c2:Bool} {l2 d2 m2 e2:List Nat} {x2 y2:Rat} {k2 j2:Nat} [hx2:IsQ b2 l2 d2 x2 k2] [hy2:IsQ c2 m2 e2 y2 j2] (hs:100*(k1+j1+k2+j2)+22000≤cap:=by decide):zp Tryz.prog G 226 [zl [zm b1,zy l1,zy d1,zm c1,zy m1,zy e1],zl [zm b2,zy l2,zy d2,zm c2,zy m2,zy e2]] (zl (zR (KS x1 x2+KS y1 y2))):=by
 have hxb1:=hx1.bq
 have hyb1:=hy1.bq
 have hxb2:=hx2.bq
 have hyb2:=hy2.bq
 refine zs Tryz.func226 ?_;refine zg ?_;refine xg fun b4=>?_;refine zJ ?_;refine Yc 4 (by kernel_rfl) rfl rfl ?_;refine RunE.lat (ze rfl rfl Xx) rfl rfl rfl ?_;(iterate 2 refine RunE.lat (zF rfl rfl rfl rfl) rfl rfl rfl ?_);refine RunE.lat (yI rfl rfl rfl (Yx Zx (zaJ (by omega)) (zaJ (by omega)))) rfl rfl rfl ?_;refine RunE.nil ?_;refine EffAA.mk1 rfl rfl rfl rfl rfl rfl rfl rfl (by intro h;cases h) rfl rfl rfl fun b5=>?_;refine zg ?_;refine zo (zB rfl rfl (by decide) rfl (by simp) rfl rfl) ?_;refine zo (ze rfl rfl (uD (by omega))) ?_;refine zg ?_
 exact zj zt
theorem zaK [Tab G] {b1 c1:Bool} {l1 d1 m1 e1:List Nat} {x1 y1:Rat} {k1 j1:Nat} [hx1:IsQ b1 l1 d1 x1 k1] [hy1:IsQ c1 m1 e1 y1 j1] {b2 c2:Bool} {l2 d2 m2 e2:List Nat} {x2 y2:Rat} {k2 j2:Nat} [hx2:IsQ b2 l2 d2 x2 k2] [hy2:IsQ c2 m2 e2 y2 j2] (hs:100*(k1+j1+k2+j2)+21000≤cap:=by decide):zp Tryz.prog G 319 [zl [zm b1,zy l1,zy d1,zm c1,zy m1,zy e1],zl [zm b2,zy l2,zy d2,zm c2,zy m2,zy e2]] (intS .i64 (qZ x1 y1 x2 y2)):=by
 refine zs Tryz.func319 ?_;refine zr ?_;(iterate 3 refine zz ?_);refine zJ ?_;refine zh ?_;refine zg ?_;refine zo (ze rfl rfl (wt (by omega))) ?_;refine zg ?_;refine zd (fun _ k12=>?_) fun _ k12=>?_
 ·refine zg ?_
  exact zj (zu (e:=by unfold qZ;rw [if_neg k12]))
 ·refine zg ?_;refine zo (ze rfl rfl (wt (by omega))) ?_;refine zg ?_
  exact zj (zu (e:=by unfold qZ;rw [if_pos k12]))
theorem zfz [Tab G] {b1 c1:Bool} {l1 d1 m1 e1:List Nat} {x1 y1:Rat} {k1 j1:Nat} [hx1:IsQ b1 l1 d1 x1 k1] [hy1:IsQ c1 m1 e1 y1 j1] {b2 c2:Bool} {l2 d2 m2 e2:List Nat} {x2 y2:Rat} {k2 j2:Nat} [hx2:IsQ b2 l2 d2 x2 k2] [hy2:IsQ c2 m2 e2 y2 j2] (hs:100*(k1+j1+k2+j2)+21000≤cap:=by decide):zp Tryz.prog G 262 [zl [zm b1,zy l1,zy d1,zm c1,zy m1,zy e1],zl [zm b2,zy l2,zy d2,zm c2,zy m2,zy e2]] (zm (decide (x1=x2∧y1=y2))):=by
 refine zs Tryz.func262 ?_;refine zg ?_;refine zf (zaK hs) ?_;refine zo ((zZ rfl rfl rfl rfl).sub (yx Qn)) ?_;refine zg ?_
 exact zj zt
theorem vE [Tab G] {xs:List ((Bool×List Nat×List Nat)×(Bool×List Nat×List Nat))} {k:Nat} (hk:0<k) (hl:∀ p∈xs,xQ k p) (hs:2*k+11000≤cap) (hxl:xs.length≤cap):zp Tryz.prog G 55 [zU 6 pc xs] (zU 6 yy (xs.map pv)):=by
 unfold cap at hxl
 refine zs Tryz.func55 ?_;refine zr ?_;refine zz ?_;refine zJ ?_;refine zh ?_;refine zr ?_;(iterate 3 refine zz ?_);refine zJ ?_;refine zQ ?_;refine zP (yL 41 6) ?_
 refine yX (fun (i:Nat) (q:Option (Nat×Nat))=>⟨_,[(7,intS .i64 (i:Nat)),(6,intS .i64 xs.length),(5,zU 6 pc xs),(2,eqS (rowV q i))],[rowE q 41 6 i (((xs.take i).map pv).flatMap yy)],[],(0,false)⟩)
   (fun i q=>i≤xs.length∧yu q i) (fun i q=>xs.length-i)
   0 none ⟨Nat.zero_le _,rfl⟩ (zL zk rfl) ?_
 rintro i q ⟨hi,hq⟩
 refine zr ?_;refine zz ?_;refine zJ ?_;refine zh ?_;refine zd (fun _ k8=>?_) fun _ k8=>?_
 ·obtain⟨⟨⟨b,l,d⟩,⟨c,m,e⟩⟩,hp⟩:∃ p,xs[i]? =some p:=⟨_,List.getElem?_eq_getElem (by omega)⟩
  have hpm:=hl _ (List.mem_of_getElem? hp)
  have i1:IsQ b l d (qv (b,l,d)) k:=yY hpm.1 hk
  have i2:IsQ c m e (qv (c,m,e)) k:=yY hpm.2 hk
  have htk:(xs.take (i+1)).map pv=(xs.take i).map pv++[(qv (b,l,d),qv (c,m,e))]:=by rw [List.take_add_one,hp];simp [pv]
  refine zE ?_;refine zh ?_;refine zg ?_;refine zo (zi rfl rfl rfl (by omega) (y:=((b,l,d),(c,m,e))) (hp)) ?_;refine zz ?_;refine xg fun b4=>?_;refine zg ?_;refine Zu 9 (by kernel_rfl) ?_;refine zg ?_;refine zf (vh hs) ?_;refine zg ?_;refine zf (vh hs) ?_;refine zz ?_;refine zo (zB rfl rfl (by decide) rfl (by simp) rfl rfl) ?_;refine zJ ?_;refine Run.append 1 rfl rfl rfl rfl rfl rfl rfl rfl hq (by rw [vO];simp;omega) (fun z hz=>by rw [List.mem_singleton.1 hz];rfl) (by unfold yP;simp;omega) (by unfold yP;simp;omega) fun q20 hq20=>?_;refine zz ?_;refine zJ ?_;refine zP (zY (List.sublist_cons_self _ _)) ?_;refine zO ?_;refine za ((i+1:Nat):Int) ?_;refine zg ?_
  exact⟨i+1,q20,⟨by omega,hq20⟩,by omega,zL (zb rfl (zb rfl (zb rfl (zb rfl (trivial))))) (by rw [htk,List.flatMap_append];rfl)⟩
 ·have hie:i=xs.length:=by omega
  subst hie
  refine zI ?_;refine zP (yU 0 2 rfl rfl hq (l:=(xs.take xs.length).map pv) (f:=yy) (by simp) rfl (fun _ _=>rfl) (by unfold yP;omega)) ?_;refine zg ?_
  exact zj (zu (e:=by rw [List.take_length]))
end Go.Proofs
namespace Go.Proofs
open Go Go.Sv Num
variable {G:Imm}
abbrev psz (p:(Bool×List Nat×List Nat)×(Bool×List Nat×List Nat)):Nat:=max (max (max p.1.2.1.length p.1.2.2.length) p.2.2.1.length) p.2.2.2.length
instance bq_two:Bq 2 1:=⟨by decide,by decide⟩
instance bq_three:Bq 3 1:=⟨by decide,by decide⟩
instance bq_four:Bq 4 1:=⟨by decide,by decide⟩
instance bq_seven:Bq 7 1:=⟨by decide,by decide⟩
theorem YS {n m:Int} {p q:Rat} (h1: -9223372036854775808≤n) (h2:n≤9223372036854775807) (h3: -9223372036854775808≤m) (h4:m≤9223372036854775807) (hp:(n:Rat)=p:=by rfl) (hq:(m:Rat)=q:=by rfl):zp Tryz.prog G 42 [intS .i64 n,intS .i64 m] (zl (VK p q)):=by
 refine zs Tryz.func42 ?_;refine zr ?_;refine xg fun b4=>?_;refine zg ?_;refine zf (YQ h1 h2 hp) ?_;refine zz ?_;refine zf (YQ h3 h4 hq) ?_;refine zg ?_
 exact zj zt
theorem zfA {b1 c1:Bool} {l1 d1 m1 e1:List Nat} {x1 y1:Rat} {k1 j1:Nat} [hx1:IsQ b1 l1 d1 x1 k1] [hy1:IsQ c1 m1 e1 y1 j1] {b2 c2:Bool} {l2 d2 m2 e2:List Nat} {x2 y2:Rat} {k2 j2:Nat} [hx2:IsQ b2 l2 d2 x2 k2] [hy2:IsQ c2 m2 e2 y2 j2] (hs:64*(k1+j1+k2+j2)+5000≤131072:=by decide):zp Tryz.prog G 237 [zl [zm b1,zy l1,zy d1,zm c1,zy m1,zy e1],zl [zm b2,zy l2,zy d2,zm c2,zy m2,zy e2]] (zl (VK (x1+x2) (y1+y2))):=by
 refine zs Tryz.func237 ?_;refine zg ?_;refine xg fun b4=>?_;refine zJ ?_;refine zS 13 (by kernel_rfl) ?_;refine zg ?_;refine zo (zB rfl rfl (by decide) rfl (by simp) rfl rfl) ?_;refine zo (ze rfl rfl (Yw (by omega))) ?_;refine zg ?_;refine zo (zB rfl rfl (by decide) rfl (by simp) rfl rfl) ?_;refine zo (ze rfl rfl (Yw (by omega))) ?_;refine zg ?_
 exact zj zt
theorem VL {b1 c1:Bool} {l1 d1 m1 e1:List Nat} {x1 y1:Rat} {k1 j1:Nat} [hx1:IsQ b1 l1 d1 x1 k1] [hy1:IsQ c1 m1 e1 y1 j1] {b2 c2:Bool} {l2 d2 m2 e2:List Nat} {x2 y2:Rat} {k2 j2:Nat} [hx2:IsQ b2 l2 d2 x2 k2] [hy2:IsQ c2 m2 e2 y2 j2] (hs:64*(k1+j1+k2+j2)+5000≤131072:=by decide):zp Tryz.prog G 120 [zl [zm b1,zy l1,zy d1,zm c1,zy m1,zy e1],zl [zm b2,zy l2,zy d2,zm c2,zy m2,zy e2]] (zl (VK (x1-x2) (y1-y2))):=by
 refine zs Tryz.func120 ?_;refine zg ?_;refine xg fun b4=>?_;refine zJ ?_;refine zS 11 (by kernel_rfl) ?_;refine zg ?_;refine zo (ze rfl rfl (VJ (by omega))) ?_;refine zg ?_;refine zo (ze rfl rfl (VJ (by omega))) ?_;refine zg ?_
 exact zj zt
theorem zbF {b1 c1:Bool} {l1 d1 m1 e1:List Nat} {x1 y1:Rat} {k1 j1:Nat} [hx1:IsQ b1 l1 d1 x1 k1] [hy1:IsQ c1 m1 e1 y1 j1] {bt:Bool} {lt dt:List Nat} {t:Rat} {kt:Nat} [ht:IsQ bt lt dt t kt] (hs:64*(k1+j1+2*kt)+5000≤131072:=by decide):zp Tryz.prog G 238 [zl [zm b1,zy l1,zy d1,zm c1,zy m1,zy e1],zl [zm bt,zy lt,zy dt]] (zl (VK (x1*t) (y1*t))):=by
 refine zs Tryz.func238 ?_;refine zg ?_;refine xg fun b4=>?_;refine zJ ?_;refine zS 11 (by kernel_rfl) ?_;refine zg ?_;refine zo (zB rfl rfl (by decide) rfl (by simp) rfl rfl) ?_;refine zo (ze rfl rfl (uM (by omega))) ?_;refine zg ?_;refine zo (zB rfl rfl (by decide) rfl (by simp) rfl rfl) ?_;refine zo (ze rfl rfl (uM (by omega))) ?_;refine zg ?_
 exact zj zt
theorem ziD {b1 c1:Bool} {l1 d1 m1 e1:List Nat} {x1 y1:Rat} {k1 j1:Nat} [hx1:IsQ b1 l1 d1 x1 k1] [hy1:IsQ c1 m1 e1 y1 j1] {b2 c2:Bool} {l2 d2 m2 e2:List Nat} {x2 y2:Rat} {k2 j2:Nat} [hx2:IsQ b2 l2 d2 x2 k2] [hy2:IsQ c2 m2 e2 y2 j2] {bt:Bool} {lt dt:List Nat} {t:Rat} {kt:Nat} [ht:IsQ bt lt dt t kt] (hs:128*(k1+j1+k2+j2+2*kt)+6000≤131072:=by decide):zp Tryz.prog G 180 [zl [zm b1,zy l1,zy d1,zm c1,zy m1,zy e1],zl [zm b2,zy l2,zy d2,zm c2,zy m2,zy e2],zl [zm bt,zy lt,zy dt]] (zl (VK (x1+(x2-x1)*t) (y1+(y2-y1)*t))):=by
 have hxb1:=hx1.bq
 have hyb1:=hy1.bq
 have hxb2:=hx2.bq
 have hyb2:=hy2.bq
 have htb:=ht.bq
 refine zs Tryz.func180 ?_;refine zg ?_;refine xg fun b6=>?_;refine zJ ?_;refine zS 7 (by kernel_rfl) ?_;refine zg ?_;refine zo (ze rfl rfl (VL (by omega))) ?_;refine zz ?_;refine zo (ze rfl rfl (zbF (by omega))) ?_;refine zo (ze rfl rfl (zfA (by omega))) ?_;refine zg ?_
 exact zj zt
theorem Uu {b1 c1:Bool} {l1 d1 m1 e1:List Nat} {x1 y1:Rat} {k1 j1:Nat} [hx1:IsQ b1 l1 d1 x1 k1] [hy1:IsQ c1 m1 e1 y1 j1] {b2 c2:Bool} {l2 d2 m2 e2:List Nat} {x2 y2:Rat} {k2 j2:Nat} [hx2:IsQ b2 l2 d2 x2 k2] [hy2:IsQ c2 m2 e2 y2 j2] (hs:64*(k1+j1+k2+j2)+5000≤131072:=by decide):zp Tryz.prog G 119 [zl [zm b1,zy l1,zy d1,zm c1,zy m1,zy e1],zl [zm b2,zy l2,zy d2,zm c2,zy m2,zy e2]] (zl (zR (x1*y2-y1*x2))):=by
 have hxb1:=hx1.bq
 have hyb1:=hy1.bq
 have hxb2:=hx2.bq
 have hyb2:=hy2.bq
 refine zs Tryz.func119 ?_;refine zg ?_;refine xg fun b4=>?_;refine zJ ?_;refine zS 13 (by kernel_rfl) ?_;refine zg ?_;refine zo (zB rfl rfl (by decide) rfl (by simp) rfl rfl) ?_;refine zo (ze rfl rfl (uM (by omega))) ?_;refine zg ?_;refine zo (zB rfl rfl (by decide) rfl (by simp) rfl rfl) ?_;refine zo (ze rfl rfl (uM (by omega))) ?_;refine zo (ze rfl rfl (VJ (by omega))) ?_;refine zg ?_
 exact zj zt
theorem zfB {b1 c1:Bool} {l1 d1 m1 e1:List Nat} {x1 y1:Rat} {k1 j1:Nat} [hx1:IsQ b1 l1 d1 x1 k1] [hy1:IsQ c1 m1 e1 y1 j1] {b2 c2:Bool} {l2 d2 m2 e2:List Nat} {x2 y2:Rat} {k2 j2:Nat} [hx2:IsQ b2 l2 d2 x2 k2] [hy2:IsQ c2 m2 e2 y2 j2] (hs:64*(k1+j1+k2+j2)+5000≤131072:=by decide):zp Tryz.prog G 181 [zl [zm b1,zy l1,zy d1,zm c1,zy m1,zy e1],zl [zm b2,zy l2,zy d2,zm c2,zy m2,zy e2]] (zl (zR (x1*x2+y1*y2))):=by
 have hxb1:=hx1.bq
 have hyb1:=hy1.bq
 have hxb2:=hx2.bq
 have hyb2:=hy2.bq
 refine zs Tryz.func181 ?_;refine zg ?_;refine xg fun b4=>?_;refine zJ ?_;refine zS 14 (by kernel_rfl) ?_;refine zg ?_;refine zo (zB rfl rfl (by decide) rfl (by simp) rfl rfl) ?_;refine zo (ze rfl rfl (uM (by omega))) ?_;refine zg ?_;refine zo (zB rfl rfl (by decide) rfl (by simp) rfl rfl) ?_;refine zo (ze rfl rfl (uM (by omega))) ?_;refine zo (zB rfl rfl (by decide) rfl (by simp) rfl rfl) ?_;refine zo (ze rfl rfl (Yw (by omega))) ?_;refine zg ?_
 exact zj zt
theorem KU {b1 c1:Bool} {l1 d1 m1 e1:List Nat} {x1 y1:Rat} {k1 j1:Nat} [hx1:IsQ b1 l1 d1 x1 k1] [hy1:IsQ c1 m1 e1 y1 j1] {b2 c2:Bool} {l2 d2 m2 e2:List Nat} {x2 y2:Rat} {k2 j2:Nat} [hx2:IsQ b2 l2 d2 x2 k2] [hy2:IsQ c2 m2 e2 y2 j2] (hs:64*(k1+j1+k2+j2)+5000≤131072:=by decide):zp Tryz.prog G 81 [zl [zm b1,zy l1,zy d1,zm c1,zy m1,zy e1],zl [zm b2,zy l2,zy d2,zm c2,zy m2,zy e2]] (intS .i64 (qZ x1 y1 x2 y2)):=by
 refine zs Tryz.func81 ?_;refine zg ?_;refine zo (ze rfl rfl (KR (by omega))) ?_;refine zz ?_;refine zJ ?_;refine zh ?_;refine zg ?_;refine zd (fun _ k12=>?_) fun _ k12=>?_
 ·refine zg ?_
  exact zj (zu (e:=by unfold qZ;rw [if_neg k12]))
 ·refine zg ?_;refine zo (ze rfl rfl (KR (by omega))) ?_;refine zg ?_
  exact zj (zu (e:=by unfold qZ;rw [if_pos k12]))
theorem Yy {xs:List ((Bool×List Nat×List Nat)×(Bool×List Nat×List Nat))} {k:Nat} (hk:0<k) (hl:∀ p∈xs,xQ k p) (hs:64*k+2000≤131072) (hxl:xs.length≤cap):zp Tryz.prog G 20 [zU 6 pc xs] (zU 6 yy (xs.map pv)):=by
 unfold cap at hxl
 refine zs Tryz.func20 ?_;refine zr ?_;refine zz ?_;refine zx ?_;refine zz ?_;refine zJ ?_;refine zh ?_;refine zr ?_;refine zz ?_;refine zJ ?_;refine zQ ?_;refine zP (yL 41 6) ?_
 refine yX (fun (i:Nat) (q:Option (Nat×Nat))=>⟨_,[(4,intS .i64 (i:Nat)),(3,eqS (rowV q i)),(0,zU 6 pc xs)],[rowE q 41 6 i (((xs.take i).map pv).flatMap yy)],[],(0,false)⟩)
   (fun i q=>i≤xs.length∧yu q i) (fun i q=>xs.length-i)
   0 none ⟨Nat.zero_le _,rfl⟩ (zL zk rfl) ?_
 rintro i q ⟨hi,hq⟩
 refine zh ?_;refine zg ?_;refine zd (fun _ k8=>?_) fun _ k8=>?_
 ·obtain⟨⟨⟨b,l,d⟩,⟨c,m,e⟩⟩,hp⟩:∃ p,xs[i]? =some p:=⟨_,List.getElem?_eq_getElem (by omega)⟩
  have hpm:=hl _ (List.mem_of_getElem? hp)
  have i1:IsQ b l d (qv (b,l,d)) k:=yY hpm.1 hk
  have i2:IsQ c m e (qv (c,m,e)) k:=yY hpm.2 hk
  have htk:(xs.take (i+1)).map pv=(xs.take i).map pv++[(qv (b,l,d),qv (c,m,e))]:=by rw [List.take_add_one,hp];simp [pv]
  refine zE ?_;refine zh ?_;refine zQ ?_;refine Zu 15 (by kernel_rfl) ?_;refine zg ?_;refine zo (zi rfl rfl rfl (by omega) (y:=((b,l,d),(c,m,e))) (hp)) ?_;refine zg ?_;refine zf (vb hs) ?_;refine zg ?_;refine zo (zi rfl rfl rfl (by omega) (y:=((b,l,d),(c,m,e))) (hp)) ?_;refine zg ?_;refine zf (vb hs) ?_;refine zz ?_;refine zo (zB rfl rfl (by decide) rfl (by simp) rfl rfl) ?_;refine zJ ?_;refine Run.append 0 rfl rfl rfl rfl rfl rfl rfl rfl hq (by rw [vO];simp;omega) (fun z hz=>by rw [List.mem_singleton.1 hz];rfl) (by unfold yP;simp;omega) (by unfold yP;simp;omega) fun q20 hq20=>?_;refine zg ?_;refine za ((i+1:Nat):Int) ?_;refine zg ?_
  exact⟨i+1,q20,⟨by omega,hq20⟩,by omega,zL (zb rfl (zb rfl (zb rfl (trivial)))) (by rw [htk,List.flatMap_append];rfl)⟩
 ·have hie:i=xs.length:=by omega
  subst hie
  refine zI ?_;refine zP (yU 0 3 rfl rfl hq (l:=(xs.take xs.length).map pv) (f:=yy) (by simp) rfl (fun _ _=>rfl) (by unfold yP;omega)) ?_;refine zg ?_
  exact zj (zu (e:=by rw [List.take_length]))
theorem zdy {b1 c1:Bool} {l1 d1 m1 e1:List Nat} {x1 y1:Rat} {k1 j1:Nat} [hx1:IsQ b1 l1 d1 x1 k1] [hy1:IsQ c1 m1 e1 y1 j1] {b2 c2:Bool} {l2 d2 m2 e2:List Nat} {x2 y2:Rat} {k2 j2:Nat} [hx2:IsQ b2 l2 d2 x2 k2] [hy2:IsQ c2 m2 e2 y2 j2] (hs:64*(k1+j1+k2+j2)+5000≤131072:=by decide):zp Tryz.prog G 59 [zl [zm b1,zy l1,zy d1,zm c1,zy m1,zy e1],zl [zm b2,zy l2,zy d2,zm c2,zy m2,zy e2]] (zm (decide (x1=x2∧y1=y2))):=by
 refine zs Tryz.func59 ?_;refine zg ?_;refine zf (KU hs) ?_;refine zo ((zZ rfl rfl rfl rfl).sub (yx Qn)) ?_;refine zg ?_
 exact zj zt
theorem ZH {x1 y1 x2 y2:Rat}:zp Tryz.prog G 21 [zl (VK x1 y1),zl (VK x2 y2)] (zm (decide (x1=x2∧y1=y2))):=by
 refine zs Tryz.func21 ?_;refine zr ?_;(iterate 3 refine zz ?_);refine zx ?_;(iterate 4 refine zz ?_)
 refine Run.oneB (ze rfl rfl KT) rfl rfl rfl (fun h1_4=>?_) (fun h1_4=>?_)
 ·refine zg ?_;refine zf KT ?_;refine zg ?_
  exact zj (zu (e:=congrArg zm (decide_eq_decide.2 ⟨fun h=>⟨of_decide_eq_true h1_4,h⟩,fun h=>h.2⟩)))
 ·refine zg ?_
  exact zj (zu (e:=congrArg zm (decide_eq_false (fun h=>of_decide_eq_false h1_4 h.1)).symm))
theorem KV {xs ys:List (Rat×Rat)}:zp Tryz.prog G 18 [zU 6 yy xs,zU 6 yy ys] (zm (decide (xs=ys))):=by
 refine zs Tryz.func18 ?_;refine wT 0 rfl fun ha=>wT 1 rfl fun hb=>?_
 unfold yP at ha hb
 refine zr ?_;refine zz ?_;refine zJ ?_;refine zh ?_;refine zg ?_;refine zd (fun _ k10=>?_) fun _ k10=>?_
 ·refine zg ?_
  exact zj (zu (e:=congrArg zm (decide_eq_false (fun h=>k10 (by rw [h]))).symm))
 ·refine zE ?_;refine zh ?_;refine zg ?_
  refine yK (γ:=Nat) (fun i=>⟨_,[(5,intS .i64 (i:Nat)),(1,zU 6 yy ys),(0,zU 6 yy xs)],[],[],(0,false)⟩) (fun i=>i≤xs.length∧∀ j,j<i→xs[j]? =ys[j]?) (fun i=>xs.length-i) 0 ⟨Nat.zero_le _,fun j h=>by omega⟩ (yo zk) ?_
  rintro i ⟨hi,hz⟩
  refine zh ?_;refine zg ?_;refine zd (fun _ k14=>?_) fun _ k14=>?_
  ·have hl:xs.length=ys.length:=by omega
   obtain⟨⟨x1,y1⟩,hx⟩:∃ p,xs[i]? =some p:=⟨_,List.getElem?_eq_getElem (by omega)⟩
   obtain⟨⟨x2,y2⟩,hy⟩:∃ p,ys[i]? =some p:=⟨_,List.getElem?_eq_getElem (by omega)⟩
   refine zE ?_;refine zh ?_;refine zQ ?_;refine zS 10 (by kernel_rfl) ?_;refine zg ?_;refine zo (zi rfl rfl rfl (by omega) (y:=(x1,y1)) (hx)) ?_;refine zg ?_;refine zo (zi rfl rfl rfl (by omega) (y:=(x2,y2)) (hy)) ?_;refine zz ?_;refine zf ZH ?_;refine zg ?_;refine wE (fun h26=>?_) fun h26=>?_
   ·refine zg ?_
    exact zj (zu (e:=congrArg zm (decide_eq_false (fun h=>by rw [h,hy] at hx;cases hx;simp at h26)).symm))
   ·refine zg ?_;refine za ((i+1:Nat):Int) ?_;refine zz ?_;refine zJ ?_
    refine⟨i+1,⟨by omega,fun j hj=>?_⟩,by omega,yo zk⟩
    have h26b:decide (x1=x2∧y1=y2)=true:=by simpa using h26
    obtain⟨e1,e2⟩:=of_decide_eq_true h26b
    rcases Nat.lt_or_ge j i with h | h
    ·exact hz j h
    ·rw [show j=i by omega,hx,hy,e1,e2]
  ·refine zI ?_;refine zg ?_;refine zj ?_
   exact⟨_,[],.one (.tmp rfl),List.nil_sublist _,congrArg zm (decide_eq_true (List.ext_getElem? fun j=>by
    rcases Nat.lt_or_ge j i with h | h
    ·exact hz j h
    ·rw [List.getElem?_eq_none (by omega),List.getElem?_eq_none (by omega)])).symm,rfl⟩
end Go.Proofs
namespace Go.Sv
open Go Go.RowKit Go.ChangeShapes Go.WideShapes
section
variable {H:Type} {enc:TypeId×Value→H} {P:Program} {W:World} {Q:List SV→Prop} {t:TypeId} {ts:List TypeId} {ss:List SV}
end
end Go.Sv
namespace Go.Proofs
open Go Go.Sv Num Go.RowKit Go.ChangeShapes Go.WideShapes
theorem Tryz.tab10_of {L:List (String×DataW Unit)} {W:World} (h:laidMet Tryz.prog L W) (hm:("internal/strconv.uint64pow10",YthhamejdmpjjlaaGreatDoor.Rows.laid_internal_strconv_uint64pow10)∈L):Tab10 (wz W):=by
 obtain⟨g0,t0,cs0,f0,p0,hg0,ht0,hv0,hd0⟩:=Lib.laidMet.reads h hm
 have g1:Tryz.prog.globalNamed "internal/strconv.uint64pow10" =some 0:=by kernel_rfl
 have t1:(Tryz.prog.globals[0]?).map (·.type)=some 256:=by kernel_rfl
 obtain rfl:=Option.some.inj (g1.symm.trans hg0)
 obtain rfl:=Option.some.inj (t1.symm.trans ht0)
 have hl:(YthhamejdmpjjlaaGreatDoor.Rows.laid_internal_strconv_uint64pow10:DataW Unit)= .agg (Lib.pow10Tab.map fun z=>.lit (.int .u64 z)):=by kernel_rfl
 rw [hl] at hd0
 have hc:=Kz (k:=.u64) (n:=20) Tryz.underlying256 Tryz.underlying100 (by kernel_rfl) (by kernel_rfl) (by kernel_rfl) hd0
 refine⟨(zax hg0 hv0).trans ?_⟩
 congr 1
 exact Array.ext' hc
theorem Tryz.maxLen_of {W:World} (h:W.ShapedOpen Tryz.prog):MaxLen (wz W):=by
 obtain⟨m,hm⟩:∃ m,W.cell? ⟨1,0,none⟩=some (.int .i64 m):=Go.Proofs.cell_of_shapedOpen_int (zero:= #[.int .i64 0]) (t:=3) h (of_decide_eq_true (by kernel_rfl)) (by kernel_rfl) rfl (by kernel_rfl) (by kernel_rfl) Tryz.underlying3
 unfold World.cell? at hm
 split at hm
 ·rename_i c e f hb
  exact⟨c,m,by unfold wz;rw [show W.heap[1]? =some (.cells c e f) from hb],by simpa using hm⟩
 ·cases hm
theorem Tryz.tab64_of {L:List (String×DataW Unit)} {W:World} (h:laidMet Tryz.prog L W) (hm:("math/bits.deBruijn64tab",YthhamejdmpjjlaaGreatDoor.Rows.laid_math_bits_deBruijn64tab)∈L):Tab (wz W):=by
 obtain⟨g0,t0,cs0,f0,p0,hg0,ht0,hv0,hd0⟩:=Lib.laidMet.reads h hm
 have g1:Tryz.prog.globalNamed "math/bits.deBruijn64tab" =some 5:=by kernel_rfl
 have t1:(Tryz.prog.globals[5]?).map (·.type)=some 366:=by kernel_rfl
 obtain rfl:=Option.some.inj (g1.symm.trans hg0)
 obtain rfl:=Option.some.inj (t1.symm.trans ht0)
 have hl:(YthhamejdmpjjlaaGreatDoor.Rows.laid_math_bits_deBruijn64tab:DataW Unit)= .agg ((Lib.deBruijn64tab.map fun n=>((n:Nat):Int)).map fun z=>.lit (.int .u8 z)):=by kernel_rfl
 rw [hl] at hd0
 have hc:=Kz (k:=.u8) (n:=64) Tryz.underlying366 Tryz.underlying5 (by kernel_rfl) (by kernel_rfl) (by kernel_rfl) hd0
 refine⟨(zax hg0 hv0).trans ?_⟩
 rw [zmL]
 congr 1
 rw [List.map_map] at hc
 exact Array.ext' hc
end Go.Proofs
