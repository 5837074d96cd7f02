/- joins in order: partition. -/
import Derived.Test.YthhamejdmpjjlaaGreatDoorSpp
import Derived.Test.YthhamejdmpjjlaaGreatDoorSgf
import Derived.Test.YthhamejdmpjjlaaGreatDoorScg
namespace Num
open Go Go.Sort
section
variable {α:Type} [Inhabited α] {p:α→Bool} {d:Array α} {i j:Nat}
theorem up_go (h:i≤j) (hp:p d[i]! =true):scanUp p d j i=scanUp p d j (i+1):=by rw [scanUp,if_pos (by simp [h,hp])]
theorem up_stop (h:¬ i≤j∨p d[i]! =false):scanUp p d j i=i:=by
 rw [scanUp,if_neg]
 rcases h with h | h <;> simp [h]
theorem down_go (h0:0<j) (h:i≤j) (hp:p d[j]! =true):scanDown p d i j=scanDown p d i (j-1):=by
 obtain⟨k,rfl⟩:∃ k,j=k+1:=⟨j-1,by omega⟩
 rw [scanDown,if_pos (by simp [h,hp])];rfl
theorem down_stop (h:¬ i≤j∨p d[j]! =false):scanDown p d i j=j:=by
  cases j with
  | zero=>rw [scanDown]
  | succ k=>
    rw [scanDown,if_neg]
    rcases h with h | h <;> simp [h]
theorem loop_stop {lt:α→α→Bool} {a i2 j2:Nat} (h1:scanUp (fun x=>lt x d[a]!) d j i=i2) (h2:scanDown (fun x=> !lt x d[a]!) d i2 j=j2) (h:j2<i2):partLoop lt a i j d=(j2,d):=by
 rw [partLoop];simp only [h1,h2];rw [if_pos h]
theorem loop_go {lt:α→α→Bool} {a i2 j2:Nat} (h1:scanUp (fun x=>lt x d[a]!) d j i=i2) (h2:scanDown (fun x=> !lt x d[a]!) d i2 j=j2) (h:i2≤j2) (hi:i≤i2) (hj:j2≤j) (h0:0<j2):partLoop lt a i j d=partLoop lt a (i2+1) (j2-1) (swp d i2 j2):=by
 rw [partLoop];simp only [h1,h2];rw [if_neg (by omega),dif_pos (by omega)]
end
end Num
namespace Go.Proofs
open Go Go.Sv Num
variable {G:Imm}
theorem zqL {d:Array Jp} {bb cc n:Nat} {fl:FuncId} {caps:List SV} {lt:Jp→Jp→Bool} {p:Jp→Prop} (hd:d.size=n) (hn:n≤1000000) (hp:∀ x∈d.toList,p x) (hlt:uF Tryz.prog G vl p lt fl caps) {a b pv:Nat} (hab:a<b) (hb:b≤n) (hpa:a≤pv) (hpb:pv<b):CallSpec Tryz.prog G 366 [eqS (rowV (some (bb,cc)) n),intS .i64 (a:Nat),intS .i64 (b:Nat),intS .i64 (pv:Nat),wp fl caps] [rowE (some (bb,cc)) 295 2 n (vZ vl d)] (fun v H1=>v=xn [intS .i64 ((Sort.partition lt d a b pv).1:Nat),zm (Sort.partition lt d a b pv).2.1]∧H1=[rowE (some (bb,cc)) 295 2 n (vZ vl (Sort.partition lt d a b pv).2.2)]):=by
 obtain⟨D0,hD0⟩:∃ D,D=Sort.swp d a pv:=⟨_,rfl⟩
 have sz0:D0.size=n:=by rw [hD0,Sort.swp_size];exact hd
 have hp0:∀ x∈D0.toList,p x:=by rw [hD0];exact Vg hp (by omega) (by omega)
 refine zs Tryz.func366 ?_;refine zr ?_;(iterate 2 refine zz ?_);refine zJ ?_;refine wH 16 [13,15] _ (by kernel_rfl) (.cons _ .slnil) ?_;(iterate 2 refine RunE.one (zG rfl rfl) rfl rfl rfl (by kernel_rfl) ?_);(iterate 2 refine RunE.lat (zG rfl rfl) rfl rfl rfl ?_);(iterate 2 refine RunE.one (zG rfl rfl) rfl rfl rfl (by kernel_rfl) ?_);refine RunE.one ((yG (pv) rfl rfl rfl rfl (by omega))) rfl rfl rfl (by kernel_rfl) ?_;refine RunE.one ((yO 0 (f:=vl) (fun _=>rfl) (d:=d) (i:=pv) (by omega) rfl rfl rfl)) rfl rfl rfl (by kernel_rfl) ?_;(iterate 2 refine RunE.one (zG rfl rfl) rfl rfl rfl (by kernel_rfl) ?_);refine RunE.one ((yG (a) rfl rfl rfl rfl (by omega))) rfl rfl rfl (by kernel_rfl) ?_;refine RunE.one ((yO 0 (f:=vl) (fun _=>rfl) (d:=d) (i:=a) (by omega) rfl rfl rfl)) rfl rfl rfl (by kernel_rfl) ?_;refine RunE.one ((yG (a) rfl rfl rfl rfl (by omega))) rfl rfl rfl (by kernel_rfl) ?_
 refine RunE.nil ⟨_,rfl,?_⟩
 refine .loc1n 0 (wC (f:=vl) (fun _=>rfl) (d:=d) (i:=a) (by omega) d[pv]! rfl rfl rfl) rfl rfl rfl ?_
 rintro s1 H1 ⟨rfl,rfl⟩
 refine⟨(.cons _ .slnil),?_⟩
 refine RunE.one ((yG (pv) rfl rfl rfl rfl (by omega))) rfl rfl rfl (by kernel_rfl) ?_
 refine RunE.nil ⟨_,rfl,?_⟩
 refine .loc1n 0 (wC (f:=vl) (fun _=>rfl) (d:=d.setIfInBounds a d[pv]!) (i:=pv) (by rw [Array.size_setIfInBounds];omega) d[a]! rfl rfl rfl) rfl rfl rfl ?_
 rintro s2 H2 ⟨rfl,rfl⟩
 refine⟨(.cons _ .slnil),?_⟩
 refine RunE.nil ?_
 rw [show (d.setIfInBounds a d[pv]!).setIfInBounds pv d[a]! =D0 from hD0.symm]
 refine zx ?_;refine zz ?_;refine za ((a+1:Nat):Int) ?_;refine zz ?_;refine za ((b-1:Nat):Int) ?_;(iterate 2 refine zz ?_);refine zJ ?_;refine xS (K:=fun S1=>∃ i2:Nat,(a+1)≤i2∧i2≤b∧Sort.scanUp (fun x=>lt x D0[a]!) D0 (b-1) (a+1)=i2∧Ent S1 ⟨178,[(12,intS .i64 (i2:Nat)),(13,intS .i64 ((b-1):Nat)),(0,eqS (rowV (some (bb,cc)) n)),(1,intS .i64 (a:Nat)),(4,wp fl caps)],[rowE (some (bb,cc)) 295 2 n (vZ vl D0)],[],(0,false)⟩) ?_ ?_
 ·refine zQ ?_
  refine yK (γ:=Nat) (fun i1=>⟨_,[(12,intS .i64 (i1:Nat)),(13,intS .i64 ((b-1):Nat)),(0,eqS (rowV (some (bb,cc)) n)),(1,intS .i64 (a:Nat)),(4,wp fl caps)],[rowE (some (bb,cc)) 295 2 n (vZ vl D0)],[],(0,false)⟩) (fun i1=>(a+1)≤i1∧i1≤b∧Sort.scanUp (fun x=>lt x D0[a]!) D0 (b-1) i1=Sort.scanUp (fun x=>lt x D0[a]!) D0 (b-1) (a+1)) (fun i1=>b-i1) ((a+1)) ⟨Nat.le_refl _,by omega,rfl⟩ (zL zk rfl) ?_
  rintro i1 ⟨hi1,hi1b,hI1⟩
  refine zh ?_;refine zS 16 (by kernel_rfl) ?_;(iterate 2 refine zz ?_)
  refine Run.oneB (zZ rfl rfl rfl rfl) rfl rfl rfl (fun h3_2=>?_) (fun h3_2=>?_)
  ·have k3_2:=of_decide_eq_true h3_2
   obtain⟨z,hz1,hz2⟩:=hlt _ _ (xO hp0 (i:=i1) (by omega)) (xO hp0 (i:=a) (by omega))
   (iterate 4 refine zz ?_);refine zo ((yG (i1) rfl rfl rfl rfl (by omega))) ?_;refine zo ((yO 0 (f:=vl) (fun _=>rfl) (d:=D0) (i:=i1) (by omega) rfl rfl rfl)) ?_;(iterate 2 refine zz ?_);refine zo ((yG (a) rfl rfl rfl rfl (by omega))) ?_;refine zo ((yO 0 (f:=vl) (fun _=>rfl) (d:=D0) (i:=a) (by omega) rfl rfl rfl)) ?_;refine zo ((yI rfl rfl rfl hz1)) ?_;(iterate 2 refine zz ?_);(iterate 2 refine zJ ?_);refine wE (fun h47=>?_) fun h47=>?_
   ·have k47:=of_decide_eq_true h47
    refine zE ?_;refine zQ ?_;refine zO ?_;refine zz ?_;refine za ((i1+1:Nat):Int) ?_;refine zz ?_;refine zJ ?_
    exact⟨i1+1,⟨by omega,by omega,(Num.up_go (p:=fun x=>lt x D0[a]!) (i:=i1) (by omega) (hz2.symm.trans h47)).symm.trans hI1⟩,by omega,zL zk rfl⟩
   ·have k47:=of_decide_eq_false h47
    refine zI ?_
    exact⟨i1,by omega,by omega,hI1.symm.trans (Num.up_stop (.inr (hz2.symm.trans h47))),zL zk rfl⟩
  ·have k3_2:=of_decide_eq_false h3_2
   refine zz ?_;(iterate 11 refine zq ?_);refine zz ?_;(iterate 2 refine zJ ?_);refine yM rfl rfl ?_;refine zI ?_
   exact⟨i1,by omega,by omega,hI1.symm.trans (Num.up_stop (.inl (by omega))),zL zk rfl⟩
 ·rintro S1 ⟨i2,hi2a,hi2b,hi2,hS1⟩
  refine wG hS1 ?_;refine xS (K:=fun S1=>∃ j2:Nat,a≤j2∧j2≤(b-1)∧Sort.scanDown (fun x=> !lt x D0[a]!) D0 i2 ((b-1))=j2∧Ent S1 ⟨178,[(12,intS .i64 (i2:Nat)),(13,intS .i64 (j2:Nat)),(0,eqS (rowV (some (bb,cc)) n)),(1,intS .i64 (a:Nat)),(4,wp fl caps)],[rowE (some (bb,cc)) 295 2 n (vZ vl D0)],[],(0,false)⟩) ?_ ?_
  ·refine zQ ?_
   refine yK (γ:=Nat) (fun j1=>⟨_,[(12,intS .i64 (i2:Nat)),(13,intS .i64 (j1:Nat)),(0,eqS (rowV (some (bb,cc)) n)),(1,intS .i64 (a:Nat)),(4,wp fl caps)],[rowE (some (bb,cc)) 295 2 n (vZ vl D0)],[],(0,false)⟩) (fun j1=>a≤j1∧j1≤(b-1)∧Sort.scanDown (fun x=> !lt x D0[a]!) D0 i2 j1=Sort.scanDown (fun x=> !lt x D0[a]!) D0 i2 ((b-1))) (fun j1=>j1) ((b-1)) ⟨by omega,Nat.le_refl _,rfl⟩ (zL zk rfl) ?_
   rintro j1 ⟨hj1,hj1b,hJ1⟩
   refine zh ?_;refine zS 17 (by kernel_rfl) ?_;(iterate 2 refine zz ?_)
   refine Run.oneB (zZ rfl rfl rfl rfl) rfl rfl rfl (fun h5_2=>?_) (fun h5_2=>?_)
   ·have k5_2:=of_decide_eq_true h5_2
    obtain⟨z,hz1,hz2⟩:=hlt _ _ (xO hp0 (i:=j1) (by omega)) (xO hp0 (i:=a) (by omega))
    (iterate 4 refine zz ?_);refine zo ((yG (j1) rfl rfl rfl rfl (by omega))) ?_;refine zo ((yO 0 (f:=vl) (fun _=>rfl) (d:=D0) (i:=j1) (by omega) rfl rfl rfl)) ?_;(iterate 2 refine zz ?_);refine zo ((yG (a) rfl rfl rfl rfl (by omega))) ?_;refine zo ((yO 0 (f:=vl) (fun _=>rfl) (d:=D0) (i:=a) (by omega) rfl rfl rfl)) ?_;refine zo ((yI rfl rfl rfl hz1)) ?_;(iterate 3 refine zz ?_);(iterate 2 refine zJ ?_);refine wE (fun h66=>?_) fun h66=>?_
    ·refine zE ?_;refine zQ ?_;refine zO ?_;refine zz ?_;refine za ((j1-1:Nat):Int) ?_;refine zz ?_;refine zJ ?_
     exact⟨j1-1,⟨by omega,by omega,(Num.down_go (by omega) (by omega) (by show (!lt _ _)=true;rw [←hz2];exact h66)).symm.trans hJ1⟩,by omega,zL (zb rfl (zb rfl (zb rfl (zb rfl (zb rfl (trivial)))))) rfl⟩
    ·refine zI ?_
     exact⟨j1,by omega,by omega,hJ1.symm.trans (Num.down_stop (.inr (by show (!lt _ _)=false;rw [←hz2];exact h66))),zL (zb rfl (zb rfl (zb rfl (zb rfl (zb rfl (trivial)))))) rfl⟩
   ·have k5_2:=of_decide_eq_false h5_2
    refine zz ?_;(iterate 12 refine zq ?_);refine zz ?_;(iterate 2 refine zJ ?_);refine yM rfl rfl ?_;refine zI ?_
    exact⟨j1,by omega,by omega,hJ1.symm.trans (Num.down_stop (.inl (by omega))),zL zk rfl⟩
  ·rintro S1 ⟨j2,hj2a,hj2b,hj2,hS1⟩
   refine wG hS1 ?_;refine zh ?_;refine zr ?_;(iterate 3 refine zz ?_);refine zJ ?_;refine wE (fun h71=>?_) fun h71=>?_
   ·have k71:=of_decide_eq_true h71
    have hR:Sort.partition lt d a b pv=(j2,true,Sort.swp D0 j2 a):=by
     unfold Sort.partition;simp only [←hD0,hi2,hj2];rw [if_pos (by omega)]
    refine wH 16 [13,15] _ (by kernel_rfl) (.cons _ .slnil) ?_;(iterate 2 refine RunE.one (zG rfl rfl) rfl rfl rfl (by kernel_rfl) ?_);(iterate 2 refine RunE.lat (zG rfl rfl) rfl rfl rfl ?_);(iterate 2 refine RunE.one (zG rfl rfl) rfl rfl rfl (by kernel_rfl) ?_);refine RunE.one ((yG (a) rfl rfl rfl rfl (by omega))) rfl rfl rfl (by kernel_rfl) ?_;refine RunE.one ((yO 0 (f:=vl) (fun _=>rfl) (d:=D0) (i:=a) (by omega) rfl rfl rfl)) rfl rfl rfl (by kernel_rfl) ?_;(iterate 2 refine RunE.one (zG rfl rfl) rfl rfl rfl (by kernel_rfl) ?_);refine RunE.one ((yG (j2) rfl rfl rfl rfl (by omega))) rfl rfl rfl (by kernel_rfl) ?_;refine RunE.one ((yO 0 (f:=vl) (fun _=>rfl) (d:=D0) (i:=j2) (by omega) rfl rfl rfl)) rfl rfl rfl (by kernel_rfl) ?_;refine RunE.one ((yG (j2) rfl rfl rfl rfl (by omega))) rfl rfl rfl (by kernel_rfl) ?_
    refine RunE.nil ⟨_,rfl,?_⟩
    refine .loc1n 0 (wC (f:=vl) (fun _=>rfl) (d:=D0) (i:=j2) (by omega) D0[a]! rfl rfl rfl) rfl rfl rfl ?_
    rintro s1 H1 ⟨rfl,rfl⟩
    refine⟨(.cons _ .slnil),?_⟩
    refine RunE.one ((yG (a) rfl rfl rfl rfl (by omega))) rfl rfl rfl (by kernel_rfl) ?_
    refine RunE.nil ⟨_,rfl,?_⟩
    refine .loc1n 0 (wC (f:=vl) (fun _=>rfl) (d:=D0.setIfInBounds j2 D0[a]!) (i:=a) (by rw [Array.size_setIfInBounds];omega) D0[j2]! rfl rfl rfl) rfl rfl rfl ?_
    rintro s2 H2 ⟨rfl,rfl⟩
    refine⟨(.cons _ .slnil),?_⟩
    refine RunE.nil ?_;refine zx ?_;(iterate 3 refine zz ?_);refine zJ ?_;refine zj ?_
    exact⟨_,[_],.many (.cons (.tmp rfl) (.cons (.tmp rfl) .nil)),List.Sublist.refl _,by rw [hR] <;> rfl,by rw [hR] <;> rfl⟩
   ·have k71:=of_decide_eq_false h71
    obtain⟨D1,hD1⟩:∃ D,D=Sort.swp D0 i2 j2:=⟨_,rfl⟩
    have sz1:D1.size=n:=by rw [hD1,Sort.swp_size];exact sz0
    have hp1:∀ x∈D1.toList,p x:=by rw [hD1];exact Vg hp0 (by omega) (by omega)
    have hR:Sort.partition lt d a b pv=((Sort.partLoop lt a (i2+1) (j2-1) D1).1,false,Sort.swp (Sort.partLoop lt a (i2+1) (j2-1) D1).2 (Sort.partLoop lt a (i2+1) (j2-1) D1).1 a):=by
     unfold Sort.partition;simp only [←hD0,hi2,hj2];rw [if_neg (by omega),hD1]
    refine zE ?_;refine wH 16 [13,15] _ (by kernel_rfl) (.cons _ .slnil) ?_;(iterate 2 refine RunE.one (zG rfl rfl) rfl rfl rfl (by kernel_rfl) ?_);(iterate 2 refine RunE.lat (zG rfl rfl) rfl rfl rfl ?_);(iterate 2 refine RunE.one (zG rfl rfl) rfl rfl rfl (by kernel_rfl) ?_);refine RunE.one ((yG (j2) rfl rfl rfl rfl (by omega))) rfl rfl rfl (by kernel_rfl) ?_;refine RunE.one ((yO 0 (f:=vl) (fun _=>rfl) (d:=D0) (i:=j2) (by omega) rfl rfl rfl)) rfl rfl rfl (by kernel_rfl) ?_;(iterate 2 refine RunE.one (zG rfl rfl) rfl rfl rfl (by kernel_rfl) ?_);refine RunE.one ((yG (i2) rfl rfl rfl rfl (by omega))) rfl rfl rfl (by kernel_rfl) ?_;refine RunE.one ((yO 0 (f:=vl) (fun _=>rfl) (d:=D0) (i:=i2) (by omega) rfl rfl rfl)) rfl rfl rfl (by kernel_rfl) ?_;refine RunE.one ((yG (i2) rfl rfl rfl rfl (by omega))) rfl rfl rfl (by kernel_rfl) ?_
    refine RunE.nil ⟨_,rfl,?_⟩
    refine .loc1n 0 (wC (f:=vl) (fun _=>rfl) (d:=D0) (i:=i2) (by omega) D0[j2]! rfl rfl rfl) rfl rfl rfl ?_
    rintro s1 H1 ⟨rfl,rfl⟩
    refine⟨(.cons _ .slnil),?_⟩
    refine RunE.one ((yG (j2) rfl rfl rfl rfl (by omega))) rfl rfl rfl (by kernel_rfl) ?_
    refine RunE.nil ⟨_,rfl,?_⟩
    refine .loc1n 0 (wC (f:=vl) (fun _=>rfl) (d:=D0.setIfInBounds i2 D0[j2]!) (i:=j2) (by rw [Array.size_setIfInBounds];omega) D0[i2]! rfl rfl rfl) rfl rfl rfl ?_
    rintro s2 H2 ⟨rfl,rfl⟩
    refine⟨(.cons _ .slnil),?_⟩
    refine RunE.nil ?_
    rw [show (D0.setIfInBounds i2 D0[j2]!).setIfInBounds j2 D0[i2]! =D1 from hD1.symm]
    refine zx ?_;refine zz ?_;refine za ((i2+1:Nat):Int) ?_;refine zz ?_;refine zx ?_;refine zz ?_;refine za ((j2-1:Nat):Int) ?_;refine zz ?_;refine zJ ?_;refine zh ?_;refine zQ ?_
    refine Zh (fun (i j:Nat) (D:Array Jp)=>⟨_,[(12,intS .i64 (i:Nat)),(13,intS .i64 (j:Nat)),(0,eqS (rowV (some (bb,cc)) n)),(1,intS .i64 (a:Nat)),(4,wp fl caps)],[rowE (some (bb,cc)) 295 2 n (vZ vl D)],[],(0,false)⟩) (fun i j D=>a+1≤i∧i≤b∧a≤j∧j<b∧D.size=n∧(∀x∈D.toList,p x)∧Sort.partLoop lt a i j D=Sort.partLoop lt a (i2+1) (j2-1) D1) (fun i j _=>j+1-i) (i2+1) (j2-1) D1 ⟨by omega,by omega,by omega,by omega,sz1,hp1,rfl⟩ (zL zk rfl) ?_
    rintro i j D ⟨hia,hib,hja,hjb,hDs,hDp,hDl⟩
    refine zQ ?_;refine xS (K:=fun S1=>∃ i3:Nat,i≤i3∧i3≤b∧Sort.scanUp (fun x=>lt x D[a]!) D j i=i3∧Ent S1 ⟨178,[(12,intS .i64 (i3:Nat)),(13,intS .i64 (j:Nat)),(0,eqS (rowV (some (bb,cc)) n)),(1,intS .i64 (a:Nat)),(4,wp fl caps)],[rowE (some (bb,cc)) 295 2 n (vZ vl D)],[],(0,false)⟩) ?_ ?_
    ·refine zQ ?_
     refine yK (γ:=Nat) (fun i1=>⟨_,[(12,intS .i64 (i1:Nat)),(13,intS .i64 (j:Nat)),(0,eqS (rowV (some (bb,cc)) n)),(1,intS .i64 (a:Nat)),(4,wp fl caps)],[rowE (some (bb,cc)) 295 2 n (vZ vl D)],[],(0,false)⟩) (fun i1=>i≤i1∧i1≤b∧Sort.scanUp (fun x=>lt x D[a]!) D j i1=Sort.scanUp (fun x=>lt x D[a]!) D j i) (fun i1=>b-i1) (i) ⟨Nat.le_refl _,by omega,rfl⟩ (zL zk rfl) ?_
     rintro i1 ⟨hi1,hi1b,hI1⟩
     refine zh ?_;refine zS 16 (by kernel_rfl) ?_;(iterate 2 refine zz ?_)
     refine Run.oneB (zZ rfl rfl rfl rfl) rfl rfl rfl (fun h13_2=>?_) (fun h13_2=>?_)
     ·have k13_2:=of_decide_eq_true h13_2
      obtain⟨z,hz1,hz2⟩:=hlt _ _ (xO hDp (i:=i1) (by omega)) (xO hDp (i:=a) (by omega))
      (iterate 4 refine zz ?_);refine zo ((yG (i1) rfl rfl rfl rfl (by omega))) ?_;refine zo ((yO 0 (f:=vl) (fun _=>rfl) (d:=D) (i:=i1) (by omega) rfl rfl rfl)) ?_;(iterate 2 refine zz ?_);refine zo ((yG (a) rfl rfl rfl rfl (by omega))) ?_;refine zo ((yO 0 (f:=vl) (fun _=>rfl) (d:=D) (i:=a) (by omega) rfl rfl rfl)) ?_;refine zo ((yI rfl rfl rfl hz1)) ?_;(iterate 2 refine zz ?_);(iterate 2 refine zJ ?_);refine wE (fun h120=>?_) fun h120=>?_
      ·have k120:=of_decide_eq_true h120
       refine zE ?_;refine zQ ?_;refine zO ?_;refine zz ?_;refine za ((i1+1:Nat):Int) ?_;refine zz ?_;refine zJ ?_
       exact⟨i1+1,⟨by omega,by omega,(Num.up_go (p:=fun x=>lt x D[a]!) (i:=i1) (by omega) (hz2.symm.trans h120)).symm.trans hI1⟩,by omega,zL zk rfl⟩
      ·have k120:=of_decide_eq_false h120
       refine zI ?_
       exact⟨i1,by omega,by omega,hI1.symm.trans (Num.up_stop (.inr (hz2.symm.trans h120))),zL zk rfl⟩
     ·have k13_2:=of_decide_eq_false h13_2
      refine zz ?_;(iterate 11 refine zq ?_);refine zz ?_;(iterate 2 refine zJ ?_);refine yM rfl rfl ?_;refine zI ?_
      exact⟨i1,by omega,by omega,hI1.symm.trans (Num.up_stop (.inl (by omega))),zL zk rfl⟩
    ·rintro S1 ⟨i3,hi3a,hi3b,hi3,hS1⟩
     refine wG hS1 ?_;refine xS (K:=fun S1=>∃ j3:Nat,a≤j3∧j3≤j∧Sort.scanDown (fun x=> !lt x D[a]!) D i3 (j)=j3∧Ent S1 ⟨178,[(12,intS .i64 (i3:Nat)),(13,intS .i64 (j3:Nat)),(0,eqS (rowV (some (bb,cc)) n)),(1,intS .i64 (a:Nat)),(4,wp fl caps)],[rowE (some (bb,cc)) 295 2 n (vZ vl D)],[],(0,false)⟩) ?_ ?_
     ·refine zQ ?_
      refine yK (γ:=Nat) (fun j1=>⟨_,[(12,intS .i64 (i3:Nat)),(13,intS .i64 (j1:Nat)),(0,eqS (rowV (some (bb,cc)) n)),(1,intS .i64 (a:Nat)),(4,wp fl caps)],[rowE (some (bb,cc)) 295 2 n (vZ vl D)],[],(0,false)⟩) (fun j1=>a≤j1∧j1≤j∧Sort.scanDown (fun x=> !lt x D[a]!) D i3 j1=Sort.scanDown (fun x=> !lt x D[a]!) D i3 (j)) (fun j1=>j1) (j) ⟨by omega,Nat.le_refl _,rfl⟩ (zL zk rfl) ?_
      rintro j1 ⟨hj1,hj1b,hJ1⟩
      refine zh ?_;refine zS 17 (by kernel_rfl) ?_;(iterate 2 refine zz ?_)
      refine Run.oneB (zZ rfl rfl rfl rfl) rfl rfl rfl (fun h15_2=>?_) (fun h15_2=>?_)
      ·have k15_2:=of_decide_eq_true h15_2
       obtain⟨z,hz1,hz2⟩:=hlt _ _ (xO hDp (i:=j1) (by omega)) (xO hDp (i:=a) (by omega))
       (iterate 4 refine zz ?_);refine zo ((yG (j1) rfl rfl rfl rfl (by omega))) ?_;refine zo ((yO 0 (f:=vl) (fun _=>rfl) (d:=D) (i:=j1) (by omega) rfl rfl rfl)) ?_;(iterate 2 refine zz ?_);refine zo ((yG (a) rfl rfl rfl rfl (by omega))) ?_;refine zo ((yO 0 (f:=vl) (fun _=>rfl) (d:=D) (i:=a) (by omega) rfl rfl rfl)) ?_;refine zo ((yI rfl rfl rfl hz1)) ?_;(iterate 3 refine zz ?_);(iterate 2 refine zJ ?_);refine wE (fun h139=>?_) fun h139=>?_
       ·refine zE ?_;refine zQ ?_;refine zO ?_;refine zz ?_;refine za ((j1-1:Nat):Int) ?_;refine zz ?_;refine zJ ?_
        exact⟨j1-1,⟨by omega,by omega,(Num.down_go (by omega) (by omega) (by show (!lt _ _)=true;rw [←hz2];exact h139)).symm.trans hJ1⟩,by omega,zL (zb rfl (zb rfl (zb rfl (zb rfl (zb rfl (trivial)))))) rfl⟩
       ·refine zI ?_
        exact⟨j1,by omega,by omega,hJ1.symm.trans (Num.down_stop (.inr (by show (!lt _ _)=false;rw [←hz2];exact h139))),zL (zb rfl (zb rfl (zb rfl (zb rfl (zb rfl (trivial)))))) rfl⟩
      ·have k15_2:=of_decide_eq_false h15_2
       refine zz ?_;(iterate 12 refine zq ?_);refine zz ?_;(iterate 2 refine zJ ?_);refine yM rfl rfl ?_;refine zI ?_
       exact⟨j1,by omega,by omega,hJ1.symm.trans (Num.down_stop (.inl (by omega))),zL zk rfl⟩
     ·rintro S1 ⟨j3,hj3a,hj3b,hj3,hS1⟩
      refine wG hS1 ?_;refine zh ?_;refine zr ?_;(iterate 3 refine zz ?_);refine zJ ?_;refine wE (fun h144=>?_) fun h144=>?_
      ·have k144:=of_decide_eq_true h144
       rw [Num.loop_stop hi3 hj3 (by omega)] at hDl
       rw [←hDl] at hR
       refine zI ?_;refine wH 16 [13,15] _ (by kernel_rfl) (.cons _ .slnil) ?_;(iterate 2 refine RunE.one (zG rfl rfl) rfl rfl rfl (by kernel_rfl) ?_);(iterate 2 refine RunE.lat (zG rfl rfl) rfl rfl rfl ?_);(iterate 2 refine RunE.one (zG rfl rfl) rfl rfl rfl (by kernel_rfl) ?_);refine RunE.one ((yG (a) rfl rfl rfl rfl (by omega))) rfl rfl rfl (by kernel_rfl) ?_;refine RunE.one ((yO 0 (f:=vl) (fun _=>rfl) (d:=D) (i:=a) (by omega) rfl rfl rfl)) rfl rfl rfl (by kernel_rfl) ?_;(iterate 2 refine RunE.one (zG rfl rfl) rfl rfl rfl (by kernel_rfl) ?_);refine RunE.one ((yG (j3) rfl rfl rfl rfl (by omega))) rfl rfl rfl (by kernel_rfl) ?_;refine RunE.one ((yO 0 (f:=vl) (fun _=>rfl) (d:=D) (i:=j3) (by omega) rfl rfl rfl)) rfl rfl rfl (by kernel_rfl) ?_;refine RunE.one ((yG (j3) rfl rfl rfl rfl (by omega))) rfl rfl rfl (by kernel_rfl) ?_
       refine RunE.nil ⟨_,rfl,?_⟩
       refine .loc1n 0 (wC (f:=vl) (fun _=>rfl) (d:=D) (i:=j3) (by omega) D[a]! rfl rfl rfl) rfl rfl rfl ?_
       rintro s1 H1 ⟨rfl,rfl⟩
       refine⟨(.cons _ .slnil),?_⟩
       refine RunE.one ((yG (a) rfl rfl rfl rfl (by omega))) rfl rfl rfl (by kernel_rfl) ?_
       refine RunE.nil ⟨_,rfl,?_⟩
       refine .loc1n 0 (wC (f:=vl) (fun _=>rfl) (d:=D.setIfInBounds j3 D[a]!) (i:=a) (by rw [Array.size_setIfInBounds];omega) D[j3]! rfl rfl rfl) rfl rfl rfl ?_
       rintro s2 H2 ⟨rfl,rfl⟩
       refine⟨(.cons _ .slnil),?_⟩
       refine RunE.nil ?_;refine zx ?_;(iterate 3 refine zz ?_);refine zJ ?_;refine zj ?_
       exact⟨_,[_],.many (.cons (.tmp rfl) (.cons (.tmp rfl) .nil)),List.Sublist.refl _,by rw [hR] <;> rfl,by rw [hR] <;> rfl⟩
      ·have k144:=of_decide_eq_false h144
       rw [Num.loop_go hi3 hj3 (by omega) hi3a hj3b (by omega)] at hDl
       refine zE ?_;refine wH 16 [13,15] _ (by kernel_rfl) (.cons _ .slnil) ?_;(iterate 2 refine RunE.one (zG rfl rfl) rfl rfl rfl (by kernel_rfl) ?_);(iterate 2 refine RunE.lat (zG rfl rfl) rfl rfl rfl ?_);(iterate 2 refine RunE.one (zG rfl rfl) rfl rfl rfl (by kernel_rfl) ?_);refine RunE.one ((yG (j3) rfl rfl rfl rfl (by omega))) rfl rfl rfl (by kernel_rfl) ?_;refine RunE.one ((yO 0 (f:=vl) (fun _=>rfl) (d:=D) (i:=j3) (by omega) rfl rfl rfl)) rfl rfl rfl (by kernel_rfl) ?_;(iterate 2 refine RunE.one (zG rfl rfl) rfl rfl rfl (by kernel_rfl) ?_);refine RunE.one ((yG (i3) rfl rfl rfl rfl (by omega))) rfl rfl rfl (by kernel_rfl) ?_;refine RunE.one ((yO 0 (f:=vl) (fun _=>rfl) (d:=D) (i:=i3) (by omega) rfl rfl rfl)) rfl rfl rfl (by kernel_rfl) ?_;refine RunE.one ((yG (i3) rfl rfl rfl rfl (by omega))) rfl rfl rfl (by kernel_rfl) ?_
       refine RunE.nil ⟨_,rfl,?_⟩
       refine .loc1n 0 (wC (f:=vl) (fun _=>rfl) (d:=D) (i:=i3) (by omega) D[j3]! rfl rfl rfl) rfl rfl rfl ?_
       rintro s1 H1 ⟨rfl,rfl⟩
       refine⟨(.cons _ .slnil),?_⟩
       refine RunE.one ((yG (j3) rfl rfl rfl rfl (by omega))) rfl rfl rfl (by kernel_rfl) ?_
       refine RunE.nil ⟨_,rfl,?_⟩
       refine .loc1n 0 (wC (f:=vl) (fun _=>rfl) (d:=D.setIfInBounds i3 D[j3]!) (i:=j3) (by rw [Array.size_setIfInBounds];omega) D[i3]! rfl rfl rfl) rfl rfl rfl ?_
       rintro s2 H2 ⟨rfl,rfl⟩
       refine⟨(.cons _ .slnil),?_⟩
       refine RunE.nil ?_;refine zx ?_;refine zz ?_;refine za ((i3+1:Nat):Int) ?_;refine zz ?_;refine zJ ?_;refine zO ?_;refine zz ?_;refine za ((j3-1:Nat):Int) ?_;refine zz ?_;refine zJ ?_
       exact⟨i3+1,j3-1,Sort.swp D i3 j3,⟨by omega,by omega,by omega,by omega,by rw [Sort.swp_size];exact hDs,Vg hDp (by omega) (by omega),hDl⟩,by omega,zL (zb rfl (zb rfl (zb rfl (zb rfl (zb rfl (trivial)))))) rfl⟩
end Go.Proofs
namespace Go.Proofs
open Go Go.Sv Num
variable {G:Imm}
def mmJ (p:Jp):Jp:=(min p.1 p.2,max p.1 p.2)
def joD:Array Jp:=(WH.map mmJ).toArray
def zn4:Array Jp:=(Sort.partition zcm joD 0 16 4).2.2
def zn5:Array Jp:=Sort.insertionSort zcm zn4 0 7
def Yl:Array Jp:=Sort.insertionSort zcm zn5 8 16
theorem zeh:joD.size=16:=rfl
theorem zjE:zn4.size=16:=by decide +kernel
theorem zjF:zn5.size=16:=by decide +kernel
theorem zbc:Yl.size=16:=by decide +kernel
theorem zqM:Sort.median zcm joD (0+(16-0)/4*1) (0+(16-0)/4*2) (0+(16-0)/4*3) 0=(4,1):=by decide +kernel
theorem zmc:(Sort.partition zcm joD 0 16 4).1=7∧(Sort.partition zcm joD 0 16 4).2.1=false:=by decide +kernel
theorem zn6 {d:Array Jp}:∀ x∈d.toList,True:=fun _ _=>trivial
theorem zgl {d:Array Jp} {bb cc n:Nat} {fl:FuncId} {caps:List SV} {lt:Jp→Jp→Bool} {p:Jp→Prop} (hd:d.size=n) (hn:n≤1000000) (hp:∀ x∈d.toList,p x) (hlt:uF Tryz.prog G vl p lt fl caps) {a b:Nat} {k:Int} (hab:a≤b) (hb:b≤n) (h12:b≤a+12):CallSpec Tryz.prog G 297 [eqS (rowV (some (bb,cc)) n),intS .i64 (a:Nat),intS .i64 (b:Nat),intS .i64 k,wp fl caps] [rowE (some (bb,cc)) 295 2 n (vZ vl d)] (fun v H1=>v=xn []∧H1=[rowE (some (bb,cc)) 295 2 n (vZ vl (Sort.insertionSort lt d a b))]):=by
 refine zs Tryz.func297 ?_;refine zg ?_;refine wR ?_;refine zg ?_;refine za ((b-a:Nat):Int) ?_;refine zz ?_;refine zJ ?_;refine zh ?_;refine zg ?_;refine zd (fun _ k25=>?_) fun h25 k25=>?_
 ·refine zg ?_;refine Run.callH [] [_] [] rfl rfl rfl rfl (zbb hd hn hp hlt hab hb) rfl rfl rfl ?_
  rintro s30 H30 ⟨rfl,rfl⟩
  refine zJ ?_;refine zj ?_
  exact⟨_,[_],.none,List.Sublist.refl _,rfl,rfl⟩
 ·exact absurd (of_decide_eq_false h25) (by omega)
theorem zpH {bb cc:Nat}:CallSpec Tryz.prog G 297 [eqS (rowV (some (bb,cc)) 16),intS .i64 0,intS .i64 ((16:Nat):Int),intS .i64 5,wp 223 []] [rowE (some (bb,cc)) 295 2 16 (vZ vl joD)] (fun v H1=>v=xn []∧H1=[rowE (some (bb,cc)) 295 2 16 (vZ vl Yl)]):=by
 refine zs Tryz.func297 ?_;refine zg ?_;refine yK (γ:=Nat) (fun g=>⟨_,[(10,zm true),(11,zm (decide (g=0))),(0,eqS (rowV (some (bb,cc)) 16)),(1,intS .i64 ((8*g:Nat):Int)),(2,intS .i64 ((16:Nat):Int)),(3,intS .i64 5),(4,wp 223 [])],[rowE (some (bb,cc)) 295 2 16 (vZ vl (if g=0 then joD else zn5))],[],(0,false)⟩) (fun g=>g≤1) (fun g=>1-g) 0 (Nat.zero_le _) (zL zk rfl) ?_
 intro g hg
 refine zg ?_;refine za ((16-8*g:Nat):Int) ?_;refine zz ?_;refine zJ ?_;refine zh ?_;refine zg ?_;refine zd (fun _ k25=>?_) fun _ k25=>?_
 ·obtain rfl:g=1:=by omega
  refine zg ?_;refine Run.callH [] [_] [] rfl rfl rfl rfl (zbb (d:=zn5) (n:=16) (a:=8) (b:=16) zjF (by decide) zn6 zcn (by decide) (by decide)) rfl rfl rfl ?_
  rintro s30 H30 ⟨rfl,rfl⟩
  refine zJ ?_;refine zj ?_
  exact⟨_,[_],.none,List.Sublist.refl _,rfl,rfl⟩
 ·obtain rfl:g=0:=by omega
  refine zE ?_;refine zh ?_;refine zg ?_;refine zd (fun h32 k32=>?_) fun _ k32=>?_
  ·exact (by simp at h32)
  ·refine zE ?_;refine zh ?_;refine zr ?_;refine zz ?_;refine zo ((ZU rfl rfl).sub (yx (c:=false) rfl)) ?_;refine zJ ?_;refine yM rfl rfl ?_;refine zg ?_;refine Run.callH [] [_] [] rfl rfl rfl rfl ((zpG (d:=joD) (n:=16) (a:=0) (b:=16) zeh (by decide) zn6 zcn (by decide) (by decide) (by decide)).mono (Q':=fun v H1=>v=xn [intS .i64 ((4:Nat):Int),intS .i64 0]∧H1=[rowE (some (bb,cc)) 295 2 16 (vZ vl joD)]) fun v H1 ⟨h1,h2⟩=>⟨by rw [h1,zqM];rfl,h2⟩) rfl rfl rfl ?_
   rintro s52 H52 ⟨rfl,rfl⟩
   (iterate 5 refine zz ?_);refine zJ ?_;refine zh ?_;refine zr ?_;refine zz ?_;refine zo ((zZ rfl rfl rfl rfl).sub (yx (c:=false) (by decide))) ?_;refine zJ ?_;refine yM rfl rfl ?_;refine zE ?_;refine zh ?_;refine zr ?_;(iterate 2 refine zz ?_);refine zo ((zG rfl rfl).sub (yx (c:=true) rfl)) ?_;(iterate 3 refine zz ?_);refine zo ((zZ rfl rfl rfl rfl).sub (yx (c:=false) (by decide))) ?_;refine zg ?_;refine yM rfl rfl ?_;refine zE ?_;refine zh ?_;refine zS 17 (by kernel_rfl) ?_;refine zz ?_;refine zo ((zZ rfl rfl rfl rfl).sub (yx (c:=false) (by decide))) ?_;refine zg ?_;refine yM rfl rfl ?_;refine zg ?_;refine Run.callH [] [_] [] rfl rfl rfl rfl ((zqL (d:=joD) (n:=16) (a:=0) (b:=16) (pv:=4) zeh (by decide) zn6 zcn (by decide) (by decide) (by decide) (by decide)).mono (Q':=fun v H1=>v=xn [intS .i64 ((7:Nat):Int),zm false]∧H1=[rowE (some (bb,cc)) 295 2 16 (vZ vl zn4)]) fun v H1 ⟨h1,h2⟩=>⟨by rw [h1,zmc.1,zmc.2],h2⟩) rfl rfl rfl ?_
   rintro s111 H111 ⟨rfl,rfl⟩
   refine zg ?_;refine zo (yA (z:=7) rfl rfl rfl (congrArg some (by omega)) (wrap_i64 (by omega) (by omega))) ?_;refine zg ?_;refine zo (yA (z:=9) rfl rfl rfl (congrArg some (by omega)) (wrap_i64 (by omega) (by omega))) ?_;refine zg ?_;refine zo ((wU rfl rfl rfl (by decide) (by decide) (wrap_i64 (by decide) (by decide))).sub (zD (n:=2) (by decide))) ?_;refine zz ?_;refine zx ?_;(iterate 2 refine zz ?_);refine zo ((zZ rfl rfl rfl rfl).sub (yx (c:=true) (by decide))) ?_;refine zJ ?_;refine xt rfl rfl ?_;refine zr ?_;(iterate 2 refine zz ?_);refine zo ((zZ rfl rfl rfl rfl).sub (yx (c:=true) (by decide))) ?_;refine zg ?_;refine Run.callH [] [_] [] rfl rfl rfl rfl (zgl (d:=zn4) (n:=16) (a:=0) (b:=7) zjE (by decide) zn6 zcn (by decide) (by decide) (by decide)) rfl rfl rfl ?_
   rintro s134 H134 ⟨rfl,rfl⟩
   refine zg ?_;refine za ((8:Nat):Int) ?_;refine zg ?_
   exact⟨1,(by omega:1≤1),by omega,zL zk rfl⟩
theorem zn7 {bb cc:Nat} (hq:yu (some (bb,cc)) 16):CallSpec Tryz.prog G 222 [eqS (rowV (some (bb,cc)) 16),wp 223 []] [rowE (some (bb,cc)) 295 2 16 (vZ vl joD)] (fun v H1=>v=xn []∧H1=[rowE (some (bb,cc)) 295 2 16 (vZ vl Yl)]):=by
 refine zs Tryz.func222 ?_;refine zg ?_;refine zo (xK rfl rfl hq) ?_;refine zg ?_;refine zo ((yQ (z:=((16:Nat):Int)) rfl rfl (by decide))) ?_;refine zo ((ze rfl rfl (QC (x:=16) (by decide))).sub (zD (n:=5) (by decide))) ?_;refine zz ?_;refine Run.callH [] [_] [] rfl rfl rfl rfl zpH rfl rfl rfl ?_
 rintro s13 H13 ⟨rfl,rfl⟩
 refine zJ ?_
 exact⟨_,[_],.none,List.Sublist.refl _,rfl,rfl⟩
end Go.Proofs
namespace Go.Proofs
open Go Go.Sv Num
variable {G:Imm}
theorem zpI:∀ p∈WH,(0≤p.1∧p.1<9)∧(0≤p.2∧p.2<9):=by decide
theorem zn8:∀ p∈Yl.toList,(0≤p.1∧p.1<9)∧(0≤p.2∧p.2<9):=by decide +kernel
theorem zn9:∀ c∈xv,Bq c.2.2.2.1 1∧Bq c.2.2.2.2 1:=fun c h=>by
 have e:∀ (o t a:Int) (x:Rat),Bq x 1→∀ c∈zgh o t a x,Bq c.2.2.2.1 1∧Bq c.2.2.2.2 1:=fun o t a x hx c h=>by
  rcases List.mem_cons.1 h with rfl | h
  ·exact⟨hx,bqm⟩
  rcases List.mem_cons.1 h with rfl | h
  ·exact⟨hx,bq0⟩
  ·rw [List.mem_singleton.1 h];exact⟨hx,bq1⟩
 rcases List.mem_append.1 h with h | h
 ·exact e _ _ _ _ bqm _ h
 rcases List.mem_append.1 h with h | h
 ·exact e _ _ _ _ bq0 _ h
 ·exact e _ _ _ _ bq1 _ h
theorem zqN [Tab G]:zp Tryz.prog G 161 [zl (mdC (zU 9 XO xv)),zU 1 boR (List.replicate 9 true)] (zU 2 vl Yl.toList):=by
 refine zs Tryz.func161 ?_;refine zg ?_;refine xg fun b4=>?_;refine zg ?_;refine xg fun b5=>?_;refine zw ?_;refine zJ ?_;refine zh ?_;refine zP (uY 0 5 rfl rfl) ?_;refine zP (yL 295 2) ?_;refine zg ?_;refine zf zrq ?_;refine zf zrs ?_;refine zg ?_
 refine ul rfl rfl zrr (fun ss h=>zl7 h) (by decide) rfl
  (fun k h i=>i=(0,false)∧k≤16∧∃ q,yu q k∧h=[rowE q 295 2 k (((WH.map mmJ).take k).flatMap vl),⟨some b4,173,[eqS (rowV q k)],0⟩])
  (fun _ _ _=>False) ⟨rfl,Nat.zero_le _,none,rfl,rfl⟩ ?_ ?_ ?_
 ·rintro l1 k ss h i hk ⟨rfl,hkl,q,hq,rfl⟩
  obtain⟨p,hp,rfl⟩:=zhx hk
  have hlt:k<16:=yt hp
  obtain⟨ha,hb⟩:=zpI p (List.mem_of_getElem? hp)
  have hms:(WH.map mmJ).take (k+1)=(WH.map mmJ).take k++[mmJ p]:=wo (by rw [List.getElem?_map,hp];rfl)
  have hel:((WH.map mmJ).take k).length=k:=by rw [List.length_take,List.length_map,show WH.length=16 from rfl];omega
  refine zr ?_;refine zz ?_;refine zJ ?_;refine zO ?_;refine zz ?_;refine zJ ?_
  refine⟨rfl,?_⟩
  refine zg ?_;refine zo ((yI rfl rfl rfl (isF ha.1 ha.2))) ?_;refine zg ?_;refine zo ((yI rfl rfl rfl (isF hb.1 hb.2))) ?_;refine zg ?_;refine xt rfl rfl ?_;refine zg ?_;refine zo (zB rfl rfl (by decide) rfl (by simp) rfl rfl) ?_;refine Run.append 0 rfl rfl rfl rfl rfl rfl rfl rfl hq (by rw [vu (st:=2) (fun _=>rfl),hel]) (fun z hz=>by rw [List.mem_singleton.1 hz];rfl) (by unfold yP;simp;omega) (by unfold yP;simp;omega) fun q31 hq31=>?_;refine zw ?_;refine zJ ?_
  refine⟨rfl,by omega,q31,hq31,?_⟩
  rw [hms,List.flatMap_append];rfl
 ·rintro h i D ⟨rfl,_,q,hq,rfl⟩
  rw [zhw,show WH.length=16 from rfl] at hq ⊢
  obtain⟨bb,cc,rfl⟩:=zcj hq (by decide)
  refine zg ?_;refine Run.callH [] [_] [_] rfl rfl rfl rfl ((zn7 hq).args (args':=[_,_]) ⟨fun _ _ h=>h,Zx,trivial⟩) rfl rfl rfl ?_
  rintro s33 H33 ⟨rfl,rfl⟩
  refine zJ ?_;refine zP (uZ [] [] [] hq (l:=Yl.toList) (f:=vl) (by rw [Array.length_toList];exact zbc) rfl (fun _ _=>rfl) (by decide)) ?_;refine zg ?_
  exact zj zt
 ·intro h i D e c hc hInv;exact hInv.elim
def rp (z:Int):V2:=(xv.getD z.toNat (0,0,0,(0,0))).2.2.2
def Jt (j:Jp):Rat:=KS (rp j.1).1 (rp j.2).1+KS (rp j.1).2 (rp j.2).2
theorem zei {z:Int} (h0:0≤z) (h1:z<9):∃ c,xv[z.toNat]? =some c∧c.2.2.2=rp z∧Bq c.2.2.2.1 1∧Bq c.2.2.2.2 1:=by
 have h:z.toNat<xv.length:=by rw [show xv.length=9 from rfl];omega
 refine⟨_,List.getElem?_eq_getElem h,?_,zn9 _ (List.getElem_mem h)⟩
 unfold rp;rw [List.getD_eq_getElem?_getD,List.getElem?_eq_getElem h];rfl
theorem zqO [Tab G]:zp Tryz.prog G 162 [zl (mdC (zU 9 XO xv)),zU 2 vl Yl.toList] (zU 3 zR (Yl.toList.map Jt)):=by
 have hl16:Yl.toList.length=16:=by rw [Array.length_toList];exact zbc
 refine zs Tryz.func162 ?_;refine zr ?_;(iterate 2 refine zz ?_);refine zJ ?_;refine zh ?_;refine zP (yL 39 3) ?_;refine zr ?_;refine zz ?_;refine zo ((xh rfl rfl).sub (zD (n:=((16:Nat):Int)) (by rw [hl16]))) ?_;refine zg ?_;refine yX (fun (g:Nat) (q:Option (Nat×Nat))=>⟨_,[(9,intS .i64 (g:Nat)),(8,intS .i64 ((16:Nat):Int)),(7,zU 2 vl Yl.toList),(4,eqS (rowV q g)),(2,zT (mdC (zU 9 XO xv)))],[rowE q 39 3 g (((Yl.toList.map Jt).take g).flatMap zR)],[],(0,false)⟩) (fun g q=>g≤16∧yu q g) (fun g _=>16-g) 0 none ⟨Nat.zero_le _,rfl⟩ (zL zk rfl) ?_
 rintro g q ⟨hg,hq⟩
 refine zr ?_;refine zz ?_;refine zJ ?_;refine zh ?_;refine zd (fun _ k10=>?_) fun _ k10=>?_
 ·obtain⟨j,hj⟩:∃ j,Yl.toList[g]? =some j:=⟨_,List.getElem?_eq_getElem (by omega)⟩
  obtain⟨ha,hb⟩:=zn8 j (List.mem_of_getElem? hj)
  obtain⟨cA,hA,hA1,hA2,hA3⟩:=zei ha.1 ha.2
  obtain⟨cB,hB,hB1,hB2,hB3⟩:=zei hb.1 hb.2
  have hms:(Yl.toList.map Jt).take (g+1)=(Yl.toList.map Jt).take g++[Jt j]:=wo (by rw [List.getElem?_map,hj];rfl)
  have hel:((Yl.toList.map Jt).take g).length=g:=by rw [List.length_take,List.length_map,hl16];omega
  have hlf:KS cA.2.2.2.1 cB.2.2.2.1+KS cA.2.2.2.2 cB.2.2.2.2=Jt j:=by unfold Jt;rw [hA1,hB1]
  refine zE ?_;refine zh ?_;refine zg ?_;refine zo (zi rfl rfl rfl (by omega) (y:=j) (hj)) ?_;refine zz ?_;refine xg fun b6=>?_;refine zw ?_;refine zJ ?_;refine zh ?_;refine zr ?_;refine zz ?_;refine zz ?_;refine zz ?_;refine zz ?_;refine zz ?_;refine zo ((zZ rfl rfl rfl rfl).sub (yx (c:=false) (decide_eq_false (by omega)))) ?_;(iterate 2 refine zz ?_);refine zz ?_;refine zz ?_;refine zz ?_;(iterate 2 refine zz ?_);refine zz ?_;refine zo ((xh rfl rfl).sub (zD (n:=((9:Nat):Int)) rfl)) ?_;refine zo ((zZ rfl rfl rfl rfl).sub (yx (c:=false) (decide_eq_false (by omega)))) ?_;refine zg ?_;refine yM rfl rfl ?_;refine zE ?_;refine vj 18 [17] _ (by kernel_rfl) (.cons_cons _ (.cons _ .slnil)) ?_;refine RunE.one (zG rfl rfl) rfl rfl rfl (by kernel_rfl) ?_;refine RunE.one (zX rfl rfl rfl) rfl rfl rfl (by kernel_rfl) ?_;refine RunE.one ((show OpOK _ _ _ _ _ (zU 9 XO xv) from yN rfl rfl)) rfl rfl rfl (by kernel_rfl) ?_;refine RunE.one (zN rfl rfl rfl) rfl rfl rfl (by kernel_rfl) ?_;refine RunE.one ((show OpOK _ _ _ _ _ (intS .i64 j.1) from yn 0 rfl rfl rfl rfl)) rfl rfl rfl (by kernel_rfl) ?_;refine RunE.one ((zi rfl rfl rfl (by omega) (y:=cA) hA)) rfl rfl rfl (by kernel_rfl) ?_;refine RunE.one (zX rfl rfl rfl) rfl rfl rfl (by kernel_rfl) ?_;refine RunE.one ((show OpOK _ _ _ _ _ (zl (yy cA.2.2.2)) from zF rfl rfl rfl rfl)) rfl rfl rfl (by kernel_rfl) ?_;refine RunE.one (zX rfl rfl rfl) rfl rfl rfl (by kernel_rfl) ?_;refine RunE.one ((show OpOK _ _ _ _ _ (zU 9 XO xv) from yN rfl rfl)) rfl rfl rfl (by kernel_rfl) ?_;refine RunE.one (zN rfl rfl rfl) rfl rfl rfl (by kernel_rfl) ?_;refine RunE.one ((show OpOK _ _ _ _ _ (intS .i64 j.2) from yn 0 rfl rfl rfl rfl)) rfl rfl rfl (by kernel_rfl) ?_;refine RunE.one ((zi rfl rfl rfl (by omega) (y:=cB) hB)) rfl rfl rfl (by kernel_rfl) ?_;refine RunE.one (zX rfl rfl rfl) rfl rfl rfl (by kernel_rfl) ?_;refine RunE.one ((show OpOK _ _ _ _ _ (zl (yy cB.2.2.2)) from zF rfl rfl rfl rfl)) rfl rfl rfl (by kernel_rfl) ?_;refine RunE.one ((ze rfl rfl (ziC (x1:=cA.2.2.2.1) (y1:=cA.2.2.2.2) (x2:=cB.2.2.2.1) (y2:=cB.2.2.2.2) (by decide))).sub (zhu hlf)) rfl rfl rfl (by kernel_rfl) ?_;refine RunE.one (zB rfl rfl (by decide) rfl (by simp) rfl rfl) rfl rfl rfl (by kernel_rfl) ?_
  refine RunE.nil ⟨_,rfl,?_⟩
  refine EffM.append 1 rfl rfl rfl rfl rfl rfl rfl hq (by rw [vu (st:=3) (fun _=>rfl),hel]) (fun z hz=>by rw [List.mem_singleton.1 hz];rfl) (by unfold yP;simp;omega) (by unfold yP;simp;omega) fun q51 hq51=>⟨(.cons_cons _ (.cons _ .slnil)),?_⟩
  refine RunE.nil ?_;refine zz ?_;refine zJ ?_;refine zP (zY (List.sublist_cons_self _ _)) ?_;refine zO ?_;refine za ((g+1:Nat):Int) ?_;refine zg ?_
  exact⟨g+1,q51,⟨by omega,hq51⟩,by omega,zL (zb rfl (zb rfl (zb rfl (zb rfl (zb rfl (trivial)))))) (by rw [hms,List.flatMap_append];rfl)⟩
 ·obtain rfl:g=16:=by omega
  have htk:(Yl.toList.map Jt).take 16=(Yl.toList.map Jt):=List.take_of_length_le (by rw [List.length_map,hl16];exact Nat.le_refl _)
  rw [htk]
  refine zI ?_;refine zP (yU 0 4 rfl rfl hq (l:=(Yl.toList.map Jt)) (f:=zR) (by rw [List.length_map,hl16]) rfl (fun _ _=>rfl) (by decide)) ?_;refine zg ?_
  exact zj zt
end Go.Proofs
namespace Go.Proofs
open Go Go.Sv Num
variable {G:Imm}
abbrev zpJ:List Rat:=Yl.toList.map Jt
abbrev atC (v:List V2):List SV:=[zU 6 yy v,xC,xC]++(mdC (zU 9 XO xv)++[zU 1 boR (List.replicate 9 true),zU 2 vl Yl.toList,zU 3 zR zpJ])
abbrev zM:List SV:=((List.replicate 4 [Value.bool false,.slice none 0 0,Value.slice none 0 0]).flatten++List.replicate 4 (Value.slice none 0 0)).map eqS
abbrev zjG (v:List V2) (m:List SV) (x y z:SV):List SV:=[zU 6 yy v,xC,xC]++(m++[x,y,z])
theorem Run.storeTo {P:Program} {E:Env} {r:Option Nat} {gd:Nat→Option Nat} {pp:Bool} {o:Oper} {ops:List Oper} {K:St→Prop} (cs':List SV) (j:Nat) {n:Nat} {g:List (Nat×SV)} {h:HL} {d:List Nat} {i:Nat×Bool} {t m:TypeId} [HasSize P t m] {x y:Operand} {b off e k:Nat} {cs ds:List SV} {s:SV} [FlatC s ds] (hp:pp=false) (hop:o.op= .store t x y) (hx:xd g x=some (eqS (.pointer (some ⟨b,off,none⟩)))) (hy:xd g y=some s)
  (hH:h[j]? =some ⟨some b,e,cs,k⟩) (hm:ds.length=m) (hoff:Nat.ble (off+ds.length) cs.length=true) (hd:o.dst=none) (hg:zH gd g o true) (hcs:xM cs off ds=cs')
  (hr:Run P G E r gd pp ops ⟨n,g,wh h j [⟨some b,e,cs',k⟩],d,i⟩ K):Run P G E r gd pp (o::ops) ⟨n,g,h,d,i⟩ K:=by
 subst hcs;exact Run.store j hp hop hx hy hH hm hoff hd hg hr
abbrev noQ:SV:=zU 12 vX []
theorem zhA {α β:Type} {st:Nat} {f:α→List SV} {g:β→List SV} (I:Imm) (v:Value) (h:(zU st f []).den I v):(zU st g []).den I v:=by
 obtain⟨a,c,h1,h2,h3,h4⟩:=h
 exact⟨a,c,h1,h2,h3,.inl rfl⟩
theorem zqQ [Tab G] {xs:List RP} {k:Nat} (hk:0<k) (hl:∀ p∈xs,xQ k p) (hs:2*k+11000≤cap) (hxl:xs.length≤cap):zp Tryz.prog G 108 [zl (Yn (xs,[],[]))] (zl (atC (xs.map pv))):=by
 refine zs Tryz.func108 ?_;refine zg ?_;refine xg fun b2=>?_;refine zJ ?_;refine wH 10 [7,9] _ (by kernel_rfl) (.cons _ .slnil) ?_;refine RunE.one (zX rfl rfl rfl) rfl rfl rfl (by kernel_rfl) ?_;refine RunE.one ((show OpOK _ _ _ _ _ (zU 6 pc xs) from yN rfl rfl)) rfl rfl rfl (by kernel_rfl) ?_;refine RunE.one (ze rfl rfl (vE hk hl hs hxl)) rfl rfl rfl (by kernel_rfl) ?_;refine RunE.one (zX rfl rfl rfl) rfl rfl rfl (by kernel_rfl) ?_;refine RunE.one ((show OpOK _ _ _ _ _ (zU 1 XU ([]:List (List RP))) from yN rfl rfl)) rfl rfl rfl (by kernel_rfl) ?_;refine RunE.one (ze rfl rfl zqk) rfl rfl rfl (by kernel_rfl) ?_;refine RunE.one (zN rfl rfl rfl) rfl rfl rfl (by kernel_rfl) ?_
 refine RunE.nil ⟨_,rfl,?_⟩
 refine .loc1n 0 (xI rfl rfl rfl rfl (Nat.le_of_ble_eq_true (by kernel_rfl))) rfl rfl rfl ?_
 rintro s1 H1 ⟨rfl,rfl⟩
 refine⟨(.cons _ .slnil),?_⟩
 refine RunE.one (zN rfl rfl rfl) rfl rfl rfl (by kernel_rfl) ?_
 refine RunE.nil ⟨_,rfl,?_⟩
 refine .loc1n 0 (xI rfl rfl rfl rfl (Nat.le_of_ble_eq_true (by kernel_rfl))) rfl rfl rfl ?_
 rintro s1 H1 ⟨rfl,rfl⟩
 refine⟨(.cons _ .slnil),?_⟩
 refine RunE.nil ?_;refine zg ?_;refine zf zql ?_;refine zz ?_;refine Run.storeTo (zjG (xs.map pv) zM (xC) (xC) (xC)) 0 rfl rfl rfl rfl rfl (by kernel_rfl) (by kernel_rfl) rfl rfl (by kernel_rfl) ?_;refine zg ?_;refine zf zpA ?_;refine zz ?_;refine Run.storeTo (zjG (xs.map pv) (mdC (zU 9 XO xv)) (xC) (xC) (xC)) 0 rfl rfl rfl rfl rfl (by kernel_rfl) (by kernel_rfl) rfl rfl (by kernel_rfl) ?_;refine zg ?_;refine zo (ze rfl rfl (zqI (l:=xv) (by decide))) ?_;refine zz ?_;refine Run.storeTo (zjG (xs.map pv) (mdC (zU 9 XO xv)) (zU 1 boR (List.replicate 9 true)) (xC) (xC)) 0 rfl rfl rfl rfl rfl (by kernel_rfl) (by kernel_rfl) rfl rfl (by kernel_rfl) ?_;refine zg ?_;refine zf zqN ?_;refine zz ?_;refine Run.storeTo (zjG (xs.map pv) (mdC (zU 9 XO xv)) (zU 1 boR (List.replicate 9 true)) (zU 2 vl Yl.toList) (xC)) 0 rfl rfl rfl rfl rfl (by kernel_rfl) (by kernel_rfl) rfl rfl (by kernel_rfl) ?_;refine zg ?_;refine zf zqO ?_;refine zz ?_;refine Run.storeTo (zjG (xs.map pv) (mdC (zU 9 XO xv)) (zU 1 boR (List.replicate 9 true)) (zU 2 vl Yl.toList) (zU 3 zR zpJ)) 0 rfl rfl rfl rfl rfl (by kernel_rfl) (by kernel_rfl) rfl rfl (by kernel_rfl) ?_;refine zx ?_;refine zz ?_;refine Run.storeTo (zjG (xs.map pv) (mdC (zU 9 XO xv)) (zU 1 boR (List.replicate 9 true)) (zU 2 vl Yl.toList) (zU 3 zR zpJ)) 0 rfl rfl rfl rfl rfl (by kernel_rfl) (by kernel_rfl) rfl rfl (by kernel_rfl) ?_;refine zJ ?_;refine zj ?_
 exact⟨_,[],.one (show Res1 _ _ _ _ (zl (atC (xs.map pv))) from .agg 0 inferInstance rfl rfl (by kernel_rfl) rfl),List.nil_sublist _,rfl,rfl⟩
theorem zqR [Tab G] {v:List V2} {k:Nat} (hk:0<k) (hv:∀ p∈v,Bp p k) (hs:2*k+11000≤cap) (hxl:v.length≤cap):zp Tryz.prog G 108 [zl (XV (v,[],[]))] (zl (atC v)):=by
 have h:=zqQ (G:=G) (xs:=v.map uV) hk (fun p hp=>by obtain⟨q,hq,rfl⟩:=List.mem_map.1 hp;exact zb1 (hv q hq)) hs (by rw [List.length_map];exact hxl)
 rw [List.map_map,show (v.map (pv∘uV))=v from by rw [show (pv∘uV)=id from funext wW];exact List.map_id _] at h
 refine h.args ⟨fun I w hw=>?_,trivial⟩
 obtain⟨ys,h1,hd,h2⟩:=hw
 obtain⟨x,y,z,rfl,hx,hy,hz⟩:=uC hd
 exact⟨_,h1,zW (zo5 hx) (zW (zhA I y hy) (zW (zhA I z hz) dens_nil)),h2⟩
theorem zqS {s:SV}:IterSpec Tryz.prog G 209 [zT [noQ],s] []:=by
 refine xH Tryz.func209 rfl rfl rfl rfl fun l E hy=>?_;refine zr ?_;refine zz ?_;refine zo ((xh rfl rfl).sub (zD (n:=((0:Nat):Int)) rfl)) ?_;refine zg ?_;refine wR ?_;refine zr ?_;refine zz ?_;refine zJ ?_;refine zh ?_;refine zd (fun h9 k9=>?_) fun _ k9=>?_
 ·exact (by simp at h9)
 ·refine zI ?_
  exact⟨.inr rfl,.inl rfl⟩
theorem zqT {v:List V2}:zp Tryz.prog G 156 [zl (atC v),noQ] (wp 209 [zT [noQ],zT (atC v)]):=by
 refine zs Tryz.func156 ?_;refine zg ?_
 exact zj zt
theorem zmd {v:List V2}:zp Tryz.prog G 107 [zl (atC v),noQ] xC:=by
 refine zs Tryz.func107 ?_;refine zg ?_;refine zf zqT ?_;refine zf (zqs zqS) ?_;refine zg ?_
 exact zj zt
end Go.Proofs
namespace Go.Proofs
open Go Go.Sv Num
variable {G:Imm}
theorem zqU [Tab G] {t:List UInt8} {v:List V2} {k:Nat} (hT:zp Tryz.prog G 106 [xb t] (xn [zl (XV (v,[],[])),intS .i64 0])) (hk:0<k) (hv:∀ p∈v,Bp p k) (hs:2*k+11000≤cap) (hxl:v.length≤cap):zp Tryz.prog G 72 [xb t] (xn [xC,intS .i64 0]):=by
 refine zs Tryz.func72 ?_;refine zg ?_;refine zf hT ?_;refine zg ?_;refine xg fun b4=>?_;refine zw ?_;refine zz ?_;refine zJ ?_;refine zh ?_;refine zg ?_;refine zd (fun _ k11=>?_) fun h11 k11=>?_
 ·refine Zu 6 (by kernel_rfl) ?_;refine zz ?_;refine zf (zqR hk hv hs hxl) ?_;refine zz ?_;refine zo ((show OpOK _ _ _ _ _ noQ from yn 0 rfl rfl rfl (by kernel_rfl))) ?_;refine zf zmd ?_;refine zg ?_
  exact zj zt
 ·exact (by simp at h11)
theorem zqV {t:List UInt8} {s:QS} {c:Int} (hc:c≠0) (hT:zp Tryz.prog G 106 [xb t] (xn [zl (XV s),intS .i64 c])):zp Tryz.prog G 72 [xb t] (xn [xC,intS .i64 c]):=by
 refine zs Tryz.func72 ?_;refine zg ?_;refine zf hT ?_;refine zg ?_;refine xg fun b4=>?_;refine zw ?_;refine zz ?_;refine zJ ?_;refine zh ?_;refine zg ?_;refine zd (fun h11 k11=>?_) fun _ k11=>?_
 ·exact absurd (beq_iff_eq.1 h11) hc
 ·refine zg ?_
  exact zj zt
theorem zgm {t:List UInt8} {c:Int} (hV:zp Tryz.prog G 72 [xb t] (xn [xC,intS .i64 c])):zp Tryz.prog G 47 [xb t] (xn [xC,intS .i64 c]):=by
 refine zs Tryz.func47 ?_;refine zg ?_;refine zf hV ?_;(iterate 5 refine zz ?_);refine zJ ?_;refine zh ?_;refine zg ?_;refine zo (vk rfl rfl) ?_;refine zg ?_;refine wR ?_;refine zr ?_;refine zz ?_;refine zJ ?_;refine zh ?_;refine zd (fun h15 k15=>?_) fun _ k15=>?_
 ·exact (by simp at h15)
 ·refine zI ?_;refine zg ?_
  exact zj zt
theorem zpK:zp Tryz.prog G 48 [xC,xC] (zm true):=by
 refine zs Tryz.func48 ?_;refine zr ?_;refine zz ?_;refine zJ ?_;refine zh ?_;refine zg ?_;refine zo (vk rfl rfl) ?_;refine zz ?_;refine zo (vk rfl rfl) ?_;refine zg ?_;refine zd (fun h10 k10=>?_) fun _ k10=>?_
 ·exact (by simp at h10)
 ·refine zE ?_;refine zh ?_;refine zg ?_;refine zo (vk rfl rfl) ?_;refine zg ?_;refine wR ?_;refine zr ?_;refine zz ?_;refine zJ ?_;refine zh ?_;refine zd (fun h14 k14=>?_) fun _ k14=>?_
  ·exact (by simp at h14)
  ·refine zI ?_;refine zg ?_
   exact zj zt
theorem zme {a b:List UInt8} {m n:Int} (ha:zp Tryz.prog G 47 [xb a] (xn [xC,intS .i64 m])) (hb:zp Tryz.prog G 47 [xb b] (xn [xC,intS .i64 n])):zp Tryz.prog G 19 [xb a,zU 1 id [[xb b]]] (zm (decide (m=n))):=by
 refine zs Tryz.func19 ?_;refine zr ?_;refine zz ?_;refine zJ ?_;refine ut ?_;refine zg ?_;refine zf ha ?_;(iterate 5 refine zz ?_);refine zx ?_;refine zz ?_;refine zJ ?_;refine zh ?_;refine us ?_;refine zh ?_;refine zr ?_;refine zz ?_;refine zo ((xh rfl rfl).sub (zD (n:=((1:Nat):Int)) rfl)) ?_;refine zg ?_;refine yK (γ:=Nat) (fun g=>⟨_,[(18,intS .i64 (g:Nat)),(17,intS .i64 ((1:Nat):Int)),(16,zU 1 id [[xb b]]),(4,zm (if g=0 then true else decide (m=n))),(5,xC),(6,intS .i64 m)],[],[],(0,false)⟩) (fun g=>g≤1) (fun g=>1-g) 0 (Nat.zero_le _) (yo zk) ?_
 intro g hg
 refine zr ?_;refine zz ?_;refine zJ ?_;refine zh ?_;refine zd (fun _ k19=>?_) fun _ k19=>?_
 ·obtain rfl:g=0:=by omega
  refine zE ?_;refine zh ?_;refine zg ?_;refine zo (zi rfl rfl rfl (by omega) (y:=[xb b]) (rfl)) ?_;refine zg ?_;refine zf hb ?_;(iterate 5 refine zz ?_);refine zx ?_;(iterate 2 refine zz ?_)
  refine Run.oneB (zZ rfl rfl rfl rfl) rfl rfl rfl (fun h7_2=>?_) (fun h7_2=>?_)
  ·have k7_2:=beq_iff_eq.1 h7_2
   refine zg ?_;refine zf zpK ?_;refine zg ?_;refine yM rfl rfl ?_;refine zg ?_;refine za ((1:Nat):Int) ?_;refine zg ?_
   exact⟨1,(by omega:1≤1),by omega,yo (zb rfl (zb rfl (zb rfl (xk rfl (congrArg zm (decide_eq_true k7_2).symm) zk))))⟩
  ·have k7_2:=beq_eq_false_iff_ne.1 h7_2
   refine zg ?_;refine xt rfl rfl ?_;refine zI ?_;refine zg ?_
   exact zj (zu (e:=congrArg zm (decide_eq_false k7_2).symm))
 ·obtain rfl:g=1:=by omega
  refine zI ?_;refine zg ?_
  exact zj zt
end Go.Proofs
namespace Go.Proofs
open Go Go.Sv Num
variable {G:Imm}
def wR0:List UInt8:=[114,111,98,111,116,32,48,32,48,32,49,32,48,32,48,32,49,10]
def wR1:List UInt8:=[114,111,98,111,116,32,49,32,49,32,50,32,49,32,49,32,50,10]
def v0:List V2:=[(0,0),(1,0),(0,1)]
def v1:List V2:=[(1,1),(2,1),(1,2)]
theorem bq2:Bq 2 1:=⟨by decide,by decide⟩
theorem zhB:∀ p∈v0,Bp p 1:=fun p h=>by
 rcases List.mem_cons.1 h with rfl | h
 ·exact⟨bq0,bq0⟩
 rcases List.mem_cons.1 h with rfl | h
 ·exact⟨bq1,bq0⟩
 ·rw [List.mem_singleton.1 h];exact⟨bq0,bq1⟩
theorem zmf:∀ p∈v1,Bp p 1:=fun p h=>by
 rcases List.mem_cons.1 h with rfl | h
 ·exact⟨bq1,bq1⟩
 rcases List.mem_cons.1 h with rfl | h
 ·exact⟨bq2,bq1⟩
 ·rw [List.mem_singleton.1 h];exact⟨bq1,bq2⟩
theorem zqX:vF wR0=((v0,[],[]),0):=by decide +kernel
theorem zqY:vF wR1=((v1,[],[]),0):=by decide +kernel
theorem zae {n m:Int} {p q:Rat} (h1: -9223372036854775808≤n) (h2:n≤9223372036854775807) (h3: -9223372036854775808≤m) (h4:m≤9223372036854775807) (hp:(n:Rat)=p) (hq:(m:Rat)=q):zp Tryz.prog G 16 [intS .i64 n,intS .i64 m] (zl (VK p q)):=by
 refine zs Tryz.func16 ?_;refine zr ?_;refine xg fun b4=>?_;refine zg ?_;refine zf (YS h1 h2 h3 h4 hp hq) ?_;refine zg ?_
 exact zj zt
theorem zej [Tab G] [MaxLen G]:zp Tryz.prog G 47 [xb wR0] (xn [xC,intS .i64 0]):=by
 have h:=VT (G:=G) (t:=wR0) (k:=1) (by decide) (fun _=>by rw [zqX];exact zow (fun p hp=>⟨(zhB p hp).x,(zhB p hp).y⟩) (by decide)) zf5
 rw [show Vy wR0=((v0,[],[]),0) by unfold Vy;rw [zqX];decide +kernel] at h
 exact zgm (zqU h (by decide) zhB (by decide) (by decide))
theorem zmg [Tab G] [MaxLen G]:zp Tryz.prog G 47 [xb wR1] (xn [xC,intS .i64 0]):=by
 have h:=VT (G:=G) (t:=wR1) (k:=1) (by decide) (fun _=>by rw [zqY];exact zow (fun p hp=>⟨(zmf p hp).x,(zmf p hp).y⟩) (by decide)) zf5
 rw [show Vy wR1=((v1,[],[]),0) by unfold Vy;rw [zqY];decide +kernel] at h
 exact zgm (zqU h (by decide) zmf (by decide) (by decide))
theorem zqZ:(vF []).2≠0:=by decide +kernel
theorem zoF:(Vy []).2≠0:=by decide +kernel
theorem zjH [Tab G] [MaxLen G]:zp Tryz.prog G 47 [xb []] (xn [xC,intS .i64 (Vy []).2]):=
 zgm (zqV zoF (VT (G:=G) (t:=[]) (k:=1) (by decide) (fun h=>absurd h zqZ) zf5))
theorem zrv [Tab G] [MaxLen G]:zp Tryz.prog G 19 [xb wR0,zU 1 id [[xb wR1]]] (zm true):=zme zej zmg
theorem zrw [Tab G] [MaxLen G]:zp Tryz.prog G 19 [xb [],zU 1 id [[xb wR0]]] (zm false):=by
 have h:=zme (G:=G) zjH zej
 rwa [decide_eq_false zoF] at h
theorem sl_map {α:Type} {st:Nat} {f:α→List SV} {l:List α} {I:Imm} {v:Value} (h:(zU st id (l.map f)).den I v):(zU st f l).den I v:=by
 obtain⟨a,c,h1,h2,h3,h4⟩:=h
 refine⟨a,c,by simpa using h1,by simpa using h2,by simpa using h3,h4.imp (fun e=>by simpa using e) fun⟨b,o,e1,e2⟩=>⟨b,o,e1,fun i x hx=>e2 i (f x) (by rw [List.getElem?_map,hx];rfl)⟩⟩
theorem zcp:zp Tryz.prog G 15 [] (zl (Yn (v0.map uV,[],[]))):=by
 refine zs Tryz.func15 ?_;refine zr ?_;refine xg fun b0=>?_;refine zx ?_;refine zo (ze rfl rfl (zae (n:=0) (m:=0) (p:=0) (q:=0) (by decide) (by decide) (by decide) (by decide) rfl rfl)) ?_;refine zo (ze rfl rfl (zae (n:=1) (m:=0) (p:=1) (q:=0) (by decide) (by decide) (by decide) (by decide) rfl rfl)) ?_;refine zo (ze rfl rfl (zae (n:=0) (m:=1) (p:=0) (q:=1) (by decide) (by decide) (by decide) (by decide) rfl rfl)) ?_;refine zo (zB rfl rfl (by decide) rfl (by simp) (by kernel_rfl) (by kernel_rfl)) ?_
 refine zo ((show OpOK _ _ _ _ _ (zl (Yn (v0.map uV,[],[]))) from (yW rfl rfl (by kernel_rfl)).sub (fun I v h=>zpc I v (by obtain⟨ys,h1,hd,h2⟩:=h;obtain⟨x,y,z,rfl,hx,hy,hz⟩:=uC hd;exact⟨_,h1,zW (sl_map (f:=pc) (l:=v0.map uV) hx) (zW hy (zW hz dens_nil)),h2⟩)))) ?_
 refine zg ?_
 exact zj zt
theorem zpL {a b:List V2}:zp Tryz.prog G 18 [zU 6 yy a,zU 6 yy b] (zm (decide (a=b))):=by
 refine zs Tryz.func18 ?_;refine zr ?_;refine zz ?_;refine zJ ?_;refine zh ?_;refine zg ?_;refine zd (fun _ k10=>?_) fun _ k10=>?_
 ·refine zg ?_
  exact zj (zu (e:=congrArg zm (decide_eq_false (fun h=>k10 (by rw [h]))).symm))
 ·have hlen:a.length=b.length:=by have:=k10;omega
  refine zE ?_;refine zh ?_;refine zr ?_;refine zz ?_;refine zJ ?_;refine zQ ?_;refine wT 0 rfl fun la=>?_
  unfold yP at la
  refine yK (γ:=Nat) (fun g=>⟨_,[(5,intS .i64 (g:Nat)),(0,zU 6 yy a),(1,zU 6 yy b)],[],[],(0,false)⟩) (fun g=>g≤a.length∧a.take g=b.take g) (fun g=>a.length-g) 0 ⟨Nat.zero_le _,by simp⟩ (yo (zb rfl (zb rfl (zb rfl (trivial))))) ?_
  rintro g ⟨hg,hgt⟩
  refine zh ?_;refine zg ?_;refine zd (fun _ k14=>?_) fun _ k14=>?_
  ·obtain⟨x,hx⟩:∃ x,a[g]? =some x:=⟨_,List.getElem?_eq_getElem (by omega)⟩
   obtain⟨y,hy⟩:∃ y,b[g]? =some y:=⟨_,List.getElem?_eq_getElem (by omega)⟩
   refine zE ?_;refine zh ?_;refine zQ ?_;refine zS 10 (by kernel_rfl) ?_;refine zg ?_;refine zo (zi rfl rfl rfl (by omega) (y:=x) (hx)) ?_;refine zg ?_;refine zo (zi rfl rfl rfl (by omega) (y:=y) (hy)) ?_;refine zz ?_;refine zf ZH ?_;refine zg ?_;refine wE (fun h26=>?_) fun h26=>?_
   ·refine zg ?_
    exact zj (zu (e:=congrArg zm (decide_eq_false (fun h=>by subst h;rw [hx] at hy;cases hy;simp at h26)).symm))
   ·refine zg ?_;refine za ((g+1:Nat):Int) ?_;refine zg ?_
    exact⟨g+1,⟨by omega,by have h2:x.1=y.1∧x.2=y.2:=(by simpa using h26);rw [wo hx,wo hy,hgt,Prod.ext h2.1 h2.2]⟩,by omega,yo (zb rfl (zb rfl (zb rfl (trivial))))⟩
  ·refine zI ?_;refine zg ?_
   exact zj (zu (e:=congrArg zm (decide_eq_true (by have e:g=a.length:=(by omega);rwa [e,List.take_length,hlen,List.take_length] at hgt)).symm))
theorem zmh:zp Tryz.prog G 15 [] (zl (XV (v0,[],[]))):=by
 refine zs Tryz.func15 ?_;refine zr ?_;refine xg fun b0=>?_;refine zx ?_;refine zo (ze rfl rfl (zae (n:=0) (m:=0) (p:=0) (q:=0) (by decide) (by decide) (by decide) (by decide) rfl rfl)) ?_;refine zo (ze rfl rfl (zae (n:=1) (m:=0) (p:=1) (q:=0) (by decide) (by decide) (by decide) (by decide) rfl rfl)) ?_;refine zo (ze rfl rfl (zae (n:=0) (m:=1) (p:=0) (q:=1) (by decide) (by decide) (by decide) (by decide) rfl rfl)) ?_;refine zo (zB rfl rfl (by decide) rfl (by simp) (by kernel_rfl) (by kernel_rfl)) ?_
 refine zo ((show OpOK _ _ _ _ _ (zl (XV (v0,[],[]))) from (yW rfl rfl (by kernel_rfl)).sub (fun I v h=>by obtain⟨ys,h1,hd,h2⟩:=h;obtain⟨x,y,z,rfl,hx,hy,hz⟩:=uC hd;exact⟨_,h1,zW (sl_map (f:=yy) (l:=v0) hx) (zW (UC hy) (zW (UC hz) dens_nil)),h2⟩))) ?_
 refine zg ?_
 exact zj zt
def wSp:List UInt8:=[114,111,98,111,116,32,48,47,50,32,48,47,50,32,50,47,50,32,48,47,50,32,48,47,50,32,50,47,50,10]
theorem zoG:(v0.map uV).map pv=v0:=by rw [List.map_map,show (pv∘uV)=id from funext wW];exact List.map_id _
theorem zrx:spL YT 2 ((v0.map uV).map pv)=wSp:=by rw [zoG];decide +kernel
theorem zpM:vy (v0.map uV) 1 false=([(1,0),(0,1),(0,0)]:List V2).map uV:=by decide +kernel
theorem zmi:∀ p∈v0.map uV,xQ 1 p:=fun p hp=>by obtain⟨q,hq,rfl⟩:=List.mem_map.1 hp;exact zb1 (zhB q hq)
theorem zoH:ScOk (v0.map uV,[],[]) 1 10:=by
 refine⟨by decide,fun x hx p hp=>?_,by decide,by decide⟩
 have:x=(YT,v0.map uV):=by simpa [scL] using hx
 subst this;exact zmi p hp
end Go.Proofs
namespace Num
open Go Go.Lib Go.Proofs
end Num
