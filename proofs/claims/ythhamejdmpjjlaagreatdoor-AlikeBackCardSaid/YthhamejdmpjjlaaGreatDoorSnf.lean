/- Contracts of the products by limbs: straitref02.Mul, prod.plain, and small ones. -/
import Derived.Test.YthhamejdmpjjlaaGreatDoorSna
import Derived.Lib.BitFns
import Derived.Lib.Tables
import Derived.Lib.TrailingZeros
namespace Go.Proofs
open Go Go.Sv Num
variable {G:Imm}
def Kk (a:List Nat) (p:Nat):List Nat:=(List.range p).filter fun i=>decide (limb a i≠0)
theorem WQ {a:List Nat} {p:Nat} (h:limb a p≠0):Kk a (p+1)=Kk a p++[p]:=by simp [Kk,List.range_succ,h]
theorem zeK {a:List Nat} {p:Nat} (h:limb a p=0):Kk a (p+1)=Kk a p:=by simp [Kk,List.range_succ,h]
theorem Km {a:List Nat} {p:Nat}:∀ d,(Kk a p).length≤(Kk a (p+d)).length∧((Kk a p).length=(Kk a (p+d)).length→low a p=low a (p+d))
  | 0=>⟨Nat.le_refl _,fun _=>rfl⟩
  | d+1=>by
    have ih:=Km (a:=a) (p:=p) d
    by_cases h:limb a (p+d)=0
    · rw [←Nat.add_assoc,zeK h,xr,h,Nat.mul_zero,Nat.add_zero];exact ih
    · rw [←Nat.add_assoc,WQ h,List.length_append,List.length_cons,List.length_nil]
      exact⟨by omega,fun e=>by omega⟩
theorem zcU {a:List Nat} {p q:Nat} (hq:limb a q≠0∨p≤q) (h:(Kk a p).length=(Kk a q).length):p≤q∧low a p=low a q:=by
 have hpq:p≤q:=by
  rcases hq with hq | hq
  ·rcases Nat.lt_or_ge q p with hlt | hge
   ·have h1:=(Km (a:=a) (p:=q+1) (p-(q+1))).1
    rw [show q+1+(p-(q+1))=p by omega,WQ hq,List.length_append,List.length_cons,List.length_nil] at h1
    omega
   ·exact hge
  ·exact hq
 have h1:=(Km (a:=a) (p:=p) (q-p)).2
 rw [show p+(q-p)=q by omega] at h1
 exact⟨hpq,h1 h⟩
theorem zbu {a:List Nat} {p:Nat} (h:limb a p≠0):∀ d,(Kk a (p+1+d))[(Kk a p).length]? =some p
  | 0=>by rw [Nat.add_zero,WQ h];simp
  | d+1=>by
    have ih:=zbu h d
    by_cases h1:limb a (p+1+d)=0
    · rw [←Nat.add_assoc,zeK h1];exact ih
    · rw [←Nat.add_assoc,WQ h1,List.getElem?_append_left (yt ih)];exact ih
def Wk (a:List Nat):List (List SV):=(Kk a a.length).map fun i=>[intS .i64 (i:Nat),intS .u64 (limb a i:Nat)]
theorem Vv {a:List Nat}:(Wk a).length=(Kk a a.length).length:=by simp [Wk]
theorem zeL {a:List Nat} {p:Nat} (hp:p<a.length) (h:limb a p≠0):(Wk a)[(Kk a p).length]? =some [intS .i64 (p:Nat),intS .u64 (limb a p:Nat)]:=by
 have:=zbu h (a.length-(p+1))
 rw [show p+1+(a.length-(p+1))=a.length by omega] at this
 simp only [Wk,List.getElem?_map,this,Option.map_some]
theorem zeM {a:List Nat} {k:Nat} {ss:List SV} (h:(Wk a)[k]? =some ss):∃ p,p<a.length∧limb a p≠0∧(Kk a p).length=k∧ss=[intS .i64 (p:Nat),intS .u64 (limb a p:Nat)]:=by
  simp only [Wk,List.getElem?_map] at h
  cases hn:(Kk a a.length)[k]? with
  | none=>rw [hn] at h;cases h
  | some p=>
    rw [hn] at h;cases h
    have hm:=List.mem_of_getElem? hn
    simp only [Kk,List.mem_filter,List.mem_range,decide_eq_true_eq] at hm
    refine⟨p,hm.1,hm.2,?_,rfl⟩
    have hg:=zbu hm.2 (a.length-(p+1))
    rw [show p+1+(a.length-(p+1))=a.length by omega] at hg
    have hnd:(Kk a a.length).Nodup:=List.nodup_range.sublist List.filter_sublist
    exact (List.getElem?_inj (yt hg) hnd).1 (hg.trans hn.symm)
theorem zhZ {a:List Nat} {ss:List SV} (h:ss∈Wk a):ss.length=2:=by
 obtain⟨i,_,rfl⟩:=List.mem_map.1 h;rfl
theorem zcV {a:List Nat} {m n:Nat} [h:IsNat a m]:IsNat (List.replicate n 0++a) (4294967296^n*m):=
 ⟨VF (wj n) h.lim,by rw [Za,xz,List.length_replicate,h.val,Nat.zero_add]⟩
theorem QV {k m:Int}:zp Tryz.prog G 228 [intS .i64 k,intS .i64 m] (intS .i64 (min (max k 0) m)):=by
 refine zs Tryz.func228 ?_;refine zg ?_
 exact zj zt
theorem VI {k m:Int}:zp Tryz.prog G 191 [intS .i64 k,intS .i64 m] (intS .i64 (max (min k m) 0)):=by
 refine zs Tryz.func191 ?_;refine zg ?_
 exact zj zt
theorem WR {a b:List Nat} {m n:Nat} [hm:IsNat a m] [hn:IsNat b n] (hs:a.length+b.length+2≤cap:=by exact Sz.le3 (by decide)):zp Tryz.prog G 234 [zy a,zy b] (zy (yz (m*n))):=by
 have hs0:=hs
 unfold cap at hs
 refine zs Tryz.func234 ?_;refine zg ?_;refine zA ?_;refine Run.makeNat (n:=a.length+b.length) (c:=a.length+b.length) rfl rfl rfl rfl rfl rfl rfl (Nat.le_refl _) (by omega) (by omega) fun b15 hb15=>?_;refine zz ?_;refine zJ ?_;refine zh ?_;refine zg ?_
 refine yX (fun i out=>⟨_,[(6,intS .i64 (i:Nat)),(5,eqS (rowV (some (b15,a.length+b.length)) (a.length+b.length))),(0,zy a),(1,zy b)],[rowE (some (b15,a.length+b.length)) 64 1 (a.length+b.length) (out.flatMap xP)],[],(0,false)⟩)
   (fun i out=>i≤a.length∧xU out∧out.length=a.length+b.length∧val out=low a i*n∧∀ j,i+b.length≤j→limb out j=0) (fun i out=>a.length-i)
   0 (List.replicate (a.length+b.length) 0) ⟨Nat.zero_le _,wj _,List.length_replicate,by rw [xz,vS,Nat.zero_mul],fun j _=>ZZ _ j⟩ (zL (zb rfl (zb rfl (zb rfl (zb rfl trivial)))) rfl) ?_
 rintro i out ⟨hi,hlo,hln,hval,hz⟩
 refine zh ?_;refine zg ?_;refine zd (fun _ k19=>?_) fun _ k19=>?_
 ·have hx:=yF hm.lim i
  refine zE ?_;refine zh ?_;refine zQ ?_;refine zr ?_;refine zz ?_;refine zJ ?_;refine zh ?_;refine zg ?_
  refine Zh (fun k over out'=>⟨_,[(8,intS .i64 (k:Nat)),(7,intS .u64 (over:Nat)),(6,intS .i64 (i:Nat)),(5,eqS (rowV (some (b15,a.length+b.length)) (a.length+b.length))),(0,zy a),(1,zy b)],[rowE (some (b15,a.length+b.length)) 64 1 (a.length+b.length) (out'.flatMap xP)],[],(0,false)⟩)
    (fun k over out'=>k≤b.length∧over<4294967296∧xU out'∧out'.length=a.length+b.length∧val out'+4294967296^(i+k)*over=val out+4294967296^i*(limb a i*low b k)∧∀ j,i+b.length≤j→limb out' j=0) (fun k over out'=>b.length-k)
    0 0 out ⟨Nat.zero_le _,by omega,hlo,hln,by rw [vS,Nat.mul_zero,Nat.mul_zero,Nat.mul_zero],hz⟩ (zL (zb rfl (zb rfl (zb rfl (zb rfl (zb rfl (zb rfl trivial)))))) rfl) ?_
  rintro k over out' ⟨hk,hc,hlo',hln',hval',hz'⟩
  refine zh ?_;refine zg ?_;refine zd (fun _ k25=>?_) fun _ k25=>?_
  ·have hy:=yF hn.lim k
   have ho:=yF hlo' (i+k)
   have hb:=Kj hx hy ho hc
   obtain⟨w,hw⟩:∃ w,w=limb a i*limb b k+limb out' (i+k)+over:=⟨_,rfl⟩
   refine zE ?_;refine zh ?_;refine zQ ?_;refine zS 22 (by kernel_rfl) ?_;refine zg ?_;refine zo (zi rfl rfl rfl (by omega) (y:=limb a i) (yV (by omega))) ?_;refine zz ?_;refine zA ?_;refine zg ?_;refine zo (zi rfl rfl rfl (by omega) (y:=limb b k) (yV (by omega))) ?_;refine zz ?_;refine zA ?_;refine za ((limb a i*limb b k:Nat):Int) ?_;refine zg ?_;refine za ((i+k:Nat):Int) ?_;refine zo (xm (i:=i+k) rfl rfl rfl (by omega)) ?_;refine zo (vf 0 rfl rfl rfl (by omega)) ?_;refine zA ?_;refine za ((limb a i*limb b k+limb out' (i+k):Nat):Int) ?_;refine zz ?_;refine za ((w:Nat):Int) ?_;refine zg ?_;refine za ((i+k:Nat):Int) ?_;refine zz ?_;refine zo (yQ (z:=((w%4294967296:Nat):Int)) rfl rfl xx) ?_;refine zo (xm (i:=i+k) rfl rfl rfl (by omega)) ?_;refine Run.storeRow 0 rfl rfl rfl rfl rfl (by omega) rfl rfl ?_;refine zg ?_;refine zo ((wr rfl rfl rfl (by omega) (by simp [IntKind.bits])).sub (zD (Ys _))) ?_;refine zg ?_;refine zA ?_;refine zz ?_;refine zJ ?_
   refine⟨k+1,w/4294967296,out'.set (i+k) (w%4294967296),⟨by omega,by omega,uv hlo' (by omega),by rw [List.length_set];exact hln',?_,fun j hj=>by rw [wq (by omega)];exact hz' j hj⟩,by omega,zL (zb rfl (zb rfl (zb rfl (zb rfl (zb rfl (zb rfl trivial)))))) rfl⟩
   have hs:=Xr (l:=out') (j:=i+k) (w%4294967296) (by omega)
   rw [show i+(k+1)=i+k+1 by omega,yZ,xr]
   subst hw
   exact zcT (Nat.pow_add _ _ _) hval' hs
  ·have hkl:k=b.length:=by omega
   rw [hkl,wJ (Nat.le_refl _),hn.val] at hval'
   refine zI ?_;refine zg ?_;refine za ((i+b.length:Nat):Int) ?_;refine zz ?_;refine zA ?_;refine zo (xm (i:=i+b.length) rfl rfl rfl (by omega)) ?_;refine Run.storeRow 0 rfl rfl rfl rfl rfl (by omega) rfl rfl ?_;refine zg ?_;refine zA ?_;refine zz ?_;refine zJ ?_
   refine⟨i+1,out'.set (i+b.length) over,⟨by omega,uv hlo' hc,by rw [List.length_set];exact hln',?_,fun j hj=>by rw [wq (by omega)];exact hz' j (by omega)⟩,by omega,zL (zb rfl (zb rfl (zb rfl (zb rfl trivial)))) rfl⟩
   have hs:=Xr (l:=out') (j:=i+b.length) over (by omega)
   rw [hz' _ (Nat.le_refl _),Nat.mul_zero] at hs
   rw [xr,Nat.add_mul,Nat.mul_assoc];omega
 ·have hia:i=a.length:=by omega
  rw [hia,wJ (Nat.le_refl _),hm.val] at hval
  have:IsNat out (m*n):=⟨hlo,hval⟩
  refine zI ?_;refine zr ?_;refine Run.ghost _ rfl (yU 0 5 rfl rfl hb15 (l:=out) (f:=xP) hln rfl yJ (by unfold yP;omega)) ?_;refine zz ?_;refine zo (ze rfl rfl (xE (by unfold cap;omega))) ?_;refine zg ?_
  exact zj zt
theorem zcW {a:List Nat} (ha:xU a):IterSpec Tryz.prog G 152 [zT [zy a]] (Wk a):=by
 refine xH Tryz.func152 rfl rfl rfl rfl fun l E hy=>?_;refine zr ?_;(iterate 3 refine zz ?_);refine zJ ?_;refine zQ ?_;refine wT 5 rfl fun la=>?_
 unfold yP at la
 refine yK (γ:=Nat) (fun g=>⟨_,[(7,intS .i64 g),(6,intS .i64 a.length),(5,zy a),(0,yieldS l),(1,zT [zy a])],[],[],((Kk a g).length,false)⟩) (fun g=>g≤a.length) (fun g=>a.length-g) 0 (Nat.zero_le _) (yo zk) ?_
 intro g hg
 refine zr ?_;refine zz ?_;refine zJ ?_;refine zh ?_;refine zd (fun _ k8=>?_) fun _ k8=>?_
 ·have h1:=yF ha g
  refine zE ?_;refine zh ?_;refine zg ?_;refine zo (zi rfl rfl rfl (by omega) (y:=limb a g) (yV (by omega))) ?_;(iterate 3 refine zz ?_);refine zx ?_;refine zz ?_
  refine Run.oneB (zZ rfl rfl rfl rfl) rfl rfl rfl (fun h3_1=>?_) (fun h3_1=>?_)
  ·have k3_1:=bne_iff_ne.1 h3_1
   have hnz:limb a g≠0:=by omega
   refine zg ?_;refine zA ?_;refine Run.yield rfl hy rfl rfl rfl (zeL (by omega) hnz) (xi _) (gB rfl rfl rfl rfl) rfl rfl fun y=>?_;refine zg ?_;refine wE (fun h21=>?_) fun h21=>?_
   ·refine zj ?_
    exact⟨.inl rfl,.inr h21⟩
   ·refine zg ?_;refine zA ?_;refine zg ?_
    exact⟨g+1,(by omega:g+1≤a.length),by omega,rfl,zb rfl (zb rfl (zb rfl (zb rfl (zb rfl trivial)))),xp _,rfl,by simp only;rw [WQ hnz,h21];simp⟩
  ·have k3_1:=bne_eq_false_iff_eq.1 h3_1
   have hnz:limb a g=0:=by omega
   refine zg ?_;refine yM rfl rfl ?_;refine zg ?_;refine zA ?_;refine zg ?_
   exact⟨g+1,(by omega:g+1≤a.length),by omega,rfl,zb rfl (zb rfl (zb rfl (zb rfl (zb rfl trivial)))),xp _,rfl,by simp only;rw [zeK hnz]⟩
 ·refine zI ?_
  exact⟨.inr rfl,.inl (by rw [Vv,show g=a.length by omega])⟩
theorem zeN {a:List Nat}:zp Tryz.prog G 105 [zy a] (wp 152 [zT [zy a]]):=by
 refine zs Tryz.func105 ?_;refine zg ?_
 exact zj zt
theorem Kn {a b:List Nat} {m n:Nat} [hm:IsNat a m] [hn:IsNat b n] (hs:a.length+b.length+2≤cap:=by exact Sz.le3 (by decide)):zp Tryz.prog G 71 [zy a,zy b] (zy (yz (m*n))):=by
 have hs0:=hs
 unfold cap at hs
 refine zs Tryz.func71 ?_;refine zg ?_;refine zA ?_;refine Run.makeNat (n:=a.length+b.length) (c:=a.length+b.length) rfl rfl rfl rfl rfl rfl rfl (Nat.le_refl _) (by omega) (by omega) fun b16 hb16=>?_;refine xg fun b5=>?_;refine zw ?_;refine zJ ?_;refine zh ?_;refine zg ?_;refine zf zeN ?_;refine zg ?_
 refine ul rfl rfl (zcW hm.lim) (fun ss h=>zhZ h) (by decide) rfl
   (fun k h i=>i=(0,false)∧∃ p out,(Kk a p).length=k∧p≤a.length∧xU out∧out.length=a.length+b.length∧val out=low a p*n∧(∀j,p+b.length≤j→limb out j=0)∧h=[⟨some b5,35,[eqS (rowV (some (b16,a.length+b.length)) (a.length+b.length))],0⟩,rowE (some (b16,a.length+b.length)) 64 1 (a.length+b.length) (out.flatMap xP)])
   (fun _ _ _=>False) ⟨rfl,0,List.replicate (a.length+b.length) 0,rfl,Nat.zero_le _,wj _,List.length_replicate,by rw [xz,vS,Nat.zero_mul],fun j _=>ZZ _ j,rfl⟩ ?_ ?_ ?_
 ·rintro l kk ss h i hk ⟨rfl,p0,out,hp0,hpl,hlo,hln,hval,hz,rfl⟩
  obtain⟨p,hp1,hp2,rfl,rfl⟩:=zeM hk
  obtain⟨hpp,hlow⟩:=zcU (.inl hp2) hp0
  rw [hlow] at hval
  replace hz:∀ j,p+b.length≤j→limb out j=0:=fun j hj=>hz j (by omega)
  have hx:=yF hm.lim p
  refine zr ?_;refine zz ?_;refine zJ ?_;refine zO ?_;refine zz ?_;refine zJ ?_
  refine⟨rfl,?_⟩
  refine zQ ?_;refine zr ?_;refine zz ?_;refine zJ ?_;refine zh ?_;refine zg ?_
  refine Zh (fun k over out'=>⟨_,[(23,intS .i64 (k:Nat)),(22,intS .i64 b.length),(21,zy b),(8,intS .u64 (over:Nat)),(7,intS .u64 (limb a p:Nat)),(6,intS .i64 (p:Nat)),(5,eqS (.pointer (some ⟨b5,0,none⟩))),(3,zT [zy b])],[⟨some b5,35,[eqS (rowV (some (b16,a.length+b.length)) (a.length+b.length))],0⟩,rowE (some (b16,a.length+b.length)) 64 1 (a.length+b.length) (out'.flatMap xP)],[],(0,false)⟩)
    (fun k over out'=>k≤b.length∧over<4294967296∧xU out'∧out'.length=a.length+b.length∧val out'+4294967296^(p+k)*over=val out+4294967296^p*(limb a p*low b k)∧∀ j,p+b.length≤j→limb out' j=0) (fun k over out'=>b.length-k)
    0 0 out ⟨Nat.zero_le _,by omega,hlo,hln,by rw [vS,Nat.mul_zero,Nat.mul_zero,Nat.mul_zero],hz⟩ (zL (zb rfl (zb rfl (zb rfl (zb rfl (zb rfl (zb rfl (zb rfl (zb rfl trivial)))))))) rfl) ?_
  rintro k over out' ⟨hk',hc,hlo',hln',hval',hz'⟩
  refine zr ?_;refine zz ?_;refine zJ ?_;refine zh ?_;refine zd (fun _ k24=>?_) fun _ k24=>?_
  ·have hy:=yF hn.lim k
   have ho:=yF hlo' (p+k)
   have hb:=Kj hx hy ho hc
   obtain⟨w,hw⟩:∃ w,w=limb a p*limb b k+limb out' (p+k)+over:=⟨_,rfl⟩
   refine zE ?_;refine zh ?_;refine zg ?_;refine zo (zi rfl rfl rfl (by omega) (y:=limb b k) (yV (by omega))) ?_;refine zg ?_;refine zA ?_;refine za ((limb a p*limb b k:Nat):Int) ?_;refine zg ?_;refine za ((p+k:Nat):Int) ?_;refine zo (xm (i:=p+k) rfl rfl rfl (by omega)) ?_;refine zo (vf 1 rfl rfl rfl (by omega)) ?_;refine zA ?_;refine za ((limb a p*limb b k+limb out' (p+k):Nat):Int) ?_;refine za ((w:Nat):Int) ?_;refine zg ?_;refine za ((p+k:Nat):Int) ?_;refine zz ?_;refine zo (yQ (z:=((w%4294967296:Nat):Int)) rfl rfl xx) ?_;refine zo (xm (i:=p+k) rfl rfl rfl (by omega)) ?_;refine Run.storeRow 1 rfl rfl rfl rfl rfl (by omega) rfl rfl ?_;refine zg ?_;refine zo ((wr rfl rfl rfl (by omega) (by simp [IntKind.bits])).sub (zD (Ys _))) ?_;refine zg ?_;refine zA ?_;refine zz ?_;refine zJ ?_
   refine⟨k+1,w/4294967296,out'.set (p+k) (w%4294967296),⟨by omega,by omega,uv hlo' (by omega),by rw [List.length_set];exact hln',?_,fun j hj=>by rw [wq (by omega)];exact hz' j hj⟩,by omega,zL (zb rfl (zb rfl (zb rfl (zb rfl (zb rfl (zb rfl (zb rfl (zb rfl trivial)))))))) rfl⟩
   have hs:=Xr (l:=out') (j:=p+k) (w%4294967296) (by omega)
   rw [show p+(k+1)=p+k+1 by omega,yZ,xr]
   subst hw
   exact zcT (Nat.pow_add _ _ _) hval' hs
  ·have hkl:k=b.length:=by omega
   rw [hkl,wJ (Nat.le_refl _),hn.val] at hval'
   refine zI ?_;refine zg ?_;refine za ((p+b.length:Nat):Int) ?_;refine zz ?_;refine zA ?_;refine zo (xm (i:=p+b.length) rfl rfl rfl (by omega)) ?_;refine Run.storeRow 1 rfl rfl rfl rfl rfl (by omega) rfl rfl ?_;refine zJ ?_
   refine⟨rfl,p+1,out'.set (p+b.length) over,by rw [WQ hp2];simp,by omega,uv hlo' hc,by rw [List.length_set];exact hln',?_,fun j hj=>by rw [wq (by omega)];exact hz' j (by omega),rfl⟩
   have hs:=Xr (l:=out') (j:=p+b.length) over (by omega)
   rw [hz' _ (Nat.le_refl _),Nat.mul_zero] at hs
   rw [xr,Nat.add_mul,Nat.mul_assoc];omega
 ·rintro h i D ⟨rfl,p0,out,hp0,hpl,hlo,hln,hval,hz,rfl⟩
  rw [Vv] at hp0
  rw [(zcU (.inr hpl) hp0).2,wJ (Nat.le_refl _),hm.val] at hval
  have:IsNat out (m*n):=⟨hlo,hval⟩
  refine zr ?_;refine zz ?_;refine Run.ghost _ rfl (yU 1 60 rfl rfl hb16 (l:=out) (f:=xP) hln rfl yJ (by unfold yP;omega)) ?_;refine zo (ze rfl rfl (xV (by unfold cap;omega))) ?_;refine zg ?_
  exact zj zt
 ·intro h i D e c hc hInv;exact hInv.elim
theorem zh0 {a b:List Nat} {m n:Nat} [hm:IsNat a m] [hn:IsNat b n] (hs:max a.length b.length≤cap:=by exact Sz.le2 (by decide)):zp Tryz.prog G 186 [zy a,zy b] (zy (yz (m-n))):=by
 refine zs Tryz.func186 ?_;refine zg ?_;refine zf (Kg hs) ?_;refine zg ?_
 exact zj zt
theorem Ko {a:List Nat} {n:Nat} (hs:n+a.length≤cap):zp Tryz.prog G 188 [zy a,intS .i64 n] (zy (List.replicate n 0++a)):=by
 unfold cap at hs
 refine zs Tryz.func188 ?_;refine zr ?_;refine zz ?_;refine zx ?_;refine zz ?_;refine Run.makeNat (n:=n) (c:=n) rfl rfl rfl rfl rfl rfl rfl (Nat.le_refl _) (by omega) (by unfold cap;omega) fun b6 hb6=>?_;refine zz ?_;refine Run.append 0 rfl rfl rfl rfl rfl rfl rfl rfl hb6 (by rw [yH,List.length_replicate]) yJ (by unfold yP;omega) (by unfold yP;omega) fun q8 hq8=>?_;refine Run.ghost _ rfl (yU 0 8 rfl rfl hq8 (l:=List.replicate n 0++a) (f:=xP) (by simp) List.flatMap_append.symm yJ (by unfold yP;omega)) ?_;refine zg ?_
 exact zj zt
end Go.Proofs
/- The product of prod: by halves, or limb by limb. -/
namespace Go.Proofs
open Go Go.Sv Num
variable {G:Imm}
instance isNat_shift {a:List Nat} {m n:Nat} [h:IsNat a m]:IsNat (List.replicate n 0++a) (4294967296^n*m):=zcV
instance sz_shift {a:List Nat} {n k:Nat} [h:Sz a k]:Sz (List.replicate n 0++a) (n+k):=⟨by have:=h.h;simp;omega⟩
theorem zh1 {a b c:List Nat} {m n o k l j:Nat} [ha:IsNat a m] [hb:IsNat b n] [hc:IsNat c o] [hk:Sz a k] [hl:Sz b l] [hj:Sz c j] (h:k+l+j+3≤cap):zp Tryz.prog G 187 [zU 1 id [[zy a],[zy b],[zy c]]] (zy (yz (m+n+o))):=by
 have:=zcR (G:=G) (ll:=[a,b,c]) (fun l h=>by simp at h;rcases h with rfl | rfl | rfl;exact ha.lim;exact hb.lim;exact hc.lim) (by have:=hk.h;have:=hl.h;have:=hj.h;simp;omega)
 simp only [List.map_cons,List.map_nil,List.sum_cons,List.sum_nil,ha.val,hb.val,hc.val,Nat.add_zero,←Nat.add_assoc] at this
 exact this
theorem zgz {m n k l:Nat} [h:Bd m k] [h':Bd n l]:(yz (m+n)).length≤max k l+1:=zK (by
 have h1:=Yq (l:=max k l) h.h (Nat.le_refl _) (by omega)
 have h2:=Yq (l:=max k l) h'.h (Nat.le_refl _) (by omega)
 rw [yZ];omega)
theorem zq8 (p m0 m1 n0 n1:Nat):m0*n0+p*((m0+m1)*(n0+n1)-(m0*n0+m1*n1))+p*p*(m1*n1)=(m0+p*m1)*(n0+p*n1):=by
 have e:(m0+m1)*(n0+n1)-(m0*n0+m1*n1)=m0*n1+m1*n0:=by
  rw [Nat.add_mul,Nat.mul_add,Nat.mul_add];omega
 rw [e];grind
theorem zh2 (N:Nat):∀ (a b:List Nat) (m n:Nat),IsNat a m→IsNat b n→a.length+b.length≤N→8*(a.length+b.length)+100≤cap→zp Tryz.prog G 185 [zy a,zy b,zmF 185] (zy (yz (m*n))):=by
 refine Nat.strongRecOn N fun N ih=>?_
 intro a b m n hm hn hN hs
 have hs0:=hs
 unfold cap at hs
 obtain⟨k,hk⟩:∃ k,k=max a.length b.length/2:=⟨_,rfl⟩
 refine zs Tryz.func185 ?_;refine zg ?_;refine zo ((wU rfl rfl rfl (by omega) (by omega) (wrap_i64 (by omega) (by omega))).sub (zD (n:=((k:Nat):Int)) (by omega))) ?_;refine zz ?_;refine zJ ?_;refine zh ?_;refine zg ?_;refine zd (fun _ k23=>?_) fun _ k23=>?_
 ·refine zg ?_;refine zo (ze rfl rfl (Kn (by unfold cap;omega))) ?_;refine zg ?_
  exact zj zt
 ·haveI i1:IsNat ((a.take k).drop 0) (val (a.take k)):=vT (Ka hm.lim k)
  haveI i2:IsNat ((a.take a.length).drop k) (val (a.drop k)):=by rw [List.take_length];exact vT (vJ hm.lim k)
  haveI i3:IsNat ((b.take k).drop 0) (val (b.take k)):=vT (Ka hn.lim k)
  haveI i4:IsNat ((b.take b.length).drop k) (val (b.drop k)):=by rw [List.take_length];exact vT (vJ hn.lim k)
  haveI s1:Sz ((a.take k).drop 0) k:=⟨by simp;omega⟩
  haveI s2:Sz ((a.take a.length).drop k) (a.length-k):=⟨by simp⟩
  haveI s3:Sz ((b.take k).drop 0) k:=⟨by simp;omega⟩
  haveI s4:Sz ((b.take b.length).drop k) (b.length-k):=⟨by simp⟩
  haveI b1:=Bd.of_val i1 s1
  haveI b2:=Bd.of_val i2 s2
  haveI b3:=Bd.of_val i3 s3
  haveI b4:=Bd.of_val i4 s4
  have l1:=s1.h
  have l2:=s2.h
  have l3:=s3.h
  have l4:=s4.h
  have hea:=YG a k (by omega)
  have heb:=YG b k (by omega)
  rw [hm.val] at hea
  rw [hn.val] at heb
  generalize val (a.take k)=m0 at *
  generalize val (a.drop k)=m1 at *
  generalize val (b.take k)=n0 at *
  generalize val (b.drop k)=n1 at *
  have l5:=zgz (m:=m0) (n:=m1)
  have l6:=zgz (m:=n0) (n:=n1)
  have l7:=Sz.h (l:=yz ((m0+m1)*(n0+n1)-(m0*n0+m1*n1)))
  have l8:=Sz.h (l:=yz (m1*n1))
  refine zE ?_;refine zS 18 (by kernel_rfl) ?_;refine zo (ZB rfl rfl) ?_;refine zg ?_;refine zo (xX (lo:=0) (hi:=k) (m:=k) rfl rfl (.inl ⟨rfl,rfl⟩) (.inr ⟨_,_,rfl,rfl⟩) (.inl rfl) (by omega) (by omega)) ?_;refine zg ?_;refine zo (xX (lo:=0) (hi:=k) (m:=k) rfl rfl (.inl ⟨rfl,rfl⟩) (.inr ⟨_,_,rfl,rfl⟩) (.inl rfl) (by omega) (by omega)) ?_;refine zo (yI rfl rfl rfl (ih (k+k) (by omega) _ _ _ _ i1 i3 (by omega) (by unfold cap;omega))) ?_;refine zo (ZB rfl rfl) ?_;refine zg ?_;refine zo (xX (lo:=k) (hi:=a.length) (m:=0) rfl rfl (.inr ⟨_,_,rfl,rfl⟩) (.inl ⟨rfl,rfl,rfl⟩) (.inl rfl) (by omega) (Nat.le_refl _)) ?_;refine zg ?_;refine zo (xX (lo:=k) (hi:=b.length) (m:=0) rfl rfl (.inr ⟨_,_,rfl,rfl⟩) (.inl ⟨rfl,rfl,rfl⟩) (.inl rfl) (by omega) (Nat.le_refl _)) ?_;refine zo (yI rfl rfl rfl (ih (a.length-k+(b.length-k)) (by omega) _ _ _ _ i2 i4 (by omega) (by unfold cap;omega))) ?_;refine zg ?_;refine zS 24 (by kernel_rfl) ?_;refine zo (ZB rfl rfl) ?_;refine zg ?_;refine zo (xX (lo:=0) (hi:=k) (m:=k) rfl rfl (.inl ⟨rfl,rfl⟩) (.inr ⟨_,_,rfl,rfl⟩) (.inl rfl) (by omega) (by omega)) ?_;refine zg ?_;refine zo (xX (lo:=k) (hi:=a.length) (m:=0) rfl rfl (.inr ⟨_,_,rfl,rfl⟩) (.inl ⟨rfl,rfl,rfl⟩) (.inl rfl) (by omega) (Nat.le_refl _)) ?_;refine zo (zB rfl rfl (by decide) rfl (by simp) rfl rfl) ?_;refine zo (ze rfl rfl (YL (by unfold cap;omega))) ?_;refine zg ?_;refine zo (xX (lo:=0) (hi:=k) (m:=k) rfl rfl (.inl ⟨rfl,rfl⟩) (.inr ⟨_,_,rfl,rfl⟩) (.inl rfl) (by omega) (by omega)) ?_;refine zg ?_;refine zo (xX (lo:=k) (hi:=b.length) (m:=0) rfl rfl (.inr ⟨_,_,rfl,rfl⟩) (.inl ⟨rfl,rfl,rfl⟩) (.inl rfl) (by omega) (Nat.le_refl _)) ?_;refine zo (zB rfl rfl (by decide) rfl (by simp) rfl rfl) ?_;refine zo (ze rfl rfl (YL (by unfold cap;omega))) ?_;refine zo (yI rfl rfl rfl (ih ((yz (m0+m1)).length+(yz (n0+n1)).length) (by omega) _ _ _ _ isNat_dig isNat_dig (Nat.le_refl _) (by unfold cap;omega))) ?_;refine zg ?_;refine zo (zB rfl rfl (by decide) rfl (by simp) rfl rfl) ?_;refine zo (ze rfl rfl (YL (by unfold cap;omega))) ?_;refine zo (ze rfl rfl (zh0 (Sz.le2 (by unfold cap;omega)))) ?_;refine zg ?_;refine zo (ze rfl rfl (Ko (by unfold cap;omega))) ?_;refine zg ?_;refine za ((2*k:Nat):Int) ?_;refine zo (ze rfl rfl (Ko (by unfold cap;omega))) ?_;refine zo (zB rfl rfl (by decide) rfl (by simp) rfl rfl) ?_;refine zo (ze rfl rfl (zh1 (by unfold cap;omega))) ?_;refine zg ?_
  exact zj (zu (e:=congrArg zy (congrArg yz (by rw [hea,heb,←zq8,Nat.two_mul,Nat.pow_add]))))
theorem Ui {a b:List Nat} {m n k l:Nat} [hm:IsNat a m] [hn:IsNat b n] [hk:Sz a k] [hl:Sz b l] (h:8*(k+l)+100≤cap:=by decide):zp Tryz.prog G 130 [zy a,zy b] (zy (yz (m*n))):=by
 have h1:=hk.h
 have h2:=hl.h
 have h3:(yz m).length≤k:=by have:=Bd.of_val hm hk;exact zK this.h
 have h4:(yz n).length≤l:=by have:=Bd.of_val hn hl;exact zK this.h
 refine zs Tryz.func130 ?_;refine zg ?_;refine xg fun b5=>?_;refine zx ?_;refine zz ?_;refine zw ?_;refine Run.ghost _ rfl (zeE 0 5 rfl rfl) ?_;refine zJ ?_;refine zS 7 (by kernel_rfl) ?_;refine zo (ZB rfl rfl) ?_;refine zz ?_;refine zo (ze rfl rfl (xV (by omega))) ?_;refine zz ?_;refine zo (ze rfl rfl (xV (by omega))) ?_;refine zo (yI rfl rfl rfl (zh2 _ _ _ _ _ isNat_dig isNat_dig (Nat.le_refl _) (by omega))) ?_;refine zg ?_
 exact zj zt
end Go.Proofs
/- Shifts: straitref02 and prod, up and down; Mul32. -/
namespace Go.Proofs
open Go Go.Sv Num
variable {G:Imm}
theorem YN {x y:Nat} (hx:x<4294967296) (hy:y<4294967296):zew .or .u32 x y=((x ||| y:Nat):Int):=by
 have h:x ||| y<2^32:=Nat.or_lt_two_pow (by simpa using hx) (by simpa using hy)
 have e1:(BitVec.ofInt 32 (x:Int)).toNat=x:=by simp;omega
 have e2:(BitVec.ofInt 32 (y:Int)).toNat=y:=by simp;omega
 show IntKind.u32.wrap ((BitVec.ofInt 32 (x:Int) ||| BitVec.ofInt 32 (y:Int)).toNat:Nat)=_
 rw [BitVec.toNat_or,e1,e2,vH (by omega) (by simp at h;omega)]
theorem zki {x y s:Nat} (h:x%2^s=0) (hy:y<2^s):x ||| y=x+y:=by
 have:=Nat.shiftLeft_add_eq_or_of_lt hy (x/2^s)
 rw [Nat.shiftLeft_eq,Nat.div_mul_cancel (Nat.dvd_of_mod_eq_zero h)] at this
 exact this.symm
theorem zh3 (x s:Nat):(x:Int)*2^((s:Nat):Int).toNat=((x*2^s:Nat):Int):=by simp [Int.natCast_mul,Int.natCast_pow]
theorem zh4 (x s:Nat):(x:Int)/2^((s:Nat):Int).toNat=((x/2^s:Nat):Int):=by simp [Int.natCast_ediv,Int.natCast_pow]
theorem zcX {s:Nat} (hs:s≤32):4294967296=2^s*2^(32-s):=by rw [←Nat.pow_add,show s+(32-s)=32 by omega]
theorem Jw {x s c:Nat} (hs:s≤32) (hc:c<2^s):(x*2^s)%4294967296 ||| c=(x*2^s+c)%4294967296∧(x*2^s)/4294967296=(x*2^s+c)/4294967296:=by
 have hd:2^s∣4294967296:=⟨2^(32-s),zcX hs⟩
 have h0:(x*2^s)%4294967296%2^s=0:=by rw [Nat.mod_mod_of_dvd _ hd,Nat.mul_mod_left]
 have hlt:=Nat.mod_lt (x*2^s) (show 0<4294967296 by omega)
 have hle:(x*2^s)%4294967296+2^s≤4294967296:=by
  obtain⟨v,hv⟩:=Nat.dvd_of_mod_eq_zero h0
  rw [hv] at hlt ⊢
  have e:=zcX hs
  generalize 2^(32-s)=y at e
  rw [e] at hlt ⊢
  have:=Nat.lt_of_mul_lt_mul_left hlt
  calc 2^s*v+2^s=2^s*(v+1):=by rw [Nat.mul_add,Nat.mul_one]
   _≤2^s*y:=Nat.mul_le_mul_left _ this
 rw [zki h0 hc]
 generalize x*2^s=u at *
 omega
theorem Uj (j:Nat):∀ n:Nat,limb (yz n) j=n/4294967296^j%4294967296:=by
  induction j with
  | zero=>
    intro n
    by_cases h:n=0
    · subst h;rw [dig_zero];rfl
    · rw [Xp h,ZM,Nat.pow_zero,Nat.div_one]
  | succ j ih=>
    intro n
    by_cases h:n=0
    · subst h;rw [dig_zero,vR,Nat.zero_div,Nat.zero_mod]
    · rw [Xp h,ZN,ih,Nat.div_div_eq_div_mul,Nat.mul_comm,←Nat.pow_succ]
theorem zgA {a:List Nat} (ha:xU a) (w:Nat):val a/4294967296^w=val (a.drop w):=by
 rw [zal a w,Nat.add_mul_div_left _ _ (Nat.pow_pos (by omega)),Nat.div_eq_of_lt (Qd ha w),Nat.zero_add]
theorem Kp {a:List Nat} (ha:xU a) {w s j:Nat} (hs:s≤32):limb (yz (val (a.drop w)/2^s)) j=(limb a (w+j)+4294967296*limb a (w+j+1))/2^s%4294967296:=by
 rw [Uj,Nat.div_div_eq_div_mul,Nat.mul_comm,←Nat.div_div_eq_div_mul,zgA (vJ ha w),List.drop_drop,Uf,Uf]
 have e:=zcX hs
 generalize val (List.drop (w+j+1+1) a)=r
 generalize limb a (w+j)=x
 generalize limb a (w+j+1)=y
 have e2:x+4294967296*(y+4294967296*r)=x+4294967296*y+2^s*(2^(32-s)*r*4294967296):=by
  rw [Nat.mul_add,←Nat.add_assoc]
  congr 1
  generalize 2^s=p at *
  generalize 2^(32-s)=q at *
  rw [←Nat.mul_assoc,Nat.mul_right_comm q r,←Nat.mul_assoc,←Nat.mul_assoc,←e]
 rw [e2,Nat.add_mul_div_left _ _ (Nat.pow_pos (by omega)),Nat.add_mul_mod_self_right]
theorem vg (k:Nat):2^k=4294967296^(k/32)*2^(k%32):=by
 rw [show (4294967296:Nat)=2^32 by rfl,←Nat.pow_mul,←Nat.pow_add,Nat.div_add_mod]
theorem zgB {a:List Nat} (ha:xU a) (k:Nat):val a/2^k=val (a.drop (k/32))/2^(k%32):=by
 rw [vg,←Nat.div_div_eq_div_mul,zgA ha]
theorem zcY {s:Nat} (h:s<32):2^s≤2147483648:=Nat.pow_le_pow_right (n:=2) (by omega) (show s≤31 by omega)
theorem zkj {x s c:Nat} (hx:x<4294967296) (hs:s<32) (hc:c<2^s):x*2^s<9223372036854775808∧(x*2^s+c)/4294967296<2^s:=by
 have h1:=zcY hs
 have h2:=Nat.mul_le_mul (show x≤4294967295 by omega) h1
 refine⟨by omega,?_⟩
 rw [Nat.div_lt_iff_lt_mul (by omega)]
 have h3:(x+1)*2^s≤4294967296*2^s:=Nat.mul_le_mul_right _ (by omega)
 rw [Nat.add_mul,Nat.one_mul] at h3
 rw [Nat.mul_comm _ 4294967296];omega
theorem zeO {v p c x q ps l pi:Nat} (hp:p=q*pi) (h:v+p*c=q*(ps*l)):v+p*((x*ps+c)%4294967296)+p*4294967296*((x*ps+c)/4294967296)=q*(ps*(l+pi*x)):=by
 have e:p*((x*ps+c)%4294967296)+p*4294967296*((x*ps+c)/4294967296)=p*(x*ps)+p*c:=by
  rw [Nat.mul_assoc,←Nat.mul_add,Nat.mod_add_div,Nat.mul_add]
 have e2:q*(ps*(l+pi*x))=q*(ps*l)+p*(x*ps):=by subst hp;grind
 omega
theorem zan {l:List Nat} {n x:Nat} {f:Nat→Nat} (hl:l.length=n) (h:∀ t,t<n→limb l t=f t) {t:Nat} (ht:t<n+1) (hx:x=f n:=by rfl):limb (l++[x]) t=f t:=by
 by_cases h1:t<n
 ·rw [←h t h1];simp only [limb,List.getD_eq_getElem?_getD];rw [List.getElem?_append_left (by omega)]
 ·have:t=n:=by omega
  subst this;subst hx;subst hl
  simp [limb,List.getD_eq_getElem?_getD]
theorem Kq {x y:Nat} (hx:x<4294967296) (hy:y<4294967296):zp Tryz.prog G 144 [intS .u32 x,intS .u32 y] (xn [intS .u32 (x*y/4294967296:Nat),intS .u32 (x*y%4294967296:Nat)]):=by
 have hxy:=Nat.mul_le_mul (show x≤4294967295 by omega) (show y≤4294967295 by omega)
 obtain⟨w,hw⟩:∃ w,w=x*y:=⟨_,rfl⟩
 rw [←hw] at hxy ⊢
 refine zs Tryz.func144 ?_;refine zg ?_;refine zA ?_;refine zz ?_;refine zA ?_;refine zo (yA (z:=((w:Nat):Int)) rfl rfl rfl (congrArg some (by rw [hw,Int.natCast_mul])) (xf (by omega) (by omega))) ?_;refine zg ?_;refine zo ((wr rfl rfl rfl (by omega) (by simp [IntKind.bits])).sub (zD (Ys _))) ?_;refine zA ?_;refine zz ?_;refine zo (yQ (z:=((w%4294967296:Nat):Int)) rfl rfl xx) ?_;refine zg ?_
 exact zj zt
theorem zcZ {a:List Nat} {m k:Nat} [hm:IsNat a m] (hk:k≤65536) (hs:a.length+10000≤cap):zp Tryz.prog G 168 [zy a,intS .i64 k] (zy (yz (m*2^k))):=by
 unfold cap at hs
 have hsl:k%32<32:=Nat.mod_lt _ (by omega)
 refine zs Tryz.func168 ?_;refine zg ?_;refine zo ((ze rfl rfl QV).sub (zD (n:=((k:Nat):Int)) (by omega))) ?_;refine zg ?_;refine zo ((wU rfl rfl rfl (by omega) (by omega) (wrap_i64 (by omega) (by omega))).sub (zD (n:=((k/32:Nat):Int)) (by omega))) ?_;refine Run.makeNat (n:=k/32) (c:=k/32) rfl rfl rfl rfl rfl rfl rfl (Nat.le_refl _) (by omega) (by unfold cap;omega) fun b13 hb13=>?_;refine zz ?_;refine zx ?_;refine zz ?_;refine zJ ?_;refine zh ?_;refine zg ?_
 refine ZA (fun i q c out=>⟨_,[(7,intS .i64 (i:Nat)),(6,intS .u32 (c:Nat)),(5,eqS (rowV q (k/32+i))),(1,intS .i64 (k:Nat)),(0,zy a)],[rowE q 64 1 (k/32+i) (out.flatMap xP)],[],(0,false)⟩)
   (fun i q c out=>i≤a.length∧yu q (k/32+i)∧c<2^(k%32)∧xU out∧out.length=k/32+i∧val out+4294967296^(k/32+i)*c=4294967296^(k/32)*(2^(k%32)*low a i)) (fun i q c out=>a.length-i)
   0 (some (b13,k/32)) 0 (List.replicate (k/32) 0) ⟨Nat.zero_le _,hb13,Nat.pow_pos (by omega),wj _,List.length_replicate,by rw [xz,vS,Nat.mul_zero,Nat.mul_zero,Nat.mul_zero]⟩ (zL (zb rfl (zb rfl (zb rfl (zb rfl (zb rfl trivial))))) rfl) ?_
 rintro i q c out ⟨hi,hq,hc,hlo,hln,hval⟩
 have hp2:=zcY hsl
 refine zh ?_;refine zg ?_;refine zd (fun _ k17=>?_) fun _ k17=>?_
 ·have hx:=yF hm.lim i
  obtain⟨hu1,hu2⟩:=zkj hx hsl hc
  obtain⟨hu3,hu4⟩:=Jw (x:=limb a i) (by omega) hc
  refine zE ?_;refine zh ?_;refine zg ?_;refine zo (zi rfl rfl rfl (by omega) (y:=limb a i) (yV (by omega))) ?_;refine zz ?_;refine zA ?_;refine zz ?_;refine zo ((wV rfl rfl rfl (by omega) (by omega)).sub (zD (n:=((k%32:Nat):Int)) (by omega))) ?_;refine zA ?_;refine zo ((Zs rfl rfl rfl (by omega) (by simp [IntKind.bits];omega)).sub (zD (n:=((limb a i*2^(k%32):Nat):Int)) (by rw [zh3];exact xf (by omega) (by omega)))) ?_;refine zg ?_;refine zo (yQ (z:=((limb a i*2^(k%32)%4294967296:Nat):Int)) rfl rfl xx) ?_;refine zz ?_;refine zo ((wI rfl (by simp) rfl rfl).sub (zD (n:=(((limb a i*2^(k%32)+c)%4294967296:Nat):Int)) (by rw [YN (by omega) (by omega),hu3]))) ?_;refine zo (xl [(limb a i*2^(k%32)+c)%4294967296] rfl rfl (by decide) rfl (by simp) rfl rfl rfl) ?_;refine Run.append 0 rfl rfl rfl rfl rfl rfl rfl rfl hq (by rw [yH,hln]) yJ (by unfold yP;simp;omega) (by unfold yP;simp;omega) fun q35 hq35=>?_;refine zg ?_;refine zo ((wr rfl rfl rfl (by omega) (by simp [IntKind.bits])).sub (zD ((Ys _).trans (by rw [hu4])))) ?_;refine zA ?_;refine zg ?_;refine zA ?_;refine zz ?_;refine zJ ?_
  refine⟨i+1,q35,(limb a i*2^(k%32)+c)/4294967296,out++[(limb a i*2^(k%32)+c)%4294967296],⟨by omega,hq35,hu2,wZ hlo (by omega),by simp [hln];omega,?_⟩,by omega,zL (zb rfl (zb rfl (zb rfl (zb rfl (zb rfl trivial))))) (by rw [List.flatMap_append];rfl)⟩
  rw [vK,hln,xr,show k/32+(i+1)=k/32+i+1 by omega,yZ];exact zeO (Nat.pow_add _ _ _) hval
 ·have hia:i=a.length:=by omega
  rw [hia,wJ (Nat.le_refl _),hm.val] at hval
  refine zI ?_;refine zg ?_;refine zo (xl [c] rfl rfl (by decide) rfl (by simp) rfl rfl rfl) ?_;refine Run.append 0 rfl rfl rfl rfl rfl rfl rfl rfl hq (by rw [yH,hln]) yJ (by unfold yP;simp;omega) (by unfold yP;simp;omega) fun q42 hq42=>?_;refine Run.ghost _ rfl (yU 0 42 rfl rfl hq42 (l:=out++[c]) (f:=xP) (by simp [hln]) List.flatMap_append.symm yJ (by unfold yP;simp;omega)) ?_
  have:IsNat (out++[c]) (m*2^k):=⟨wZ hlo (by omega),by rw [vK,hln,hia,hval,vg k,Nat.mul_comm m,Nat.mul_assoc]⟩
  refine zo (ze rfl rfl (xE (by unfold cap;simp;omega))) ?_;refine zg ?_
  exact zj zt
theorem zmK {a:List Nat} {m k:Nat} [hm:IsNat a m] (hk:k≤65536) (hs:a.length+10000≤cap):zp Tryz.prog G 136 [zy a,intS .i64 k] (zy (yz (m*2^k))):=by
 unfold cap at hs
 have hsl:k%32<32:=Nat.mod_lt _ (by omega)
 refine zs Tryz.func136 ?_;refine zg ?_;refine zo ((ze rfl rfl VI).sub (zD (n:=((k:Nat):Int)) (by omega))) ?_;refine zg ?_;refine zo ((wU rfl rfl rfl (by omega) (by omega) (wrap_i64 (by omega) (by omega))).sub (zD (n:=((k/32:Nat):Int)) (by omega))) ?_;refine zz ?_;refine zo ((wU rfl rfl rfl (by omega) (by omega) (wrap_i64 (by omega) (by omega))).sub (zD (n:=((k/32:Nat):Int)) (by omega))) ?_;refine zg ?_;refine zA ?_;refine za ((k/32+a.length+1:Nat):Int) ?_;refine Run.makeNat (n:=k/32) (c:=k/32+a.length+1) rfl rfl rfl rfl rfl rfl rfl (by omega) (by omega) (by unfold cap;omega) fun b13 hb13=>?_;refine zz ?_;refine zx ?_;refine zz ?_;refine zJ ?_;refine zh ?_;refine zg ?_
 refine ZA (fun i q c out=>⟨_,[(24,intS .i64 (i:Nat)),(23,intS .i64 a.length),(22,zy a),(6,intS .u32 (c:Nat)),(5,eqS (rowV q (k/32+i))),(1,intS .i64 (k:Nat))],[rowE q 64 1 (k/32+i) (out.flatMap xP)],[],(0,false)⟩)
   (fun i q c out=>i≤a.length∧yu q (k/32+i)∧c<2^(k%32)∧xU out∧out.length=k/32+i∧val out+4294967296^(k/32+i)*c=4294967296^(k/32)*(2^(k%32)*low a i)) (fun i q c out=>a.length-i)
   0 (some (b13,k/32+a.length+1)) 0 (List.replicate (k/32) 0) ⟨Nat.zero_le _,hb13,Nat.pow_pos (by omega),wj _,List.length_replicate,by rw [xz,vS,Nat.mul_zero,Nat.mul_zero,Nat.mul_zero]⟩ (zL (zb rfl (zb rfl (zb rfl (zb rfl (zb rfl (zb rfl trivial)))))) rfl) ?_
 rintro i q c out ⟨hi,hq,hc,hlo,hln,hval⟩
 have hp2:=zcY hsl
 refine zr ?_;refine zz ?_;refine zJ ?_;refine zh ?_;refine zd (fun _ k25=>?_) fun _ k25=>?_
 ·have hx:=yF hm.lim i
  obtain⟨hu1,hu2⟩:=zkj hx hsl hc
  obtain⟨hu3,hu4⟩:=Jw (x:=limb a i) (by omega) hc
  refine zE ?_;refine zh ?_;refine zg ?_;refine zo (zi rfl rfl rfl (by omega) (y:=limb a i) (yV (by omega))) ?_;refine zg ?_;refine zo ((wV rfl rfl rfl (by omega) (by omega)).sub (zD (n:=((k%32:Nat):Int)) (by omega))) ?_;refine zo ((Zs rfl rfl rfl (by omega) (by simp [IntKind.bits];omega)).sub (zD (n:=((2^(k%32):Nat):Int)) (by have:=zh3 1 (k%32);rw [Nat.one_mul] at this;refine (congrArg _ this).trans ?_;exact vH (by omega) (by omega)))) ?_;refine zo (ze rfl rfl (Kq hx (by omega))) ?_;refine zg ?_;refine zo ((wI rfl (by simp) rfl rfl).sub (zD (n:=(((limb a i*2^(k%32)+c)%4294967296:Nat):Int)) (by rw [YN (by omega) (by omega),hu3]))) ?_;refine zo (xl [(limb a i*2^(k%32)+c)%4294967296] rfl rfl (by decide) rfl (by simp) rfl rfl rfl) ?_;refine Run.append 0 rfl rfl rfl rfl rfl rfl rfl rfl hq (by rw [yH,hln]) yJ (by unfold yP;simp;omega) (by unfold yP;simp;omega) fun q35 hq35=>?_;refine zo ((zG rfl rfl).sub (zD (n:=(((limb a i*2^(k%32)+c)/4294967296:Nat):Int)) (by rw [hu4]))) ?_;refine zg ?_;refine zA ?_;refine zz ?_;refine zJ ?_
  refine⟨i+1,q35,(limb a i*2^(k%32)+c)/4294967296,out++[(limb a i*2^(k%32)+c)%4294967296],⟨by omega,hq35,hu2,wZ hlo (by omega),by simp [hln];omega,?_⟩,by omega,zL (zb rfl (zb rfl (zb rfl (zb rfl (zb rfl (zb rfl trivial)))))) (by rw [List.flatMap_append];rfl)⟩
  rw [vK,hln,xr,show k/32+(i+1)=k/32+i+1 by omega,yZ];exact zeO (Nat.pow_add _ _ _) hval
 ·have hia:i=a.length:=by omega
  rw [hia,wJ (Nat.le_refl _),hm.val] at hval
  refine zI ?_;refine zg ?_;refine zo (xl [c] rfl rfl (by decide) rfl (by simp) rfl rfl rfl) ?_;refine Run.append 0 rfl rfl rfl rfl rfl rfl rfl rfl hq (by rw [yH,hln]) yJ (by unfold yP;simp;omega) (by unfold yP;simp;omega) fun q42 hq42=>?_;refine Run.ghost _ rfl (yU 0 47 rfl rfl hq42 (l:=out++[c]) (f:=xP) (by simp [hln]) List.flatMap_append.symm yJ (by unfold yP;simp;omega)) ?_
  have:IsNat (out++[c]) (m*2^k):=⟨wZ hlo (by omega),by rw [vK,hln,hia,hval,vg k,Nat.mul_comm m,Nat.mul_assoc]⟩
  refine zo (ze rfl rfl (xV (by unfold cap;simp;omega))) ?_;refine zg ?_
  exact zj zt
theorem Kr {a:List Nat} {m k:Nat} [hm:IsNat a m] (hk:k≤65536) (hs:a.length≤cap):zp Tryz.prog G 165 [zy a,intS .i64 k] (zy (yz (m/2^k))):=by
 unfold cap at hs
 have hsl:k%32<32:=Nat.mod_lt _ (by omega)
 have hd:=zgB hm.lim k
 rw [hm.val] at hd
 refine zs Tryz.func165 ?_;refine zg ?_;refine zo ((ze rfl rfl QV).sub (zD (n:=((k:Nat):Int)) (by omega))) ?_;refine zz ?_;refine zx ?_;refine Run.ghost _ rfl (yL 64 1) ?_;refine zz ?_;refine zJ ?_;refine zh ?_;refine zg ?_;refine zo ((wU rfl rfl rfl (by omega) (by omega) (wrap_i64 (by omega) (by omega))).sub (zD (n:=((k/32+0:Nat):Int)) (by omega))) ?_;refine zg ?_
 refine Zh (fun j q out=>⟨_,[(6,intS .i64 (k/32+j:Nat)),(5,eqS (rowV q j)),(1,intS .i64 (k:Nat)),(0,zy a)],[rowE q 64 1 j (out.flatMap xP)],[],(0,false)⟩)
   (fun j q out=>(j=0∨k/32+j≤a.length)∧yu q j∧xU out∧out.length=j∧∀ t,t<j→limb out t=limb (yz (m/2^k)) t) (fun j q out=>a.length-(k/32+j))
   0 none [] ⟨.inl rfl,rfl,vB,rfl,fun t h=>by omega⟩ (zL zk rfl) ?_
 rintro j q out ⟨hj,hq,hlo,hln,hz⟩
 refine zh ?_;refine zg ?_;refine zd (fun _ k15=>?_) fun _ k15=>?_
 ·have hx:=yF hm.lim (k/32+j)
  have hy:=yF hm.lim (k/32+j+1)
  obtain⟨v,hv⟩:∃ v,v=limb a (k/32+j)+4294967296*limb a (k/32+j+1):=⟨_,rfl⟩
  have hdg:=Kp hm.lim (w:=k/32) (s:=k%32) (j:=j) (by omega)
  rw [←hd,←hv] at hdg
  refine zE ?_;refine zh ?_;refine zg ?_;refine zo (zi rfl rfl rfl (by omega) (y:=limb a (k/32+j)) (yV (by omega))) ?_;refine zz ?_;refine zA ?_;refine zz ?_;refine zJ ?_;refine zh ?_;refine zg ?_;refine za ((k/32+j+1:Nat):Int) ?_;refine zg ?_;refine zd (fun _ k27=>?_) fun _ k27=>?_
  ·refine zg ?_;refine za ((k/32+j+1:Nat):Int) ?_;refine zo (zi rfl rfl rfl (by omega) (y:=limb a (k/32+j+1)) (yV (by omega))) ?_;refine zz ?_;refine zA ?_;refine zo ((Zs rfl rfl rfl (by omega) (by simp [IntKind.bits])).sub (zD (n:=((4294967296*limb a (k/32+j+1):Nat):Int)) ((xf (by simp;omega) (by simp;omega)).trans (by simp;omega)))) ?_;refine zo ((wI rfl (by simp) rfl rfl).sub (zD (n:=((v:Nat):Int)) (by rw [Yr (by omega) (by omega),Nat.or_comm,Jv hx];omega))) ?_;refine zz ?_;refine zJ ?_;refine zO ?_;refine zz ?_;refine zo ((zG rfl rfl).sub (zD (n:=((v:Nat):Int)) (by omega))) ?_;refine zz ?_;refine zo ((wV rfl rfl rfl (by omega) (by omega)).sub (zD (n:=((k%32:Nat):Int)) (by omega))) ?_;refine zA ?_;refine zo ((wr rfl rfl rfl (by omega) (by simp [IntKind.bits];omega)).sub (zD (zh4 v (k%32)))) ?_;refine zo (yQ (z:=((limb (yz (m/2^k)) j:Nat):Int)) rfl rfl (xx.trans (by rw [hdg];rfl))) ?_;refine zo (xl [limb (yz (m/2^k)) j] rfl rfl (by decide) rfl (by simp) rfl rfl rfl) ?_;refine Run.append 0 rfl rfl rfl rfl rfl rfl rfl rfl hq (by rw [yH,hln]) yJ (by unfold yP;simp;omega) (by unfold yP;simp;omega) fun q45 hq45=>?_;refine zg ?_;refine za ((k/32+(j+1):Nat):Int) ?_;refine zg ?_
   exact⟨j+1,q45,out++[limb (yz (m/2^k)) j],⟨by omega,hq45,wZ hlo (yF (xe _) _),by simp [hln],fun t ht=>zan (f:=limb (yz (m/2^k))) hln hz ht⟩,by omega,zL (zb rfl (zb rfl (zb rfl (zb rfl trivial)))) (by rw [List.flatMap_append];rfl)⟩
  ·have hy0:limb a (k/32+j+1)=0:=xY (by omega)
   refine zE ?_;refine zO ?_;refine zz ?_;refine zo ((zG rfl rfl).sub (zD (n:=((v:Nat):Int)) (by omega))) ?_;refine zz ?_;refine zo ((wV rfl rfl rfl (by omega) (by omega)).sub (zD (n:=((k%32:Nat):Int)) (by omega))) ?_;refine zA ?_;refine zo ((wr rfl rfl rfl (by omega) (by simp [IntKind.bits];omega)).sub (zD (zh4 v (k%32)))) ?_;refine zo (yQ (z:=((limb (yz (m/2^k)) j:Nat):Int)) rfl rfl (xx.trans (by rw [hdg];rfl))) ?_;refine zo (xl [limb (yz (m/2^k)) j] rfl rfl (by decide) rfl (by simp) rfl rfl rfl) ?_;refine Run.append 0 rfl rfl rfl rfl rfl rfl rfl rfl hq (by rw [yH,hln]) yJ (by unfold yP;simp;omega) (by unfold yP;simp;omega) fun q45 hq45=>?_;refine zg ?_;refine za ((k/32+(j+1):Nat):Int) ?_;refine zg ?_
   exact⟨j+1,q45,out++[limb (yz (m/2^k)) j],⟨by omega,hq45,wZ hlo (yF (xe _) _),by simp [hln],fun t ht=>zan (f:=limb (yz (m/2^k))) hln hz ht⟩,by omega,zL (zb rfl (zb rfl (zb rfl (zb rfl trivial)))) (by rw [List.flatMap_append];rfl)⟩
 ·refine zI ?_;refine zr ?_
  have hql:(yz (m/2^k)).length≤a.length-k/32:=zK (by
   rw [hd]
   refine Yq (wn (vJ hm.lim (k/32))) (Nat.div_le_self _ _) ?_
   simp)
  have:IsNat out (m/2^k):=⟨hlo,by rw [WP (n:=j) (by omega) (by omega) hz,xq]⟩
  refine Run.ghost _ rfl (yU 0 5 rfl rfl hq (l:=out) (f:=xP) hln rfl yJ (by unfold yP;omega)) ?_;refine zz ?_;refine zo (ze rfl rfl (xE (by unfold cap;omega))) ?_;refine zg ?_
  exact zj zt
end Go.Proofs
/- Down of prod; bits: Mul64, Len32, LeadingZeros32, TrailingZeros64. -/
namespace Go.Proofs
open Go Go.Sv Num
variable {G:Imm}
theorem zao (a:List Nat) (w i:Nat):limb (a.drop w) i=limb a (w+i):=by simp [limb,List.getD_eq_getElem?_getD]
theorem zh5 {x y s:Nat} (hs:s≤32):(x+4294967296*y)/2^s=y*2^(32-s)+x/2^s:=by
 have e:=zcX hs
 have e2:x+4294967296*y=x+2^s*(y*2^(32-s)):=by
  rw [Nat.mul_comm y,←Nat.mul_assoc,←e]
 rw [e2,Nat.add_mul_div_left _ _ (Nat.pow_pos (by omega)),Nat.add_comm]
theorem Ks {out:List Nat} {i z:Nat} {f d:Nat→Nat} (hi:i<out.length) (h1:∀ t,t<i→limb out t=f t) (h2:∀ t,i≤t→limb out t=d t) (hz:z=f i):
  (∀t,t<i+1→limb (out.set i z) t=f t)∧∀ t,i+1≤t→limb (out.set i z) t=d t:=by
 refine⟨fun t ht=>?_,fun t ht=>by rw [wq (by omega)];exact h2 t (by omega)⟩
 by_cases h:t=i
 ·subst h;rw [Zk hi,hz]
 ·rw [wq (by omega)];exact h1 t (by omega)
theorem Uk (x:Nat):x &&& 4294967295=x%4294967296:=Nat.and_two_pow_sub_one_eq_mod x 32
theorem zc0 (x y:Nat):x*y=x%4294967296*(y%4294967296)+4294967296*(x/4294967296*(y%4294967296)+x%4294967296*(y/4294967296))+18446744073709551616*(x/4294967296*(y/4294967296)):=by
 have hx:=Nat.mod_add_div x 4294967296
 have hy:=Nat.mod_add_div y 4294967296
 generalize x%4294967296=a at *
 generalize x/4294967296=b at *
 generalize y%4294967296=c at *
 generalize y/4294967296=d at *
 subst hx;subst hy
 grind
theorem zkk {i:Nat} (h:i<256):∃ hk:i<Lib.len8tab.size,(Lib.len8tab[i]'hk).toNat=Lib.bitLen i:=by
 have h':i<Lib.len8tab.size:=by rw [Lib.len8tab_size];exact h
 refine⟨h',?_⟩
 have:=Lib.len8_eq ⟨i,h⟩
 simp only [Lib.len8,Int.toNat_natCast,ByteArray.getElem?_lt' _ _ h',Option.getD_some] at this
 omega
theorem uS {x:Nat} (h:x<256):Lib.bitLen x≤8:=Lib.bitLen_le8 ⟨x,h⟩
def zmL:Array Value:=(Lib.deBruijn64tab.map fun n=>Value.int .u8 (n:Nat)).toArray
class Tab (G:Imm):Prop where
 h:G 5=some zmL
theorem zmM {x s:Nat} (hx:x<4294967296) (hs:s<32):x/2^s<2^(32-s):=by
 rw [Nat.div_lt_iff_lt_mul (Nat.pow_pos (by omega)),Nat.mul_comm,←zcX (by omega)];exact hx
theorem Qe {l:List Nat} (hl:l.length≤cap) (hne:l≠[]):CallSpec Tryz.prog G 131 [zy l] [] (fun s H'=>∃ b c,yu (some (b,c)) l.length∧s=eqS (rowV (some (b,c)) l.length)∧H'=[rowE (some (b,c)) 64 1 l.length (l.flatMap xP)]):=by
 unfold cap at hl
 refine zs Tryz.func131 ?_;refine zr ?_;refine zz ?_;refine zJ ?_;refine zh ?_;refine zg ?_;refine zo (YF rfl rfl rfl) ?_;refine zJ ?_;refine Qa rfl rfl (fun h4=>?_) ?_
 ·exact absurd h4 hne
 ·refine zg ?_;refine Run.buildRow rfl rfl rfl rfl rfl rfl (by decide) rfl (.inl rfl) rfl rfl fun b5 hb5=>?_;refine zz ?_;refine Run.append 0 rfl rfl rfl rfl rfl rfl rfl rfl hb5 rfl yJ (by unfold yP;omega) (by unfold yP;omega) fun q7 hq7=>?_
  obtain _ | ⟨b,c⟩:=q7
  ·exact absurd (List.eq_nil_of_length_eq_zero (by have:0+l.length=0:=hq7;omega)) hne
  refine zg ?_;refine zj ?_
  exact⟨_,[_],.one (.tmp rfl),.refl _,b,c,(by rw [Nat.zero_add] at hq7;exact hq7),by rw [Nat.zero_add],by rw [Nat.zero_add];rfl⟩
theorem zh6 {a:List Nat} {m k:Nat} [hm:IsNat a m] (hk:k≤65536) (hs:a.length≤cap):zp Tryz.prog G 138 [zy a,intS .i64 k] (zy (yz (m/2^k))):=by
 have hs0:=hs
 unfold cap at hs
 have hsl:k%32<32:=Nat.mod_lt _ (by omega)
 have hd:=zgB hm.lim k
 rw [hm.val] at hd
 obtain⟨d,hdd⟩:∃ d,d=a.drop (k/32):=⟨_,rfl⟩
 rw [←hdd] at hd
 have hdl:d.length=a.length-k/32:=by rw [hdd];simp
 have hld:xU d:=hdd▸vJ hm.lim _
 refine zs Tryz.func138 ?_;refine zr ?_;refine zz ?_;refine zJ ?_;refine ut ?_;refine zg ?_;refine zo ((ze rfl rfl VI).sub (zD (n:=((k:Nat):Int)) (by omega))) ?_;refine zz ?_;refine zJ ?_;refine zh ?_;refine zg ?_;refine zo ((wU rfl rfl rfl (by omega) (by omega) (wrap_i64 (by omega) (by omega))).sub (zD (n:=((k/32:Nat):Int)) (by omega))) ?_;refine zg ?_;refine zd (fun _ k13=>?_) fun _ k13=>?_
 ·refine zr ?_;refine zo ((yS rfl rfl).sub (wF (l:=yz (m/2^k)) (vC.2 (by rw [hd,List.eq_nil_of_length_eq_zero (l:=d) (by omega)];simp [val])))) ?_;refine zJ ?_
  exact zj zt
 ·refine zg ?_;refine zo ((wU rfl rfl rfl (by omega) (by omega) (wrap_i64 (by omega) (by omega))).sub (zD (n:=((k/32:Nat):Int)) (by omega))) ?_;refine zo ((xX (lo:=k/32) (hi:=a.length) (m:=0) rfl rfl (.inr ⟨_,_,rfl,rfl⟩) (.inl ⟨rfl,rfl,rfl⟩) (.inl rfl) (by omega) (Nat.le_refl _)).sub (show ∀I v,_→(zy d).den I v from fun I v h=>by rw [List.take_length,←hdd] at h;exact h)) ?_;refine Run.call0 rfl rfl rfl (Qe (by unfold cap;omega) (fun h=>by rw [h] at hdl;simp at hdl;omega)) rfl rfl rfl ?_
  rintro s H1 ⟨b,c,hb,rfl,rfl⟩
  refine zz ?_;refine zJ ?_;refine zh ?_;refine us ?_;refine zh ?_;refine zg ?_;refine zo (xK rfl rfl hb) ?_;refine zg ?_
  refine yX (fun i out=>⟨_,[(21,intS .i64 (i:Nat)),(20,intS .i64 d.length),(5,eqS (rowV (some (b,c)) d.length)),(1,intS .i64 (k:Nat))],[rowE (some (b,c)) 64 1 d.length (out.flatMap xP)],[],(0,false)⟩)
    (fun i out=>i≤d.length∧xU out∧out.length=d.length∧(∀t,t<i→limb out t=limb (yz (m/2^k)) t)∧∀ t,i≤t→limb out t=limb d t) (fun i out=>d.length-i)
    0 d ⟨Nat.zero_le _,hld,rfl,fun t h=>by omega,fun t h=>rfl⟩ (zL zk rfl) ?_
  rintro i out ⟨hi,hlo,hln,hz1,hz2⟩
  have hx:=yF hld i
  have hy:=yF hld (i+1)
  have hdg:=Kp hm.lim (w:=k/32) (s:=k%32) (j:=i) (by omega)
  rw [←hdd,←hd,Nat.add_assoc,←zao,←zao,←hdd] at hdg
  have hx2:limb d i/2^(k%32)≤limb d i:=Nat.div_le_self _ _
  refine zr ?_;refine zz ?_;refine zJ ?_;refine zh ?_;refine zd (fun _ k22=>?_) fun _ k22=>?_
  ·refine zE ?_;refine zh ?_;refine zg ?_;refine zo (xm (i:=i) rfl rfl rfl (by omega)) ?_;refine zo (vf 0 rfl rfl rfl (by omega)) ?_;refine zz ?_;refine zo ((wV rfl rfl rfl (by omega) (by omega)).sub (zD (n:=((k%32:Nat):Int)) (by omega))) ?_;refine zo ((wr rfl rfl rfl (by omega) (by simp [IntKind.bits];omega)).sub (zD (n:=((limb d i/2^(k%32):Nat):Int)) ((zh4 _ _).trans (by rw [hz2 i (Nat.le_refl _)])))) ?_;refine zo (xm (i:=i) rfl rfl rfl (by omega)) ?_;refine Run.storeRow 0 rfl rfl rfl rfl rfl (by omega) rfl rfl ?_;refine zJ ?_;refine zh ?_;refine zg ?_;refine za ((i+1:Nat):Int) ?_;refine zz ?_;refine zo (xK rfl rfl hb) ?_
   refine Run.oneB (zZ rfl rfl rfl rfl) rfl rfl rfl (fun h9_4=>?_) (fun h9_4=>?_)
   ·have k9_4:=of_decide_eq_true h9_4
    refine zg ?_;refine xt rfl rfl ?_;refine zI ?_;refine zO ?_;refine zA ?_;refine zz ?_;refine zJ ?_
    obtain⟨g1,g2⟩:=Ks (z:=limb d i/2^(k%32)) (f:=limb (yz (m/2^k))) (d:=limb d) (by omega) hz1 hz2 (by rw [hdg,xY (l:=d) (i:=i+1) (by omega),Nat.mul_zero,Nat.add_zero];exact (Nat.mod_eq_of_lt (by omega)).symm)
    exact⟨i+1,_,⟨by omega,uv hlo (by omega),by rw [List.length_set];exact hln,g1,g2⟩,by omega,zL (zb rfl (zb rfl (zb rfl (zb rfl trivial)))) rfl⟩
   ·have k9_4:=of_decide_eq_false h9_4
    refine zg ?_;refine zo ((wV rfl rfl rfl (by omega) (by omega)).sub (zD (n:=((k%32:Nat):Int)) (by omega))) ?_;refine zg ?_;refine zd (fun _ k41=>?_) fun _ k41=>?_
    ·refine zI ?_;refine zO ?_;refine zA ?_;refine zz ?_;refine zJ ?_
     obtain⟨g1,g2⟩:=Ks (z:=limb d i/2^(k%32)) (f:=limb (yz (m/2^k))) (d:=limb d) (by omega) hz1 hz2 (by rw [hdg,show k%32=0 by omega,Nat.pow_zero,Nat.div_one,Nat.div_one];omega)
     exact⟨i+1,_,⟨by omega,uv hlo (by omega),by rw [List.length_set];exact hln,g1,g2⟩,by omega,zL (zb rfl (zb rfl (zb rfl (zb rfl trivial)))) rfl⟩
    ·refine zE ?_;refine Zu 15 (by kernel_rfl) ?_;refine zg ?_;refine zo (xm (i:=i) rfl rfl rfl (by omega)) ?_;refine zo (vf 0 rfl rfl rfl (by rw [List.length_set];omega)) ?_;refine zg ?_;refine za ((i+1:Nat):Int) ?_;refine zo (xm (i:=i+1) rfl rfl rfl (by omega)) ?_;refine zo (vf 0 rfl rfl rfl (by rw [List.length_set];omega)) ?_;refine zz ?_;refine zo ((wV rfl rfl rfl (by omega) (by omega)).sub (zD (n:=((k%32:Nat):Int)) (by omega))) ?_;refine za ((32-k%32:Nat):Int) ?_;refine zo ((Zs rfl rfl rfl (by omega) (by simp [IntKind.bits];omega)).sub (zD (n:=((limb d (i+1)*2^(32-k%32)%4294967296:Nat):Int)) (by rw [zh3,wq (by omega),hz2 _ (by omega)];exact xx))) ?_
     refine zo ((wI rfl (by simp) rfl rfl).sub (zD (n:=((limb (yz (m/2^k)) i:Nat):Int)) (by rw [Zk (by omega),YN (by omega) (by omega),Nat.or_comm,(Jw (by omega) (zmM hx hsl)).1,hdg,zh5 (by omega)]))) ?_
     refine zo (xm (i:=i) rfl rfl rfl (by omega)) ?_;refine zJ ?_;refine Run.storeRow 0 rfl rfl rfl rfl rfl (by rw [List.length_set];omega) rfl rfl ?_;refine zg ?_;refine zA ?_;refine zz ?_;refine zJ ?_
     obtain⟨g1,g2⟩:=Ks (z:=limb (yz (m/2^k)) i) (f:=limb (yz (m/2^k))) (d:=limb d) (by omega) hz1 hz2 rfl
     have hl3:=uv (i:=i) hlo (yF (xe (m/2^k)) i)
     exact⟨i+1,(out.set i (limb d i/2^(k%32))).set i (limb (yz (m/2^k)) i),⟨by omega,by rw [List.set_set];exact hl3,by rw [List.set_set,List.length_set];exact hln,by rw [List.set_set];exact g1,by rw [List.set_set];exact g2⟩,by omega,zL (zb rfl (zb rfl (zb rfl (zb rfl trivial)))) rfl⟩
  ·refine zI ?_;refine zr ?_
   have hql:(yz (m/2^k)).length≤d.length:=zK (by rw [hd];exact Yq (wn hld) (Nat.div_le_self _ _) (Nat.le_refl _))
   have:IsNat out (m/2^k):=⟨hlo,by rw [WP (n:=d.length) (by omega) (by omega) (fun t ht=>hz1 t (by omega)),xq]⟩
   refine Run.ghost _ rfl (yU 0 5 rfl rfl hb (l:=out) (f:=xP) hln rfl yJ (by unfold yP;omega)) ?_;refine zz ?_;refine zo (ze rfl rfl (xV (by unfold cap;omega))) ?_;refine zg ?_
   exact zj zt
theorem zeP {x y:Nat} (hx:x<18446744073709551616) (hy:y<18446744073709551616):zp Tryz.prog G 145 [intS .u64 x,intS .u64 y] (xn [intS .u64 (x*y/18446744073709551616:Nat),intS .u64 (x*y%18446744073709551616:Nat)]):=by
 have e:=zc0 x y
 obtain⟨p,hp⟩:∃ p,p=x%4294967296*(y%4294967296):=⟨_,rfl⟩
 obtain⟨q,hq⟩:∃ p,p=x/4294967296*(y%4294967296):=⟨_,rfl⟩
 obtain⟨r,hr⟩:∃ p,p=x%4294967296*(y/4294967296):=⟨_,rfl⟩
 obtain⟨s,hs⟩:∃ p,p=x/4294967296*(y/4294967296):=⟨_,rfl⟩
 rw [←hp,←hq,←hr,←hs] at e
 have hp2:=Nat.mul_le_mul (show x%4294967296≤4294967295 by omega) (show y%4294967296≤4294967295 by omega)
 have hq2:=Nat.mul_le_mul (show x/4294967296≤4294967295 by omega) (show y%4294967296≤4294967295 by omega)
 have hr2:=Nat.mul_le_mul (show x%4294967296≤4294967295 by omega) (show y/4294967296≤4294967295 by omega)
 have hs2:=Nat.mul_le_mul (show x/4294967296≤4294967295 by omega) (show y/4294967296≤4294967295 by omega)
 rw [←hp] at hp2
 rw [←hq] at hq2
 rw [←hr] at hr2
 rw [←hs] at hs2
 refine zs Tryz.func145 ?_;refine zg ?_;refine zo ((wI rfl (by simp) rfl rfl).sub (zD (n:=((x%4294967296:Nat):Int)) ((Wj (y:=4294967295) (by omega) (by omega)).trans (by rw [Uk])))) ?_;refine zg ?_;refine zo ((wr rfl rfl rfl (by omega) (by simp [IntKind.bits])).sub (zD (Ys _))) ?_;refine zg ?_;refine zo ((wI rfl (by simp) rfl rfl).sub (zD (n:=((y%4294967296:Nat):Int)) ((Wj (y:=4294967295) (by omega) (by omega)).trans (by rw [Uk])))) ?_;refine zg ?_;refine zo ((wr rfl rfl rfl (by omega) (by simp [IntKind.bits])).sub (zD (Ys _))) ?_;refine zg ?_;refine zo (yA (z:=((p:Nat):Int)) rfl rfl rfl (congrArg some (by rw [hp,Int.natCast_mul])) (xf (by omega) (by omega))) ?_;refine zg ?_;refine zo (yA (z:=((q:Nat):Int)) rfl rfl rfl (congrArg some (by rw [hq,Int.natCast_mul])) (xf (by omega) (by omega))) ?_;refine zz ?_;refine zo ((wr rfl rfl rfl (by omega) (by simp [IntKind.bits])).sub (zD (Ys _))) ?_;refine za ((q+p/4294967296:Nat):Int) ?_;refine zg ?_;refine zo ((wI rfl (by simp) rfl rfl).sub (zD (n:=(((q+p/4294967296)%4294967296:Nat):Int)) ((Wj (y:=4294967295) (by omega) (by omega)).trans (by rw [Uk])))) ?_;refine zg ?_;refine zo ((wr rfl rfl rfl (by omega) (by simp [IntKind.bits])).sub (zD (Ys _))) ?_;refine zg ?_;refine zo (yA (z:=((r:Nat):Int)) rfl rfl rfl (congrArg some (by rw [hr,Int.natCast_mul])) (xf (by omega) (by omega))) ?_;refine za (((q+p/4294967296)%4294967296+r:Nat):Int) ?_;refine zg ?_;refine zo (yA (z:=((s:Nat):Int)) rfl rfl rfl (congrArg some (by rw [hs,Int.natCast_mul])) (xf (by omega) (by omega))) ?_;refine zz ?_;refine za ((s+(q+p/4294967296)/4294967296:Nat):Int) ?_;refine zz ?_;refine zo ((wr rfl rfl rfl (by omega) (by simp [IntKind.bits])).sub (zD (Ys _))) ?_;refine za ((x*y/18446744073709551616:Nat):Int) ?_;refine zg ?_;refine zo ((wX rfl rfl rfl rfl).sub (zD (n:=((x*y%18446744073709551616:Nat):Int)) (by rw [wk,←Int.natCast_mul];rfl))) ?_;refine zg ?_
 exact zj zt
end Go.Proofs
/- bits: Len32, LeadingZeros32, TrailingZeros64. -/
namespace Go.Proofs
open Go Go.Sv Num
variable {G:Imm}
theorem zp1 (m:Nat):(m:Int)/2^(16:Int).toNat=((m/65536:Nat):Int):=by simp
theorem zp2 (m:Nat):(m:Int)/2^(8:Int).toNat=((m/256:Nat):Int):=by simp
theorem zp3 (m:Nat):(m:Int)/2^(58:Int).toNat=((m/288230376151711744:Nat):Int):=by simp
theorem Ul {P:Program} {H:HL} {o:Oper} {g:List (Nat×SV)} {t:TypeId} [IsStr P t] {x ix:Operand} {k:IntKind} {i:Nat} (hop:o.op= .index t x ix) (hx:xd g x=some (eqS (.string Lib.len8tab))) (hi:xd g ix=some (intS k i)) (h:i<256):OpOK P G H o g (intS .u8 (Lib.bitLen i:Nat)):=by
 obtain⟨h1,h2⟩:=zkk h
 rw [←h2];exact zcH hop hx hi h1
theorem Wl:∀ (f x:Nat),x<2^f→f≤64→x<2^Lib.bitLen x∧(x≠0→0<Lib.bitLen x∧2^(Lib.bitLen x-1)≤x)∧Lib.bitLen x≤f
  | 0,x,h,_=>by
    have:x=0:=by simpa using h
    subst this
    exact⟨by decide,fun h=>absurd rfl h,by decide⟩
  | f+1,x,h,hf=>by
    by_cases h0:x=0
    · subst h0;exact⟨by decide,fun h=>absurd rfl h,by rw [show Lib.bitLen 0=0 by decide];omega⟩
    · have h64:x<2^64:=Nat.lt_of_lt_of_le h (Nat.pow_le_pow_right (by omega) hf)
      have hh:=Lib.bitLen_half x h0 h64
      obtain⟨i1,i2,i3⟩:=Wl f (x/2) (by rw [Nat.pow_succ] at h;omega) (by omega)
      rw [hh]
      refine⟨by rw [Nat.add_comm,Nat.pow_succ];omega,fun _=>⟨by omega,?_⟩,by omega⟩
      rw [Nat.add_sub_cancel_left]
      by_cases h2:x/2=0
      · rw [h2,show Lib.bitLen 0=0 by decide];simp;omega
      · obtain⟨j1,j2⟩:=i2 h2
        have:2^Lib.bitLen (x/2)=2^(Lib.bitLen (x/2)-1)*2:=by rw [←Nat.pow_succ,Nat.succ_eq_add_one,show Lib.bitLen (x/2)-1+1=Lib.bitLen (x/2) by omega]
        omega
theorem zmN {i:Nat} (h:i<64):zmL[i]? =some (.int .u8 (Lib.deBruijn64tab.getD i 0:Nat)):=by
 have hl:i<Lib.deBruijn64tab.length:=h
 simp [zmL,List.getD_eq_getElem?_getD,hl]
theorem zeQ {x:Nat} (hx:x<4294967296):zp Tryz.prog G 190 [intS .u32 x] (intS .i64 (Lib.bitLen x:Nat)):=by
 refine zs Tryz.func190 ?_;refine zr ?_;refine zz ?_;refine zJ ?_;refine zh ?_;refine zg ?_;refine zd (fun _ k4=>?_) fun _ k4=>?_
 ·refine zg ?_;refine zo ((wr rfl rfl rfl (by omega) (by simp [IntKind.bits])).sub (zD (zp1 _))) ?_;refine zz ?_;refine zJ ?_;refine zO ?_;refine zz ?_;refine zJ ?_;refine zh ?_;refine zg ?_;refine zd (fun _ k8=>?_) fun _ k8=>?_
  ·refine zg ?_;refine zo ((wr rfl rfl rfl (by omega) (by simp [IntKind.bits])).sub (zD (zp2 _))) ?_;refine zg ?_;refine zA ?_;refine zg ?_;refine zo (yQ rfl rfl (VY (by omega) (by omega))) ?_
   have hb:=uS (x:=x/65536/256) (by omega)
   have e1:=Lib.bitLen_shift16 x (by omega) (by omega)
   have e2:=Lib.bitLen_shift8 (x/65536) (by omega) (by omega)
   refine zo (Ul rfl rfl rfl (by omega)) ?_;refine zo (yQ rfl rfl (wrap_i64 (by omega) (by omega))) ?_;refine za ((Lib.bitLen x:Nat):Int) ?_;refine zg ?_
   exact zj zt
  ·refine zg ?_;refine zo (yQ rfl rfl (VY (by omega) (by omega))) ?_
   have hb:=uS (x:=x/65536) (by omega)
   have e1:=Lib.bitLen_shift16 x (by omega) (by omega)
   refine zo (Ul rfl rfl rfl (by omega)) ?_;refine zo (yQ rfl rfl (wrap_i64 (by omega) (by omega))) ?_;refine za ((Lib.bitLen x:Nat):Int) ?_;refine zg ?_
   exact zj zt
 ·refine zE ?_;refine zh ?_;refine zg ?_;refine zd (fun _ k8=>?_) fun _ k8=>?_
  ·refine zg ?_;refine zo ((wr rfl rfl rfl (by omega) (by simp [IntKind.bits])).sub (zD (zp2 _))) ?_;refine zg ?_;refine zA ?_;refine zg ?_;refine zo (yQ rfl rfl (VY (by omega) (by omega))) ?_
   have hb:=uS (x:=x/256) (by omega)
   have e1:=Lib.bitLen_shift8 x (by omega) (by omega)
   refine zo (Ul rfl rfl rfl (by omega)) ?_;refine zo (yQ rfl rfl (wrap_i64 (by omega) (by omega))) ?_;refine za ((Lib.bitLen x:Nat):Int) ?_;refine zg ?_
   exact zj zt
  ·refine zg ?_;refine zo (yQ rfl rfl (VY (by omega) (by omega))) ?_
   have hb:=uS (x:=x) (by omega)
   refine zo (Ul rfl rfl rfl (by omega)) ?_;refine zo (yQ rfl rfl (wrap_i64 (by omega) (by omega))) ?_;refine za ((Lib.bitLen x:Nat):Int) ?_;refine zg ?_
   exact zj zt
theorem zh7 {x:Nat} (hx:x<4294967296):zp Tryz.prog G 135 [intS .u32 x] (intS .i64 (32-Lib.bitLen x:Nat)):=by
 have hb:=(Wl 32 x (by omega) (by omega)).2.2
 refine zs Tryz.func135 ?_;refine zg ?_;refine zf (zeQ hx) ?_;refine za ((32-Lib.bitLen x:Nat):Int) ?_;refine zg ?_
 exact zj zt
theorem Qf [ht:Tab G] {x:Nat} (hx:x<18446744073709551616):zp Tryz.prog G 245 [intS .u64 x] (intS .i64 (Lib.ctz 64 x:Nat)):=by
 refine zs Tryz.func245 ?_;refine zr ?_;refine zz ?_;refine zJ ?_;refine zh ?_;refine zg ?_;refine zd (fun _ k4=>?_) fun _ k4=>?_
 ·refine zg ?_
  exact zj (zu (e:=by rw [show x=0 by omega];rfl))
 ·obtain⟨hlow,hc⟩:=Lib.lowest_bit 64 x (by omega) (by omega)
  rw [show (2:Nat)^64=18446744073709551616 from rfl] at hlow
  obtain⟨hi,htab⟩:=Lib.deBruijn64_at _ hc
  refine zg ?_;refine zo ((zex rfl rfl).sub (zD (n:=((18446744073709551616-x:Nat):Int)) (by rw [wk];omega))) ?_;refine zo ((wI rfl (by simp) rfl rfl).sub (zD (n:=((2^Lib.ctz 64 x:Nat):Int)) (by rw [Wj (by omega) (by omega),hlow]))) ?_;refine zo ((wX rfl rfl rfl rfl).sub (zD (n:=((2^Lib.ctz 64 x*285870213051353865%18446744073709551616:Nat):Int)) (by rw [wk];rfl))) ?_;refine zo ((wr rfl rfl rfl (by omega) (by simp [IntKind.bits])).sub (zD (zp3 _))) ?_;refine zo (Wf rfl rfl rfl hi rfl) ?_;refine zo (zbo rfl rfl ht.h (by rw [Nat.mul_one,zmN hi,htab])) ?_;refine zo (yQ rfl rfl (wrap_i64 (by omega) (by omega))) ?_;refine zg ?_
  exact zj zt
end Go.Proofs
