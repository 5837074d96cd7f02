/- quot: by one limb. -/
import Derived.Test.YthhamejdmpjjlaaGreatDoorSnf
import Derived.Test.YthhamejdmpjjlaaGreatDoorSvw
import Derived.Test.YthhamejdmpjjlaaGreatDoorSmd
namespace Go.Proofs
open Go Go.Sv Num
variable {G:Imm}
theorem EffAt.storeRow {P:Program} {G:Imm} {E:Env} {r:Option Nat} {gd:Nat→Option Nat} {o:Oper} {ops:List Oper} {K:St→Prop} {Hc:HL} (j:Nat) {n0:Nat} {g:List (Nat×SV)} {h:HL} {d:List Nat} {i0:Nat×Bool} {t:TypeId} [HasSize P t 1] {x y:Operand} {b i e c n:Nat} {l:List Nat} {z:Nat} (hop:o.op= .store t x y) (hx:xd g x=some (eqS (.pointer (some ⟨b,i,none⟩)))) (hy:xd g y=some (intS .u32 z))
  (hH:h[j]? =some (rowE (some (b,c)) e 1 n (l.flatMap xP))) (hi:i<l.length) (hd:o.dst=none) (hg:zH gd g o true) (hc:Hc.Sublist (wh h j [rowE (some (b,c)) e 1 n ((l.set i z).flatMap xP)]))
  (hr:Run P G E r gd false ops ⟨n0,g,wh h j [rowE (some (b,c)) e 1 n ((l.set i z).flatMap xP)],d,i0⟩ K):EffAt P G E r gd o ops Hc ⟨n0,g,h,d,i0⟩ K:=by
 have hlen:i+1≤(l.flatMap xP).length:=by rw [yH];omega
 have hble:Nat.ble (i+[intS .u32 (z:Nat)].length) (l.flatMap xP).length=true:=by rw [Nat.ble_eq];exact hlen
 have e:(⟨some b,e,xM (l.flatMap xP) i [intS .u32 (z:Nat)],c*1-n*1⟩:HE)=rowE (some (b,c)) e 1 n ((l.set i z).flatMap xP):=by
  show (⟨some b,e,(l.flatMap xP).set i (intS .u32 z),c*1-n*1⟩:HE)=_
  rw [Uh];rfl
 exact EffAt.store (ds:=[intS .u32 (z:Nat)]) j hop hx hy hH rfl hble hd hg (by rw [e];exact hc) (by rw [e];exact hr)
def Ku (l:List Nat):List (List SV):=(List.range l.length).map fun i=>[intS .i64 (l.length-1-i:Nat),intS .u32 (limb l (l.length-1-i):Nat)]
theorem ZD {l:List Nat}:(Ku l).length=l.length:=by simp [Ku]
theorem zar {l:List Nat} {i:Nat} (h:i<l.length):(Ku l)[i]? =some [intS .i64 (l.length-1-i:Nat),intS .u32 (limb l (l.length-1-i):Nat)]:=by
 simp only [Ku,List.getElem?_map,List.getElem?_range h,Option.map_some]
theorem zib {l:List Nat} {i:Nat} {ss:List SV} (h:(Ku l)[i]? =some ss):i<l.length∧ss=[intS .i64 (l.length-1-i:Nat),intS .u32 (limb l (l.length-1-i):Nat)]:=by
 have h1:i<l.length:=by have:=yt h;rwa [ZD] at this
 refine⟨h1,?_⟩
 rw [zar h1] at h;exact (Option.some.inj h).symm
theorem zkp {l:List Nat} {ss:List SV} (h:ss∈Ku l):ss.length=2:=by
 obtain⟨i,_,rfl⟩:=List.mem_map.1 h;rfl
theorem zeU {x v n:Nat} (hn:0<n):(x+4294967296*v)/n=4294967296*(v/n)+(4294967296*(v%n)+x)/n∧(x+4294967296*v)%n=(4294967296*(v%n)+x)%n:=by
 have e:x+4294967296*v=4294967296*(v%n)+x+n*(4294967296*(v/n)):=by
  have:=Nat.mod_add_div v n
  rw [Nat.mul_left_comm];omega
 rw [e,Nat.add_mul_div_left _ _ hn,Nat.add_mul_mod_self_left]
 exact⟨Nat.add_comm _ _,rfl⟩
theorem zeV {a:List Nat}:IterSpec Tryz.prog G 242 [zT [zy a]] (Ku a):=by
 refine xH Tryz.func242 rfl rfl rfl rfl fun l E hy=>?_;refine zg ?_;refine zo ((wX rfl rfl rfl rfl)) ?_;refine zz ?_;refine zJ ?_;refine zQ ?_;refine wT 4 rfl fun la=>?_
 unfold yP at la
 refine yK (γ:=Nat) (fun g=>⟨_,[(3,intS .i64 ((g:Int)-1)),(0,yieldS l),(1,zT [zy a])],[],[],(a.length-g,false)⟩) (fun g=>g≤a.length) (fun g=>g) a.length (Nat.le_refl _) ⟨rfl,xk rfl (congrArg (intS .i64) (wrap_i64 (by omega) (by omega))) (zb rfl (zb rfl trivial)),xp _,rfl,by simp⟩ ?_
 intro g hg
 refine zh ?_;refine zg ?_;refine zd (fun _ k8=>?_) fun _ k8=>?_
 ·refine zE ?_;refine zh ?_;refine zQ ?_;refine zr ?_;refine zz ?_;refine zo ((zG rfl rfl).sub (zD (show (g:Int)-1=((g-1:Nat):Int) by omega))) ?_;refine zz ?_;refine zo ((zG rfl rfl).sub (zD (show (g:Int)-1=((g-1:Nat):Int) by omega))) ?_;refine zo (zi rfl rfl rfl (by omega) (y:=limb a (g-1)) (yV (by omega))) ?_;refine zz ?_;refine Run.yield rfl hy rfl rfl rfl (by rw [zar (by omega),show a.length-1-(a.length-g)=g-1 by omega]) (xi _) rfl rfl rfl fun y=>?_;refine zg ?_;refine wE (fun h18=>?_) fun h18=>?_
  ·refine zj ?_
   exact⟨.inl rfl,.inr h18⟩
  ·refine zg ?_;refine zA ?_;refine zg ?_
   exact⟨g-1,(by omega:g-1≤a.length),by omega,rfl,xk rfl (congrArg (intS .i64) (by omega)) (zb rfl (zb rfl trivial)),xp _,rfl,by simp only;rw [h18,show a.length-(g-1)=a.length-g+1 by omega]⟩
 ·refine zI ?_
  exact⟨.inr rfl,.inl (by rw [ZD,show g=0 by omega];rfl)⟩
theorem zic {a:List Nat}:zp Tryz.prog G 189 [zy a] (wp 242 [zT [zy a]]):=by
 refine zs Tryz.func189 ?_;refine zg ?_
 exact zj zt
theorem zeW {a:List Nat} {m n:Nat} [hm:IsNat a m] (hn:n<4294967296) (hs:a.length≤cap):zp Tryz.prog G 133 [zy a,intS .u32 n] (xn [zy (yz (m/n)),intS .u32 (if n=0 then 0 else m%n:Nat),intS .i64 (if n=0 then 30 else 0)]):=by
 unfold cap at hs
 refine zs Tryz.func133 ?_;refine zg ?_;refine xg fun b4=>?_;(iterate 2 refine zz ?_);refine zJ ?_;refine zh ?_;refine zg ?_;refine zd (fun _ k11=>?_) fun _ k11=>?_
 ·refine zr ?_;refine zw ?_;refine Run.ghost _ rfl (Xn (wF (l:=yz (m/n)) (vC.2 (by rw [show n=0 by omega];exact Nat.div_zero m)))) ?_;refine zg ?_
  exact zj (zu (e:=by rw [if_pos (by omega),if_pos (by omega)];rfl))
 ·have hn0:n≠0:=by omega
  refine zE ?_;refine zr ?_;(iterate 2 refine zz ?_);refine Run.makeNat (n:=a.length) (c:=a.length) rfl rfl rfl rfl rfl rfl rfl (Nat.le_refl _) (by omega) (by unfold cap;omega) fun b14 hb14=>?_;refine zg ?_;refine xg fun b7=>?_;refine zw ?_;refine zJ ?_;refine zh ?_;refine zg ?_;refine zf zic ?_;refine zg ?_
  refine ul rfl rfl zeV (fun ss h=>zkp h) (by decide) rfl
    (fun k h i=>i=(0,false)∧k≤a.length∧∃ out,xU out∧out.length=a.length∧(∀j,j<a.length-k→limb out j=0)∧val out=4294967296^(a.length-k)*(val (a.drop (a.length-k))/n)∧h=[⟨some b7,100,[intS .u64 (val (a.drop (a.length-k))%n:Nat)],0⟩,rowE (some (b14,a.length)) 64 1 a.length (out.flatMap xP),⟨some b4,35,[eqS (rowV (some (b14,a.length)) a.length)],0⟩])
    (fun _ _ _=>False) ⟨rfl,Nat.zero_le _,List.replicate a.length 0,wj _,List.length_replicate,fun j _=>ZZ _ j,by rw [xz,Nat.sub_zero,List.drop_length];simp [val],by rw [Nat.sub_zero,List.drop_length];simp only [val,Nat.zero_mod];rfl⟩ ?_ ?_ ?_
  ·rintro l k ss h i hk ⟨rfl,_,out,hlo,hln,hz,hval,rfl⟩
   obtain⟨hk1,rfl⟩:=zib hk
   obtain⟨p,hp⟩:∃ p,p=a.length-1-k:=⟨_,rfl⟩
   rw [show a.length-k=p+1 by omega] at hval hz ⊢
   rw [←hp]
   have hx:=yF hm.lim p
   have hdv:=Uf a p
   obtain⟨v,hv⟩:∃ v,v=val (a.drop (p+1)):=⟨_,rfl⟩
   rw [←hv] at hdv hval ⊢
   have ho:=Nat.mod_lt v (show 0<n by omega)
   obtain⟨hq1,hq2⟩:=zeU (x:=limb a p) (v:=v) (n:=n) (by omega)
   rw [←hdv] at hq1 hq2
   obtain⟨w,hw⟩:∃ w,w=4294967296*(v%n)+limb a p:=⟨_,rfl⟩
   rw [←hw] at hq1 hq2
   have hwq:w/n<4294967296:=by
    rw [Nat.div_lt_iff_lt_mul (by omega)]
    have:=Nat.mul_le_mul_left 4294967296 (show v%n+1≤n by omega)
    omega
   refine zr ?_;refine zz ?_;refine zJ ?_;refine zO ?_;refine zz ?_;refine zJ ?_
   refine⟨rfl,?_⟩
   refine zg ?_;refine zo ((Zs rfl rfl rfl (by omega) (by simp [IntKind.bits])).sub (zD (n:=((4294967296*(v%n):Nat):Int)) ((xf (by simp;omega) (by simp;omega)).trans (by simp;omega)))) ?_;refine zz ?_;refine zA ?_;refine zo ((wI rfl (by simp) rfl rfl).sub (zD (n:=((w:Nat):Int)) (by rw [Yr (by omega) (by omega),Jv hx,hw]))) ?_;refine zg ?_;refine zbp 12 _ (by kernel_rfl) rfl (.cons_cons _ (.cons _ (.cons_cons _ .slnil))) ?_;refine RunE.one (yn 2 rfl rfl rfl rfl) rfl rfl rfl (by kernel_rfl) ?_;refine RunE.one (zG rfl rfl) rfl rfl rfl (by kernel_rfl) ?_;refine RunE.one (yn 0 rfl rfl rfl rfl) rfl rfl rfl (by kernel_rfl) ?_;refine RunE.one (yN rfl rfl) rfl rfl rfl (by kernel_rfl) ?_;refine RunE.one (yQ rfl rfl (xf (by omega) (by omega))) rfl rfl rfl (by kernel_rfl) ?_;refine RunE.one ((wU rfl rfl rfl (by omega) (by omega) (by have:=Nat.div_le_self w n;rw [←Int.natCast_ediv];exact xf (Int.natCast_nonneg _) (by omega))).sub (zD (n:=((w/n:Nat):Int)) (Int.natCast_ediv _ _).symm)) rfl rfl rfl (by kernel_rfl) ?_;refine RunE.one (yQ rfl rfl (vH (Int.natCast_nonneg _) (by omega))) rfl rfl rfl (by kernel_rfl) ?_;refine RunE.lat (yn 0 rfl rfl rfl rfl) rfl rfl rfl ?_;refine RunE.lat (yN rfl rfl) rfl rfl rfl ?_;refine RunE.lat (yQ rfl rfl (xf (by omega) (by omega))) rfl rfl rfl ?_;refine RunE.lat ((wV rfl rfl rfl (by omega) (by omega)).sub (zD (n:=((w%n:Nat):Int)) (Int.natCast_emod _ _).symm)) rfl rfl rfl ?_;refine RunE.one (xm (i:=p) rfl rfl rfl (by omega)) rfl rfl rfl (by kernel_rfl) ?_;refine RunE.nil ?_;refine EffAt.storeRow 1 rfl rfl rfl rfl (by omega) rfl rfl (.cons_cons _ (.cons _ (.cons_cons _ .slnil))) ?_;refine zw ?_;refine zJ ?_
   refine⟨rfl,by omega,out.set p (w/n),uv hlo hwq,by rw [List.length_set];exact hln,fun j hj=>by rw [wq (by omega)];exact hz j (by omega),?_,by rw [show a.length-(k+1)=p by omega,hq2];rfl⟩
   have hs2:=Xr (l:=out) (j:=p) (w/n) (by omega)
   rw [hz p (by omega),Nat.mul_zero] at hs2
   rw [show a.length-(k+1)=p by omega,hq1,Nat.mul_add,←Nat.mul_assoc,←yZ,←hval];omega
  ·rintro h i D ⟨rfl,_,out,hlo,hln,hz,hval,rfl⟩
   rw [ZD,Nat.sub_self,Nat.pow_zero,Nat.one_mul,List.drop_zero,hm.val] at hval
   rw [ZD,Nat.sub_self,List.drop_zero,hm.val]
   have:IsNat out (m/n):=⟨hlo,hval⟩
   refine zP (uZ [_] [] [] hb14 hln rfl yJ (by unfold yP;omega)) ?_;refine Uc 4 _ (by kernel_rfl) rfl (.cons_cons _ (.cons _ .slnil)) ?_;refine RunE.one ((yn 1 rfl rfl rfl rfl)) rfl rfl rfl (by kernel_rfl) ?_;refine RunE.one (ze rfl rfl (xV (by unfold cap;omega))) rfl rfl rfl (by kernel_rfl) ?_;refine RunE.lat (yn 0 rfl rfl rfl rfl) rfl rfl rfl ?_;refine RunE.lat (yQ rfl rfl (vH (Int.natCast_nonneg _) (by have:=Nat.mod_lt m (show 0<n by omega);omega))) rfl rfl rfl ?_;refine RunE.nil ?_;refine EffAt.store 1 rfl rfl rfl rfl rfl rfl rfl rfl (.cons_cons _ (.cons _ .slnil)) ?_;refine zg ?_
   exact zj (zu (e:=by rw [if_neg hn0,if_neg hn0]))
  ·intro h i D e c hc hInv;exact hInv.elim
end Go.Proofs
/- Trim and Up of prod once more: the row of the result is the caller's own. -/
namespace Go.Proofs
open Go Go.Sv Num
variable {G:Imm}
theorem zkq {l:List Nat} {n:Nat} [hn:IsNat l n] (hk:l.length≤cap) (h0n:n≠0):CallSpec Tryz.prog G 91 [zy l] [] (fun s H'=>∃ b c,yu (some (b,c)) (yz (n)).length∧s=eqS (rowV (some (b,c)) (yz (n)).length)∧H'=[rowE (some (b,c)) 64 1 (yz (n)).length ((yz (n)).flatMap xP)]):=by
 have hk':=hk
 unfold cap at hk'
 refine zs Tryz.func91 ?_;refine zr ?_;refine zz ?_;refine zx ?_;(iterate 3 refine zz ?_);refine zJ ?_;refine zh ?_;refine zQ ?_
 have hdn:yz n≠[]:=fun h=>h0n (vC.1 h)
 refine yK (γ:=Nat) (fun g=>⟨_,[(3,intS .i64 g),(0,zy l)],[],[],(0,false)⟩) (fun g=>g≤l.length∧∀ i,g≤i→limb l i=0) (fun g=>g) l.length ⟨Nat.le_refl _,fun i h=>xY h⟩ (yo zk) ?_
 rintro g ⟨hg,hz⟩
 have fin:(g=0∨limb l (g-1)≠0)→l.take g=yz n:=fun h=>by rw [←hn.val];exact Qc hn.lim hg hz h
 refine zh ?_;refine zr ?_;refine zz ?_
 refine Run.oneB (zZ rfl rfl rfl rfl) rfl rfl rfl (fun hb1=>?_) (fun hb1=>?_)
 ·have h0:=of_decide_eq_true hb1
  refine zg ?_;refine za ((g-1:Nat):Int) ?_;refine zo (zi rfl rfl rfl (by omega) (y:=limb l (g-1)) (yV (by omega))) ?_;refine zg ?_;refine wE (fun hc2=>?_) fun hc2=>?_
  ·have h1:limb l (g-1)=0:=by simpa using hc2
   refine zg ?_;refine za ((g-1:Nat):Int) ?_;refine zg ?_
   exact⟨g-1,⟨by omega,fun i hi=>by by_cases h:g≤i;exact hz i h;rw [show i=g-1 by omega];exact h1⟩,by omega,yo (zb rfl (zb rfl trivial))⟩
  ·have h1:limb l (g-1)≠0:=by simpa using hc2
   refine zI ?_;refine zg ?_;refine zo (xX (lo:=0) (hi:=g) (m:=g) rfl rfl (.inl ⟨rfl,rfl⟩) (.inr ⟨_,_,rfl,rfl⟩) (.inr ⟨_,_,rfl,rfl,Nat.le_refl _,hg⟩) (by omega) hg) ?_;refine Run.call0 rfl rfl rfl (Qe (l:=l.take g) (by simp;omega) (by rw [fin (.inr h1)];exact hdn)) rfl rfl rfl ?_
   rintro s H1 ⟨b,c,hb,rfl,rfl⟩
   refine zg ?_;refine zj ?_
   exact⟨_,_,.one (.tmp rfl),List.Sublist.refl _,b,c,by rw [←fin (.inr h1)];exact hb,by rw [←fin (.inr h1)],by rw [←fin (.inr h1)];rfl⟩
 ·have h0:=of_decide_eq_false hb1
  refine zg ?_;refine yM rfl rfl ?_;refine zI ?_;refine zg ?_;refine zo (xX (lo:=0) (hi:=g) (m:=g) rfl rfl (.inl ⟨rfl,rfl⟩) (.inr ⟨_,_,rfl,rfl⟩) (.inr ⟨_,_,rfl,rfl,Nat.le_refl _,hg⟩) (by omega) hg) ?_
  refine Run.call0 rfl rfl rfl (Qe (l:=l.take g) (by simp;omega) (by rw [fin (.inl (by omega))];exact hdn)) rfl rfl rfl ?_
  rintro s H1 ⟨b,c,hb,rfl,rfl⟩
  refine zg ?_;refine zj ?_
  exact⟨_,_,.one (.tmp rfl),List.Sublist.refl _,b,c,by rw [←fin (.inl (by omega))];exact hb,by rw [←fin (.inl (by omega))],by rw [←fin (.inl (by omega))];rfl⟩
theorem zoP {a:List Nat} {m k:Nat} [hm:IsNat a m] (hk:k≤65536) (hs:a.length+10000≤cap) (h0n:m*2^k≠0):CallSpec Tryz.prog G 136 [zy a,intS .i64 k] [] (fun s H'=>∃ b c,yu (some (b,c)) (yz (m*2^k)).length∧s=eqS (rowV (some (b,c)) (yz (m*2^k)).length)∧H'=[rowE (some (b,c)) 64 1 (yz (m*2^k)).length ((yz (m*2^k)).flatMap xP)]):=by
 unfold cap at hs
 have hsl:k%32<32:=Nat.mod_lt _ (by omega)
 refine zs Tryz.func136 ?_;refine zg ?_;refine zo ((ze rfl rfl VI).sub (zD (n:=((k:Nat):Int)) (by omega))) ?_;refine zg ?_;refine zo ((wU rfl rfl rfl (by omega) (by omega) (wrap_i64 (by omega) (by omega))).sub (zD (n:=((k/32:Nat):Int)) (by omega))) ?_;refine zz ?_;refine zo ((wU rfl rfl rfl (by omega) (by omega) (wrap_i64 (by omega) (by omega))).sub (zD (n:=((k/32:Nat):Int)) (by omega))) ?_;refine zg ?_;refine zA ?_;refine za ((k/32+a.length+1:Nat):Int) ?_;refine Run.makeNat (n:=k/32) (c:=k/32+a.length+1) rfl rfl rfl rfl rfl rfl rfl (by omega) (by omega) (by unfold cap;omega) fun b13 hb13=>?_;refine zz ?_;refine zx ?_;refine zz ?_;refine zJ ?_;refine zh ?_;refine zg ?_
 refine ZA (fun i q c out=>⟨_,[(24,intS .i64 (i:Nat)),(23,intS .i64 a.length),(22,zy a),(6,intS .u32 (c:Nat)),(5,eqS (rowV q (k/32+i))),(1,intS .i64 (k:Nat))],[rowE q 64 1 (k/32+i) (out.flatMap xP)],[],(0,false)⟩)
   (fun i q c out=>i≤a.length∧yu q (k/32+i)∧c<2^(k%32)∧xU out∧out.length=k/32+i∧val out+4294967296^(k/32+i)*c=4294967296^(k/32)*(2^(k%32)*low a i)) (fun i q c out=>a.length-i)
   0 (some (b13,k/32+a.length+1)) 0 (List.replicate (k/32) 0) ⟨Nat.zero_le _,hb13,Nat.pow_pos (by omega),wj _,List.length_replicate,by rw [xz,vS,Nat.mul_zero,Nat.mul_zero,Nat.mul_zero]⟩ (zL (zb rfl (zb rfl (zb rfl (zb rfl (zb rfl (zb rfl trivial)))))) rfl) ?_
 rintro i q c out ⟨hi,hq,hc,hlo,hln,hval⟩
 have hp2:=zcY hsl
 refine zr ?_;refine zz ?_;refine zJ ?_;refine zh ?_;refine zd (fun _ k25=>?_) fun _ k25=>?_
 ·have hx:=yF hm.lim i
  obtain⟨hu1,hu2⟩:=zkj hx hsl hc
  obtain⟨hu3,hu4⟩:=Jw (x:=limb a i) (by omega) hc
  refine zE ?_;refine zh ?_;refine zg ?_;refine zo (zi rfl rfl rfl (by omega) (y:=limb a i) (yV (by omega))) ?_;refine zg ?_;refine zo ((wV rfl rfl rfl (by omega) (by omega)).sub (zD (n:=((k%32:Nat):Int)) (by omega))) ?_;refine zo ((Zs rfl rfl rfl (by omega) (by simp [IntKind.bits];omega)).sub (zD (n:=((2^(k%32):Nat):Int)) (by have:=zh3 1 (k%32);rw [Nat.one_mul] at this;refine (congrArg _ this).trans ?_;exact vH (by omega) (by omega)))) ?_;refine zo (ze rfl rfl (Kq hx (by omega))) ?_;refine zg ?_;refine zo ((wI rfl (by simp) rfl rfl).sub (zD (n:=(((limb a i*2^(k%32)+c)%4294967296:Nat):Int)) (by rw [YN (by omega) (by omega),hu3]))) ?_;refine zo (xl [(limb a i*2^(k%32)+c)%4294967296] rfl rfl (by decide) rfl (by simp) rfl rfl rfl) ?_;refine Run.append 0 rfl rfl rfl rfl rfl rfl rfl rfl hq (by rw [yH,hln]) yJ (by unfold yP;simp;omega) (by unfold yP;simp;omega) fun q35 hq35=>?_;refine zo ((zG rfl rfl).sub (zD (n:=(((limb a i*2^(k%32)+c)/4294967296:Nat):Int)) (by rw [hu4]))) ?_;refine zg ?_;refine zA ?_;refine zz ?_;refine zJ ?_
  refine⟨i+1,q35,(limb a i*2^(k%32)+c)/4294967296,out++[(limb a i*2^(k%32)+c)%4294967296],⟨by omega,hq35,hu2,wZ hlo (by omega),by simp [hln];omega,?_⟩,by omega,zL (zb rfl (zb rfl (zb rfl (zb rfl (zb rfl (zb rfl trivial)))))) (by rw [List.flatMap_append];rfl)⟩
  rw [vK,hln,xr,show k/32+(i+1)=k/32+i+1 by omega,yZ];exact zeO (Nat.pow_add _ _ _) hval
 ·have hia:i=a.length:=by omega
  rw [hia,wJ (Nat.le_refl _),hm.val] at hval
  refine zI ?_;refine zg ?_;refine zo (xl [c] rfl rfl (by decide) rfl (by simp) rfl rfl rfl) ?_;refine Run.append 0 rfl rfl rfl rfl rfl rfl rfl rfl hq (by rw [yH,hln]) yJ (by unfold yP;simp;omega) (by unfold yP;simp;omega) fun q42 hq42=>?_;refine Run.ghost _ rfl (yU 0 47 rfl rfl hq42 (l:=out++[c]) (f:=xP) (by simp [hln]) List.flatMap_append.symm yJ (by unfold yP;simp;omega)) ?_
  have:IsNat (out++[c]) (m*2^k):=⟨wZ hlo (by omega),by rw [vK,hln,hia,hval,vg k,Nat.mul_comm m,Nat.mul_assoc]⟩
  refine Run.call0 rfl rfl rfl (zkq (by unfold cap;simp;omega) h0n) rfl rfl rfl ?_
  rintro s H1 ⟨b,c,hb,rfl,rfl⟩
  refine zg ?_;refine zj ?_
  exact⟨_,[_],.one (.tmp rfl),.refl _,b,c,hb,rfl,rfl⟩
end Go.Proofs
/- quot: the steps of the long division: guess, less, more. -/
namespace Go.Proofs
open Go Go.Sv Num
variable {G:Imm}
abbrev Zl (bL bR cR N:Nat) (R b:List Nat):HL:=[⟨some bL,202,[eqS (rowV (some (bR,cR)) N),zy b],0⟩,rowE (some (bR,cR)) 64 1 N (R.flatMap xP)]
theorem zkr {x y u:Nat} (hx:x<4294967296) (hy:y<4294967296) (hu:u≤1):sb x y u%4294967296+y+u=x+4294967296*(sb x y u/9223372036854775808)∧sb x y u/9223372036854775808≤1:=by unfold sb;split <;> omega
theorem Kv {l:List Nat} {a i z:Nat}:low ((l.set (a+i) z).drop a) i=low (l.drop a) i:=Qg fun j hj=>by rw [vq,vq,wq (by omega)]
theorem zeX {R b:List Nat} {bL bR cR at' n:Nat} {N:Nat} (hlN:R.length=N) (hR:xU R) (hb:xU b) (hn:b.length=n+1) (hat:at'+(n+1)<N) (hb0:limb b n≠0) (hs:N≤cap):CallSpec Tryz.prog G 193 [eqS (.pointer (some ⟨bL,0,none⟩)),intS .i64 (at':Nat)] (Zl bL bR cR N R b) (fun s H'=>s=intS .u64 (min ((limb R (at'+(n+1))*4294967296+limb R (at'+n))/limb b n) 4294967295:Nat)∧H'=Zl bL bR cR N R b):=by
 subst hlN
 unfold cap at hs
 have h1:=yF hR (at'+(n+1))
 have h2:=yF hR (at'+n)
 have h3:=yF hb n
 obtain⟨w,hw⟩:∃ w,w=limb R (at'+(n+1))*4294967296+limb R (at'+n):=⟨_,rfl⟩
 refine zs Tryz.func193 ?_;refine zr ?_;refine zz ?_;refine zx ?_;(iterate 4 refine zz ?_);refine zo ((xh rfl rfl).sub (zD (show ((b.length:Nat):Int)=((n+1:Nat):Int) by omega))) ?_;refine zg ?_;refine zS 24 (by kernel_rfl) ?_;refine zg ?_;refine za ((at'+(n+1):Nat):Int) ?_;refine zo (xm (i:=at'+(n+1)) rfl rfl rfl (by omega)) ?_;refine zo (vf 1 rfl rfl rfl (by omega)) ?_;refine zA ?_;refine zo ((Zs rfl rfl rfl (by omega) (by simp [IntKind.bits])).sub (zD (n:=((4294967296*limb R (at'+(n+1)):Nat):Int)) ((xf (by simp;omega) (by simp;omega)).trans (by simp;omega)))) ?_;refine zg ?_;refine za ((at'+(n+1):Nat):Int) ?_;refine za ((at'+n:Nat):Int) ?_;refine zo (xm (i:=at'+n) rfl rfl rfl (by omega)) ?_;refine zo (vf 1 rfl rfl rfl (by omega)) ?_;refine zA ?_;refine zo ((wI rfl (by simp) rfl rfl).sub (zD (n:=((w:Nat):Int)) (by rw [Yr (by omega) (by omega),Jv h2,hw,Nat.mul_comm]))) ?_;refine zg ?_;refine za ((n:Nat):Int) ?_;refine zo (zi rfl rfl rfl (by omega) (y:=limb b n) (yV (by omega))) ?_;refine zz ?_;refine zA ?_;refine zo ((wU rfl rfl rfl (by omega) (by omega) (by have:=Nat.div_le_self w (limb b n);rw [←Int.natCast_ediv];exact xf (Int.natCast_nonneg _) (by omega))).sub (zD (n:=((w/limb b n:Nat):Int)) (Int.natCast_ediv _ _).symm)) ?_;refine zo ((UY rfl rfl rfl).sub (zD (n:=((min (w/limb b n) 4294967295:Nat):Int)) (by omega))) ?_;refine zg ?_;refine zj ?_
 exact⟨_,_,.one (.tmp rfl),List.Sublist.refl _,by rw [←hw],rfl⟩
theorem zeY {R b:List Nat} {bL bR cR at' n t:Nat} {N:Nat} (hlN:R.length=N) (hR:xU R) (hb:xU b) (hN:yu (some (bR,cR)) N) (hn:b.length=n) (hat:at'+n<N) (ht:t<4294967296) (hs:N≤cap):CallSpec Tryz.prog G 194 [eqS (.pointer (some ⟨bL,0,none⟩)),intS .i64 (at':Nat),intS .u64 (t:Nat)] (Zl bL bR cR N R b) (fun s H'=>∃ out u,u≤1∧s=zm (decide (u=0))∧xU out∧out.length=N∧(∀j,j<at'∨at'+(n+1)≤j→limb out j=limb R j)∧low (out.drop at') (n+1)+t*val b=low (R.drop at') (n+1)+Ya (n+1)*u∧H'=Zl bL bR cR N out b):=by
 subst hlN
 unfold cap at hs
 refine zs Tryz.func194 ?_;refine zg ?_;refine zS 16 (by kernel_rfl) ?_;(iterate 10 refine zz ?_);refine zo ((xh rfl rfl).sub (zD (show ((b.length:Nat):Int)=((n:Nat):Int) by omega))) ?_;refine za ((at'+n:Nat):Int) ?_;refine za ((at'+n+1:Nat):Int) ?_;refine zo ((zcM (lo:=at') (hi:=at'+n+1) rfl rfl hN rfl rfl rfl rfl (by omega) (by omega)).sub (show ∀I v,_→(eqS (.slice (some ⟨bR,at',none⟩) (n+1) (cR-at'))).den I v from fun I v h=>by rw [show n+1=at'+n+1-at' by omega];exact h)) ?_;(iterate 2 refine zz ?_);refine zJ ?_;refine zx ?_;refine zz ?_;refine zJ ?_;refine zh ?_;refine zg ?_;refine zo (WL rfl rfl) ?_;refine zg ?_
 refine ZA (fun i over under out=>⟨_,[(32,intS .i64 (i:Nat)),(31,intS .i64 (n+1:Nat)),(9,intS .u64 (under:Nat)),(8,intS .u64 (over:Nat)),(7,eqS (.slice (some ⟨bR,at',none⟩) (n+1) (cR-at'))),(2,intS .u64 (t:Nat)),(0,eqS (.pointer (some ⟨bL,0,none⟩)))],Zl bL bR cR R.length out b,[],(0,false)⟩)
   (fun i over under out=>i≤n+1∧over<4294967296∧under≤1∧(i=n+1→over=0)∧xU out∧out.length=R.length∧(∀j,j<at'∨at'+i≤j→limb out j=limb R j)∧low (out.drop at') i+t*low b i=low (R.drop at') i+4294967296^i*(over+under)) (fun i over under out=>n+1-i)
   0 0 0 R ⟨by omega,by omega,by omega,fun _=>rfl,hR,rfl,fun _ _=>rfl,by simp [vS]⟩ (zL (zb rfl (zb rfl (zb rfl (zb rfl (zb rfl (zb rfl (zb rfl (trivial)))))))) rfl) ?_
 rintro i over under out ⟨hi,hov,hun,h0,hlo,hln,hk,hval⟩
 refine zr ?_;refine zz ?_;refine zJ ?_;refine zh ?_;refine zd (fun _ k33=>?_) fun _ k33=>?_
 ·have hp:=yF hR (at'+i)
  have hx0:=yF hb i
  obtain⟨x,hx⟩:∃ x,x=limb b i:=⟨_,rfl⟩
  rw [←hx] at hx0
  have hw0:=Kj hx0 ht hov (show 0<4294967296 by omega)
  obtain⟨w,hw⟩:∃ w,w=x*t+over:=⟨_,rfl⟩
  obtain⟨y,hy⟩:∃ y,y=limb R (at'+i):=⟨_,rfl⟩
  rw [←hy] at hp
  refine zE ?_;refine zh ?_;refine zQ ?_;refine zr ?_;(iterate 2 refine zz ?_);refine zx ?_;refine zz ?_;refine zJ ?_;refine xS (K:=fun S1=>Ent S1 (⟨89,[(11,intS .u64 (x:Nat)),(10,intS .i64 (i:Nat)),(32,intS .i64 (i:Nat)),(31,intS .i64 (n+1:Nat)),(9,intS .u64 (under:Nat)),(8,intS .u64 (over:Nat)),(7,eqS (.slice (some ⟨bR,at',none⟩) (n+1) (cR-at'))),(2,intS .u64 (t:Nat)),(0,eqS (.pointer (some ⟨bL,0,none⟩)))],Zl bL bR cR R.length out b,[],(0,false)⟩)) ?_ ?_
  ·refine zr ?_;(iterate 5 refine zz ?_);refine zo ((xh rfl rfl).sub (zD (show ((b.length:Nat):Int)=((n:Nat):Int) by omega))) ?_;refine zg ?_;refine zd (fun _ k41=>?_) fun _ k41=>?_
   ·refine zg ?_;refine zo (zi rfl rfl rfl (by omega) (y:=limb b i) (yV (by omega))) ?_;refine zz ?_
    have hb1:=yF hb i
    refine zA ?_;refine zg ?_
    exact yo (xk rfl (congrArg (intS .u64) (by rw [hx])) (zb rfl (zb rfl (zb rfl (zb rfl (zb rfl (zb rfl (zb rfl (zb rfl (trivial))))))))))
   ·refine zE ?_
    exact yo (xk rfl (congrArg (intS .u64) (by rw [hx,xY (by omega)];rfl)) (zb rfl (zb rfl (zb rfl (zb rfl (zb rfl (zb rfl (zb rfl (zb rfl (trivial))))))))))
  ·intro S1 hS1
   refine wG hS1 ?_;refine zg ?_;refine zo (ze rfl rfl (zeP (by omega) (by omega))) ?_;refine zz ?_;refine zo ((xo rfl rfl rfl).sub (zD (n:=0) (by rw [Nat.div_eq_of_lt (by omega)];rfl))) ?_;refine zo ((xo rfl rfl rfl).sub (zD (n:=((x*t:Nat):Int)) (by rw [Nat.mod_eq_of_lt (by omega)]))) ?_;refine zg ?_;refine zo (zkd (c:=0) Tryz.func243 rfl rfl rfl rfl rfl rfl rfl rfl (by omega)) ?_;refine zz ?_;refine zo ((xo rfl rfl rfl).sub (zD (n:=((w:Nat):Int)) (by rw [Nat.mod_eq_of_lt (by omega),hw,Nat.add_zero]))) ?_;refine zo ((xo rfl rfl rfl).sub (zD (n:=0) (by rw [Nat.div_eq_of_lt (by omega)];rfl))) ?_;refine zg ?_;refine zo (yA (z:=0) rfl rfl rfl (congrArg some (by omega)) (xf (by omega) (by omega))) ?_;refine zo ((Zs rfl rfl rfl (by omega) (by simp [IntKind.bits])).sub (zD (n:=0) (by decide))) ?_;refine zz ?_;refine zo ((wr rfl rfl rfl (by omega) (by simp [IntKind.bits])).sub (zD (Ys w))) ?_;refine zo ((wI rfl (by simp) rfl rfl).sub (zD (n:=((w/4294967296:Nat):Int)) ((Yr (x:=0) (by omega) (by omega)).trans (by rw [Nat.zero_or])))) ?_;refine zg ?_;refine zo (vI (q:=at'+i) rfl rfl rfl (by omega) (by omega) (by simp)) ?_
   refine zo ((vf 1 rfl rfl rfl (by omega)).sub (zD (n:=((y:Nat):Int)) (by rw [hy,hk _ (.inr (Nat.le_refl _))]))) ?_
   refine zA ?_;refine zz ?_;refine zo ((wI rfl (by simp) rfl rfl).sub (zD (n:=((w%4294967296:Nat):Int)) ((Wj (y:=4294967295) (by omega) (by omega)).trans (by rw [Uk])))) ?_;refine zo (wX rfl rfl rfl rfl) ?_;refine zz ?_;refine zo ((wX rfl rfl rfl rfl).sub (zD (show _=((sb y (w%4294967296) under:Nat):Int) by rw [wk,wk];unfold sb;split <;> omega))) ?_;refine zg ?_;refine zo (yQ (z:=((sb y (w%4294967296) under%4294967296:Nat):Int)) rfl rfl xx) ?_;refine zz ?_;refine zo ((wr rfl rfl rfl (by omega) (by simp [IntKind.bits])).sub (zD (zoq _))) ?_;refine zo (vI (q:=at'+i) rfl rfl rfl (by omega) (by omega) (by simp)) ?_;refine Run.storeRow 1 rfl rfl rfl rfl rfl (by omega) rfl rfl ?_;refine zg ?_;refine za ((i+1:Nat):Int) ?_;refine zz ?_;refine zJ ?_
   obtain⟨hs1,hs2⟩:=zkr (x:=y) (y:=w%4294967296) (u:=under) hp (by omega) hun
   refine⟨i+1,w/4294967296,sb y (w%4294967296) under/9223372036854775808,out.set (at'+i) (sb y (w%4294967296) under%4294967296),⟨by omega,by omega,hs2,fun h=>?_,uv hlo (by omega),by rw [List.length_set];exact hln,fun j hj=>by rw [wq (by omega)];exact hk j (by omega),?_⟩,by omega,zL (zb rfl (zb rfl (zb rfl (zb rfl (zb rfl (zb rfl (zb rfl (trivial)))))))) rfl⟩
   ·have:x=0:=by rw [hx,xY (by omega)]
    rw [hw,this];omega
   ·rw [xr,xr,xr,Kv,vq,Zk (by omega),vq,yZ,←hx,←hy]
    exact zh8 (y:=0) hval (by rw [←hw];exact Nat.mod_add_div w 4294967296) hs1 rfl
 ·have hie:i=n+1:=by omega
  have hov0:=h0 hie
  rw [hie,hov0,Nat.zero_add,wJ (l:=b) (by omega)] at hval
  refine zI ?_;refine zr ?_;refine zz ?_;refine zo ((zZ rfl rfl rfl rfl).sub (yx (c:=decide (under=0)) (by rcases Nat.lt_or_ge 0 under with h | h;rw [decide_eq_false (by omega)];exact beq_eq_false_iff_ne.2 (by omega);rw [decide_eq_true (by omega)];exact beq_iff_eq.2 (by omega)))) ?_;refine zg ?_;refine zj ?_
  exact⟨_,_,.one (.tmp rfl),List.Sublist.refl _,out,under,hun,rfl,hlo,hln,fun j hj=>hk j (by omega),hval,rfl⟩
theorem zid {R b:List Nat} {bL bR cR at' n:Nat} {N:Nat} (hlN:R.length=N) (hR:xU R) (hb:xU b) (hn:b.length=n) (hat:at'+n<N) (hs:N≤cap):CallSpec Tryz.prog G 195 [eqS (.pointer (some ⟨bL,0,none⟩)),intS .i64 (at':Nat)] (Zl bL bR cR N R b) (fun s H'=>∃ out c,c≤1∧s=zm (decide (0<c))∧xU out∧out.length=N∧(∀j,j<at'∨at'+(n+1)≤j→limb out j=limb R j)∧low (out.drop at') (n+1)+Ya (n+1)*c=low (R.drop at') (n+1)+val b∧H'=Zl bL bR cR N out b):=by
 subst hlN
 unfold cap at hs
 refine zs Tryz.func195 ?_;refine zr ?_;refine zz ?_;refine zx ?_;refine zz ?_;refine zJ ?_;refine zh ?_;refine zr ?_;(iterate 4 refine zz ?_);refine zo ((xh rfl rfl).sub (zD (show ((b.length:Nat):Int)=((n:Nat):Int) by omega))) ?_;refine za ((n+1:Nat):Int) ?_;refine zg ?_
 refine Zh (fun i over out=>⟨_,[(13,intS .i64 (i:Nat)),(12,intS .i64 (n+1:Nat)),(5,intS .u64 (over:Nat)),(1,intS .i64 (at':Nat)),(0,eqS (.pointer (some ⟨bL,0,none⟩)))],Zl bL bR cR R.length out b,[],(0,false)⟩)
   (fun i over out=>i≤n+1∧over≤1∧xU out∧out.length=R.length∧(∀j,j<at'∨at'+i≤j→limb out j=limb R j)∧low (out.drop at') i+4294967296^i*over=low (R.drop at') i+low b i) (fun i over out=>n+1-i)
   0 0 R ⟨by omega,by omega,hR,rfl,fun _ _=>rfl,by simp [vS]⟩ (zL (zb rfl (zb rfl (zb rfl (zb rfl (zb rfl (trivial)))))) rfl) ?_
 rintro i over out ⟨hi,hov,hlo,hln,hk,hval⟩
 refine zr ?_;refine zz ?_;refine zJ ?_;refine zh ?_;refine zd (fun _ k14=>?_) fun _ k14=>?_
 ·have hp:=yF hR (at'+i)
  have hx0:=yF hb i
  obtain⟨x,hx⟩:∃ x,x=limb b i:=⟨_,rfl⟩
  rw [←hx] at hx0
  obtain⟨y,hy⟩:∃ y,y=limb R (at'+i):=⟨_,rfl⟩
  rw [←hy] at hp
  refine zE ?_;refine zh ?_;refine zQ ?_;refine zr ?_;(iterate 2 refine zz ?_);refine zJ ?_;refine xS (K:=fun S1=>Ent S1 (⟨60,[(5,intS .u64 (over+x:Nat)),(6,intS .i64 (i:Nat)),(13,intS .i64 (i:Nat)),(12,intS .i64 (n+1:Nat)),(1,intS .i64 (at':Nat)),(0,eqS (.pointer (some ⟨bL,0,none⟩)))],Zl bL bR cR R.length out b,[],(0,false)⟩)) ?_ ?_
  ·refine zr ?_;(iterate 5 refine zz ?_);refine zo ((xh rfl rfl).sub (zD (show ((b.length:Nat):Int)=((n:Nat):Int) by omega))) ?_;refine zg ?_;refine zd (fun _ k22=>?_) fun _ k22=>?_
   ·refine zg ?_;refine zo (zi rfl rfl rfl (by omega) (y:=limb b i) (yV (by omega))) ?_;refine zo ((yN rfl rfl).sub (zD (n:=((x:Nat):Int)) (by rw [hx]))) ?_;refine zA ?_;refine za ((over+x:Nat):Int) ?_;refine zg ?_
    exact yo zk
   ·refine zE ?_
    exact yo (xk rfl (congrArg (intS .u64) (by rw [hx,xY (by omega)];rfl)) (zb rfl (zb rfl (zb rfl (zb rfl (zb rfl (trivial)))))))
  ·intro S1 hS1
   refine wG hS1 ?_;refine zg ?_;refine za ((at'+i:Nat):Int) ?_;refine zo (xm (i:=at'+i) rfl rfl rfl (by omega)) ?_
   refine zo ((vf 1 rfl rfl rfl (by omega)).sub (zD (n:=((y:Nat):Int)) (by rw [hy,hk _ (.inr (Nat.le_refl _))]))) ?_
   refine zA ?_;refine za ((over+x+y:Nat):Int) ?_;refine zg ?_;refine za ((at'+i:Nat):Int) ?_;refine zz ?_;refine zo (yQ (z:=(((over+x+y)%4294967296:Nat):Int)) rfl rfl xx) ?_;refine zo (xm (i:=at'+i) rfl rfl rfl (by omega)) ?_;refine Run.storeRow 1 rfl rfl rfl rfl rfl (by omega) rfl rfl ?_;refine zg ?_;refine zo ((wr rfl rfl rfl (by omega) (by simp [IntKind.bits])).sub (zD (Ys _))) ?_;refine zg ?_;refine za ((i+1:Nat):Int) ?_;refine zz ?_;refine zJ ?_
   refine⟨i+1,(over+x+y)/4294967296,out.set (at'+i) ((over+x+y)%4294967296),⟨by omega,by omega,uv hlo (by omega),by rw [List.length_set];exact hln,fun j hj=>by rw [wq (by omega)];exact hk j (by omega),?_⟩,by omega,zL (zb rfl (zb rfl (zb rfl (zb rfl (zb rfl (trivial)))))) rfl⟩
   rw [xr,xr,xr,Kv,vq,Zk (by omega),vq,yZ,←hx,←hy]
   exact zh9 hval
 ·have hie:i=n+1:=by omega
  rw [hie,wJ (l:=b) (by omega)] at hval
  refine zI ?_;refine zr ?_;refine zz ?_;refine zo ((zZ rfl rfl rfl rfl).sub (yx (c:=decide (0<over)) (decide_eq_decide.2 (by omega)))) ?_;refine zg ?_;refine zj ?_
  exact⟨_,_,.one (.tmp rfl),List.Sublist.refl _,out,over,hov,rfl,hlo,hln,fun j hj=>hk j (by omega),hval,rfl⟩
end Go.Proofs
/- quot: the long division. -/
namespace Go.Proofs
open Go Go.Sv Num
variable {G:Imm}
def zeZ (X D cnt:Nat):List (List SV):=(List.range cnt).map fun k=>[intS .i64 (cnt-1-k:Nat),intS .u32 (X/D/Ya (cnt-1-k)%4294967296:Nat)]
theorem Wm {X D cnt:Nat}:(zeZ X D cnt).length=cnt:=by simp [zeZ]
theorem zc4 {X D cnt k:Nat} (h:k<cnt):(zeZ X D cnt)[k]? =some [intS .i64 (cnt-1-k:Nat),intS .u32 (X/D/Ya (cnt-1-k)%4294967296:Nat)]:=by
 simp only [zeZ,List.getElem?_map,List.getElem?_range h,Option.map_some]
theorem zks {X D cnt k:Nat} {ss:List SV} (h:(zeZ X D cnt)[k]? =some ss):k<cnt∧ss=[intS .i64 (cnt-1-k:Nat),intS .u32 (X/D/Ya (cnt-1-k)%4294967296:Nat)]:=by
 have h1:k<cnt:=by have:=yt h;rwa [Wm] at this
 refine⟨h1,?_⟩
 rw [zc4 h1] at h;exact (Option.some.inj h).symm
theorem zmQ {X D cnt:Nat} {ss:List SV} (h:ss∈zeZ X D cnt):ss.length=2:=by
 obtain⟨i,_,rfl⟩:=List.mem_map.1 h;rfl
theorem zbw {n:Nat} (h:n≠0):4294967296^((yz n).length-1)≤n:=by
 rcases Nat.lt_or_ge n (4294967296^((yz n).length-1)) with h1 | h1
 ·have h2:=zK h1
  have h3:(yz n).length≠0:=fun h0=>h (yR.1 h0)
  omega
 ·exact h1
theorem zgF {n:Nat} (h:n≠0):limb (yz n) ((yz n).length-1)≠0∧limb (yz n) ((yz n).length-1)=n/4294967296^((yz n).length-1):=by
 have h1:=zbw h
 have h3:(yz n).length≠0:=fun h0=>h (yR.1 h0)
 have hp:0<4294967296^((yz n).length-1):=Nat.pow_pos (by decide)
 have h4:n/4294967296^((yz n).length-1)<4294967296:=by
  rw [Nat.div_lt_iff_lt_mul hp,Nat.mul_comm,←yZ,Nat.sub_add_cancel (Nat.pos_of_ne_zero h3)]
  exact xj (Nat.le_refl _)
 have h5:0<n/4294967296^((yz n).length-1):=Nat.div_pos h1 hp
 have h6:limb (yz n) ((yz n).length-1)=n/4294967296^((yz n).length-1):=by
  rw [Xs (xe n),xq,Nat.mod_eq_of_lt h4]
 exact⟨by rw [h6];exact Nat.ne_of_gt h5,h6⟩
theorem zie {m n La Lb up:Nat} (hLa:La=(yz m).length) (hLb:Lb=(yz n).length) (hn0:n≠0) (hmn:n≤m) (hup:up=32-Lib.bitLen (limb (yz n) (Lb-1))):
  up≤32∧(yz (m*2^up)).length≤La+1∧(yz (n*2^up)).length=Lb∧1≤Lb∧Lb≤La∧limb (yz (n*2^up)) (Lb-1)≠0∧m*2^up<n*2^up*Ya (La+1-Lb)∧n*2^up≠0∧m*2^up≠0:=by
 have hp:0<4294967296^(Lb-1):=Nat.pow_pos (by decide)
 have h2p:0<2^up:=Nat.two_pow_pos up
 have hu:up≤32:=by omega
 have hLb0:1≤Lb:=by
  have h3:(yz n).length≠0:=fun h0=>hn0 (yR.1 h0)
  omega
 have hm:m<4294967296^La:=xj (by rw [hLa];exact Nat.le_refl _)
 have hnl:4294967296^(Lb-1)≤n:=by rw [hLb];exact zbw hn0
 have hab:Lb≤La:=by
  rcases Nat.lt_or_ge La Lb with h | h
  ·exfalso
   have h1:4294967296^La≤4294967296^(Lb-1):=Nat.pow_le_pow_right (by decide) (by omega)
   exact absurd (Nat.lt_of_lt_of_le hm (Nat.le_trans h1 hnl)) (Nat.not_lt.2 hmn)
  ·exact h
 have h232:2^up≤4294967296:=Nat.pow_le_pow_right (n:=2) (by decide) hu
 have e1:(yz (m*2^up)).length≤La+1:=by
  refine zK ?_
  rw [yZ]
  exact Nat.lt_of_lt_of_le (Nat.mul_lt_mul_of_pos_right hm h2p) (Nat.mul_le_mul_left _ h232)
 obtain⟨x,hx⟩:∃ x,x=limb (yz n) (Lb-1):=⟨_,rfl⟩
 have hxd:x=n/4294967296^(Lb-1):=by rw [hx,hLb];exact (zgF hn0).2
 have hxl:x<4294967296:=by rw [hx];exact yF (xe n) _
 obtain⟨hb1,hb2,hb3⟩:=Wl 32 x hxl (by decide)
 rw [←hx] at hup
 have hD:n*2^up<4294967296^Lb:=by
  have g1:n<(x+1)*4294967296^(Lb-1):=by rw [hxd];exact Nat.lt_mul_of_div_lt (Nat.lt_succ_self _) hp
  have g2:(x+1)*2^up≤4294967296:=by
   have:2^Lib.bitLen x*2^up=4294967296:=by rw [←Nat.pow_add,show Lib.bitLen x+up=32 by omega]
   rw [←this];exact Nat.mul_le_mul_right _ hb1
  have g3:=Nat.mul_lt_mul_of_pos_right g1 h2p
  refine Nat.lt_of_lt_of_le g3 ?_
  rw [Nat.mul_right_comm]
  refine Nat.le_trans (Nat.mul_le_mul_right _ g2) ?_
  rw [Nat.mul_comm,←yZ,Nat.sub_add_cancel hLb0];exact Nat.le_refl _
 have e2:(yz (n*2^up)).length=Lb:=by
  refine Nat.le_antisymm (zK hD) ?_
  rcases Nat.lt_or_ge (yz (n*2^up)).length Lb with h | h
  ·exfalso
   have h1:n*2^up<4294967296^(Lb-1):=xj (by omega)
   have h2:n≤n*2^up:=Nat.le_mul_of_pos_right _ h2p
   exact absurd (Nat.lt_of_le_of_lt h2 h1) (Nat.not_lt.2 hnl)
  ·exact h
 have e3:n*2^up≠0:=Nat.mul_ne_zero hn0 (Nat.ne_of_gt h2p)
 refine⟨hu,e1,e2,hLb0,hab,by have:=(zgF e3).1;rw [e2] at this;exact this,?_,e3,Nat.mul_ne_zero (by omega) (Nat.ne_of_gt h2p)⟩
 have:=zeT (k:=up) hm hnl (by omega)
 rw [show La+1-Lb=La-(Lb-1) by omega];exact this
theorem zkt {m n up cnt:Nat} {out:List Nat} (_:xU out) (hln:out.length=cnt) (hn:n*2^up≠0) (hlt:m*2^up<n*2^up*Ya cnt) (hz:∀ j,j<cnt→limb out j=m*2^up/(n*2^up)/Ya j%4294967296):val out=m/n:=by
 have e:m*2^up/(n*2^up)=m/n:=Nat.mul_div_mul_right m n (Nat.two_pow_pos up)
 have hl:m/n<4294967296^cnt:=by
  rw [←e,Nat.div_lt_iff_lt_mul (Nat.pos_of_ne_zero hn),Nat.mul_comm,Nat.mul_comm (4294967296^cnt),Nat.mul_comm (2^up)];exact hlt
 have:val out=val (yz (m/n)):=ud fun j=>by
  rcases Nat.lt_or_ge j cnt with h | h
  ·rw [hz j h,e,Uj];rfl
  ·rw [xY (by omega),Uj,Nat.div_eq_of_lt (Nat.lt_of_lt_of_le hl (Nat.pow_le_pow_right (by decide) h))]
 rw [this,xq]
theorem zif {R b:List Nat} {bL bR cR N n cnt X D:Nat} (hR:xU R) (hb:xU b) (hN:yu (some (bR,cR)) N) (hlN:R.length=N) (hn:b.length=n+1) (hb0:limb b n≠0) (hcnt:N=n+1+cnt) (hs:N≤cap) (hX:val R=X) (hD:val b=D) (hlt:X<D*Ya cnt):IterSpecH Tryz.prog G 192 [zT [eqS (.pointer (some ⟨bL,0,none⟩))]] (zeZ X D cnt) (Zl bL bR cR N R b) (fun i H'=>∃ out,xU out∧out.length=N∧(i=(cnt,false)→val out=X%D)∧H'=Zl bL bR cR N out b):=by
 have hs0:=hs
 unfold cap at hs
 refine VC Tryz.func192 rfl rfl rfl rfl fun l E hy=>?_;refine zS 13 (by kernel_rfl) ?_;refine zg ?_;refine zo (xK rfl rfl hN) ?_;(iterate 4 refine zz ?_);refine zo ((xh rfl rfl).sub (zD (show ((b.length:Nat):Int)=((n+1:Nat):Int) by omega))) ?_;refine za ((cnt:Nat):Int) ?_;refine zo (yA (z:=((cnt:Nat):Int)-1) rfl rfl rfl (congrArg some (by omega)) (wrap_i64 (by omega) (by omega))) ?_;refine zg ?_
 refine yX (fun g out=>⟨_,[(3,intS .i64 (((g:Nat):Int)-1)),(0,yieldS l),(1,zT [eqS (.pointer (some ⟨bL,0,none⟩))])],Zl bL bR cR N out b,[],(cnt-g,false)⟩)
   (fun g out=>g≤cnt∧xU out∧out.length=N∧val out=X%(D*Ya g)) (fun g out=>g)
   cnt R ⟨Nat.le_refl _,hR,hlN,by rw [hX,Nat.mod_eq_of_lt hlt]⟩ ⟨rfl,zb rfl (zb rfl (zb rfl (trivial))),xp _,rfl,by simp⟩ ?_
 rintro g out ⟨hg,hlo,hln,hval⟩
 refine zh ?_;refine zg ?_;refine zd (fun _ k19=>?_) fun _ k19=>?_
 ·obtain⟨p,rfl⟩:∃ p,g=p+1:=⟨g-1,by omega⟩
  obtain⟨P,hP,hD0,hPl,hge,hdig,hrest⟩:=zc2 hlo hb hn hb0 hD hval
  obtain⟨q,hq⟩:∃ q,q=min ((limb out (p+(n+1))*4294967296+limb out (p+n))/limb b n) 4294967295:=⟨_,rfl⟩
  rw [←hq] at hge
  have hq2:q<4294967296:=by rw [hq];exact Nat.lt_of_le_of_lt (Nat.min_le_right _ _) (by decide)
  refine zE ?_;refine zh ?_;refine zQ ?_;refine ut ?_;refine zr ?_;refine zz ?_;refine zo ((zG rfl rfl).sub (zD (show ((p+1:Nat):Int)-1=((p:Nat):Int) by omega))) ?_;refine Run.callH [] _ [] rfl rfl rfl rfl (zeX hln hlo hb hn (by omega) hb0 hs0) rfl rfl rfl ?_
  rintro s1 H1 ⟨rfl,rfl⟩
  refine zo ((yS rfl rfl).sub (zD (n:=((q:Nat):Int)) (congrArg Int.ofNat hq.symm))) ?_;refine zJ ?_;refine zh ?_;refine us ?_;refine xS (K:=fun S1=>∃ out2,xU out2∧out2.length=N∧val out2=X%(D*Ya p)∧Ent S1 ⟨42,[(4,intS .u64 (P/D:Nat)),(3,intS .i64 (((p+1:Nat):Int)-1)),(0,yieldS l),(1,zT [eqS (.pointer (some ⟨bL,0,none⟩))])],Zl bL bR cR N out2 b,[],(cnt-(p+1),false)⟩) ?_ ?_
  ·refine zr ?_;refine zz ?_;refine zo ((zG rfl rfl).sub (zD (show ((p+1:Nat):Int)-1=((p:Nat):Int) by omega))) ?_;refine zz ?_;refine Run.callH [] _ [] rfl rfl rfl rfl (zeY hln hlo hb hN hn (by omega) hq2 hs0) rfl rfl rfl ?_
   rintro s1 H1 ⟨out1,u1,hu1,rfl,hlo1,hln1,hk1,hv1,rfl⟩
   rw [←hP,hD] at hv1
   replace hv1:low (out1.drop p) (n+2)+q*D=P+Ya (n+2)*u1:=hv1
   refine zg ?_
   refine Zh (fun q2 u2 out2=>⟨_,[(5,zm (decide (u2=0))),(4,intS .u64 (q2:Nat)),(3,intS .i64 (((p+1:Nat):Int)-1)),(0,yieldS l),(1,zT [eqS (.pointer (some ⟨bL,0,none⟩))])],Zl bL bR cR N out2 b,[],(cnt-(p+1),false)⟩)
     (fun q2 u2 out2=>u2≤1∧q2<4294967296∧P/D≤q2∧xU out2∧out2.length=N∧(∀j,j<p∨p+(n+2)≤j→limb out2 j=limb out j)∧low (out2.drop p) (n+2)+q2*D=P+Ya (n+2)*u2) (fun q2 u2 out2=>q2)
     q u1 out1 ⟨hu1,hq2,hge,hlo1,hln1,hk1,hv1⟩ (zL zk rfl) ?_
   rintro q2 u2 out2 ⟨hu2,hq4,hq3,hlo2,hln2,hk2,hv2⟩
   refine zh ?_;refine zg ?_;refine wE (fun h30=>?_) fun h30=>?_
   ·have hu3:u2=1:=by rcases Nat.lt_or_ge 0 u2 with h | h;omega;rw [show u2=0 by omega] at h30;simp at h30
    subst hu3
    rw [Nat.mul_one] at hv2
    have hc2:low (out2.drop p) (n+2)<Ya (n+2):=Qd (vJ hlo2 p) _
    have hqq:=zkm (c:=1) hD0 hv2 hc2 (Nat.le_refl _)
    obtain⟨q5,rfl⟩:∃ q5,q2=q5+1:=⟨q2-1,by omega⟩
    refine zg ?_;refine za ((q5:Nat):Int) ?_;refine zz ?_;refine zx ?_;refine zz ?_;refine zo ((zG rfl rfl).sub (zD (show ((p+1:Nat):Int)-1=((p:Nat):Int) by omega))) ?_;refine Run.callH [] _ [] rfl rfl rfl rfl (zid hln2 hlo2 hb hn (by omega) hs0) rfl rfl rfl ?_
    rintro s1 H1 ⟨out3,c3,hc3,rfl,hlo3,hln3,hk3,hv3,rfl⟩
    rw [hD] at hv3
    replace hv3:low (out3.drop p) (n+2)+Ya (n+2)*c3=low (out2.drop p) (n+2)+D:=hv3
    rw [Nat.add_mul,Nat.one_mul] at hv2
    replace hk3:∀ j,j<p∨p+(n+2)≤j→limb out3 j=limb out j:=fun j hj=>(hk3 j hj).trans (hk2 j hj)
    have hq5:P/D≤q5:=by omega
    refine zJ ?_;refine wE (fun h35=>?_) fun h35=>?_
    ·have hc4:c3=1:=by have:=of_decide_eq_true h35;omega
     rw [hc4,Nat.mul_one] at hv3
     replace hv3:low (out3.drop p) (n+2)+q5*D=P:=by omega
     refine zI ?_
     exact⟨out3,hlo3,hln3,hrest out3 hlo3 hk3 (fit hD0 hv3 hq5).2,zL (xk rfl (congrArg (fun x:Nat=>intS .u64 x) (fit hD0 hv3 hq5).1) zk) rfl⟩
    ·have hc4:c3=0:=by have:=of_decide_eq_false h35;omega
     rw [hc4,Nat.mul_zero,Nat.add_zero] at hv3
     refine zE ?_
     exact⟨q5,1,out3,⟨Nat.le_refl _,by omega,hq5,hlo3,hln3,hk3,by rw [Nat.mul_one];omega⟩,by omega,zL (zb rfl (zb rfl (zb rfl (zb rfl (zb rfl (trivial)))))) rfl⟩
   ·have hu3:u2=0:=by simpa using h30
    subst hu3
    rw [Nat.mul_zero,Nat.add_zero] at hv2
    refine zI ?_
    exact⟨out2,hlo2,hln2,hrest out2 hlo2 hk2 (fit hD0 hv2 hq3).2,zL (xk rfl (congrArg (fun x:Nat=>intS .u64 x) (fit hD0 hv2 hq3).1) zk) rfl⟩
  ·rintro S1 ⟨out2,hlo2,hln2,hval2,hS1⟩
   refine wG hS1 ?_;refine zr ?_
   have hdl:P/D<4294967296:=by rw [hdig];exact Nat.mod_lt _ (by omega)
   refine zz ?_;refine zo ((zG rfl rfl).sub (zD (show ((p+1:Nat):Int)-1=((p:Nat):Int) by omega))) ?_;refine zz ?_;refine zo (yQ (z:=((P/D:Nat):Int)) rfl rfl (vH (by omega) (by omega))) ?_
   refine Run.yield rfl hy rfl rfl rfl (by rw [zc4 (by omega),show cnt-1-(cnt-(p+1))=p by omega,←hdig]) (xi _) rfl rfl rfl fun y=>?_
   refine zg ?_;refine wE (fun h41=>?_) fun h41=>?_
   ·refine zj ?_
    refine⟨.inl rfl,_,List.Sublist.refl _,⟨out2,hlo2,hln2,?_,rfl⟩,.inr h41⟩
    intro h
    have h1:(!y)=false:=congrArg Prod.snd h
    rw [h1] at h41;cases h41
   ·refine zg ?_;refine zo (yA (z:=((p:Nat):Int)-1) rfl rfl rfl (congrArg some (by omega)) (wrap_i64 (by omega) (by omega))) ?_;refine zg ?_
    exact⟨p,out2,⟨by omega,hlo2,hln2,hval2⟩,by omega,⟨rfl,zb rfl (zb rfl (zb rfl (trivial))),xp _,rfl,by simp only;rw [h41,show cnt-p=cnt-(p+1)+1 by omega]⟩⟩
 ·have hg0:g=0:=by omega
  subst hg0
  rw [show Ya 0=1 from rfl,Nat.mul_one] at hval
  refine zI ?_
  exact⟨.inr rfl,_,List.Sublist.refl _,⟨out,hlo,hln,fun _=>hval,rfl⟩,.inl (by rw [Wm];rfl)⟩
theorem zku {bL:Nat}:zp Tryz.prog G 137 [eqS (.pointer (some ⟨bL,0,none⟩))] (wp 192 [zT [eqS (.pointer (some ⟨bL,0,none⟩))]]):=by
 refine zs Tryz.func137 ?_;refine zg ?_
 exact zj zt
theorem Kw {a b:List Nat} {m n:Nat} [hm:IsNat a m] [hn:IsNat b n] (hs:a.length+10000≤cap) (hs2:b.length+10000≤cap):zp Tryz.prog G 92 [zy a,zy b] (xn [zy (yz (m/n)),zy (yz (if n=0 then 0 else m%n)),intS .i64 (if n=0 then 30 else 0)]):=by
 unfold cap at hs hs2
 have hla:(yz m).length≤a.length:=zK (by rw [←hm.val];exact wn hm.lim)
 have hlb:(yz n).length≤b.length:=zK (by rw [←hn.val];exact wn hn.lim)
 refine zs Tryz.func92 ?_;refine zr ?_;refine xg fun b4=>?_;refine zg ?_;refine zo (ze rfl rfl (xV (by unfold cap;omega))) ?_;refine zz ?_;refine zo (ze rfl rfl (xV (by unfold cap;omega))) ?_;(iterate 2 refine zz ?_);refine zJ ?_;refine zh ?_;refine zg ?_;refine zd (fun _ k18=>?_) fun _ k18=>?_
 ·have hn0:n=0:=yR.1 (by omega)
  refine zr ?_;refine zw ?_;refine Run.ghost _ rfl (Xn (wF (l:=yz (m/n)) (vC.2 (by rw [hn0];exact Nat.div_zero m)))) ?_;refine zo ((yS rfl rfl).sub (wF (l:=yz (if n=0 then 0 else m%n)) (by rw [if_pos hn0];exact dig_zero))) ?_;refine zg ?_
  exact zj (zu (e:=by simp only [if_pos hn0]))
 ·have hn0:n≠0:=fun h=>k18 (by rw [h,dig_zero];rfl)
  refine zg ?_;refine zf zcP ?_;refine zg ?_;refine zd (fun _ k22=>?_) fun _ k22=>?_
  ·have hmn:m<n:=by rcases Nat.lt_or_ge m n with h | h;exact h;unfold ue at k22;rw [if_neg (by omega)] at k22;split at k22 <;> omega
   refine zr ?_;refine zz ?_;refine zw ?_;refine Run.ghost _ rfl (Xn (wF (l:=yz (m/n)) (vC.2 (Nat.div_eq_of_lt hmn)))) ?_;refine zo ((yS rfl rfl).sub (show ∀I v,(zy (yz (m))).den I v→(zy (yz (if n=0 then 0 else m%n))).den I v from fun I v h=>by rw [if_neg hn0,Nat.mod_eq_of_lt hmn];exact h)) ?_;refine zg ?_
   exact zj (zu (e:=by simp only [if_neg hn0]))
  ·have hmn:n≤m:=by rcases Nat.lt_or_ge m n with h | h;unfold ue at k22;rw [if_pos h] at k22;omega;exact h
   refine zg ?_;refine zd (fun _ k28=>?_) fun _ k28=>?_
   ·have hb1:(yz n).length=1:=by omega
    have hnB:n<4294967296:=by have:=xj (n:=n) (k:=1) (by omega);rwa [Nat.pow_one] at this
    have hmod:=Nat.mod_lt m (Nat.pos_of_ne_zero hn0)
    refine zg ?_;refine zo (zi rfl rfl rfl (by omega) (y:=limb (yz n) 0) (yV (by omega))) ?_;refine zo ((yN rfl rfl).sub (zD (n:=((n:Nat):Int)) (by rw [Uj,Nat.pow_zero,Nat.div_one,Nat.mod_eq_of_lt hnB]))) ?_;refine zo (ze rfl rfl (zeW hnB (by unfold cap;omega))) ?_;(iterate 2 refine zz ?_);refine zo ((xo rfl rfl rfl).sub (zD (n:=((m%n:Nat):Int)) (by rw [if_neg hn0]))) ?_;refine zo ((xo rfl rfl rfl).sub (zD (n:=0) (by rw [if_neg hn0]))) ?_;refine zg ?_;refine zA ?_;refine zo (ze rfl rfl (Ue (by omega))) ?_;refine zz ?_;refine zw ?_;refine zo ((yS rfl rfl).sub (show ∀I v,(zy (yz (m%n))).den I v→(zy (yz (if n=0 then 0 else m%n))).den I v from fun I v h=>by rw [if_neg hn0];exact h)) ?_;refine zg ?_
    exact zj (zu (e:=by simp only [if_neg hn0]))
   ·obtain⟨La,hLa⟩:∃ La,La=(yz m).length:=⟨_,rfl⟩
    obtain⟨Lb,hLb⟩:∃ Lb,Lb=(yz n).length:=⟨_,rfl⟩
    obtain⟨up,hup⟩:∃ up,up=32-Lib.bitLen (limb (yz n) (Lb-1)):=⟨_,rfl⟩
    obtain⟨f1,f2,f3,f4,f5,f6,f7,f8,f9⟩:=zie hLa hLb hn0 hmn hup
    obtain⟨c,hc⟩:∃ c,c=La+1-(yz (m*2^up)).length:=⟨_,rfl⟩
    obtain⟨cnt,hcnt⟩:∃ cnt,cnt=La+1-Lb:=⟨_,rfl⟩
    rw [←hcnt] at f7
    have hLN:(yz (m*2^up)).length+c=La+1:=by omega
    refine zg ?_;refine za ((Lb-1:Nat):Int) ?_;refine zo (zi rfl rfl rfl (by omega) (y:=limb (yz n) (Lb-1)) (yV (by omega))) ?_;refine zz ?_;refine zo ((ze rfl rfl (zh7 (yF (xe n) _))).sub (zD (n:=((up:Nat):Int)) (by rw [hup]))) ?_;refine zg ?_;refine Run.call0 rfl rfl rfl (zoP (by omega) (by unfold cap;omega) f9) rfl rfl rfl ?_
    rintro s1 H1 ⟨bR,cR,hqR,rfl,rfl⟩
    refine zg ?_;refine zo (ze rfl rfl (zmK (by omega) (by unfold cap;omega))) ?_;refine zz ?_;refine Run.box rfl rfl rfl rfl rfl rfl fun b60=>?_;refine zg ?_;refine zhS [0,1,2,3,4,5,6,7,8,9,10,11,12,13,14,15,16,17] 14 _ (by kernel_rfl) (by kernel_rfl) rfl (.cons_cons _ (.cons _ (.cons_cons _ .slnil))) ?_;refine RunE.lat (zG rfl rfl) rfl rfl rfl ?_;refine RunE.one (zG rfl rfl) rfl rfl rfl (by kernel_rfl) ?_;refine RunE.one (yT rfl rfl) rfl rfl rfl (by kernel_rfl) ?_;refine RunE.one (zN rfl rfl rfl) rfl rfl rfl (by kernel_rfl) ?_;refine RunE.one (yn 0 rfl rfl rfl rfl) rfl rfl rfl (by kernel_rfl) ?_;refine RunE.one (zG rfl rfl) rfl rfl rfl (by kernel_rfl) ?_;refine RunE.one (xh rfl rfl) rfl rfl rfl (by kernel_rfl) ?_;refine RunE.one (yA (z:=((La+1:Nat):Int)) rfl rfl rfl (congrArg some (by omega)) (wrap_i64 (by omega) (by omega))) rfl rfl rfl (by kernel_rfl) ?_;refine RunE.one (zG rfl rfl) rfl rfl rfl (by kernel_rfl) ?_;refine RunE.one (yT rfl rfl) rfl rfl rfl (by kernel_rfl) ?_;refine RunE.one (zN rfl rfl rfl) rfl rfl rfl (by kernel_rfl) ?_;refine RunE.one (yn 0 rfl rfl rfl rfl) rfl rfl rfl (by kernel_rfl) ?_;refine RunE.one (xK rfl rfl hqR) rfl rfl rfl (by kernel_rfl) ?_;refine RunE.one (yA (z:=((c:Nat):Int)) rfl rfl rfl (congrArg some (by omega)) (wrap_i64 (by omega) (by omega))) rfl rfl rfl (by kernel_rfl) ?_;refine RunE.nil ?_
    refine EffAtD.appendZeros 1 rfl rfl rfl rfl rfl rfl rfl hqR (yH _) (by unfold yP;omega) (by unfold yP;omega) fun q2 hq2=>⟨.cons_cons _ (.cons _ (.cons_cons _ .slnil)),?_⟩
    obtain⟨bR2,cR2⟩:=q2
    rw [zcS,←List.flatMap_append,hLN]
    rw [hLN] at hq2
    (iterate 2 refine zz ?_);refine zw ?_;refine zJ ?_
    obtain⟨Rl,hRl⟩:∃ l,l=yz (m*2^up)++List.replicate c 0:=⟨_,rfl⟩
    rw [←hRl]
    have hRlim:xU Rl:=by rw [hRl];exact VF (xe _) (wj _)
    have hRlen:Rl.length=La+1:=by rw [hRl,List.length_append,List.length_replicate,hLN]
    have hRval:val Rl=m*2^up:=by rw [hRl,Za,xz,xq,Nat.mul_zero,Nat.add_zero]
    refine zS 11 (by kernel_rfl) ?_;refine zg ?_;refine zo (xK rfl rfl hq2) ?_;refine zg ?_;refine za ((cnt:Nat):Int) ?_;refine zJ ?_;refine Run.makeNat (n:=cnt) (c:=cnt) rfl rfl rfl rfl rfl rfl rfl (Nat.le_refl _) (by omega) (by unfold cap;omega) fun b89 hb89=>?_;refine zw ?_;refine zJ ?_;refine zh ?_;refine zg ?_;refine zf zku ?_;refine zg ?_
    refine zeF (H0:=Zl b60 bR2 cR2 (La+1) Rl (yz (n*2^up))) (h1:=[rowE (some (b89,cnt)) 64 1 cnt ((List.replicate cnt 0).flatMap xP),⟨some b4,35,[eqS (rowV (some (b89,cnt)) cnt)],0⟩]) rfl rfl (zif hRlim (xe _) hq2 hRlen (n:=Lb-1) (by omega) f6 (cnt:=cnt) (by omega) (by unfold cap;omega) hRval (xq _) f7) (List.perm_middle (l₁:=Zl b60 bR2 cR2 (La+1) Rl (yz (n*2^up)))).symm (fun ss h=>zmQ h) (by decide) rfl
      (fun k h i=>i=(0,false)∧k≤cnt∧∃ out,xU out∧out.length=cnt∧(∀j,cnt-k≤j→j<cnt→limb out j=m*2^up/(n*2^up)/Ya j%4294967296)∧h=[rowE (some (b89,cnt)) 64 1 cnt (out.flatMap xP),⟨some b4,35,[eqS (rowV (some (b89,cnt)) cnt)],0⟩])
      (fun _ _ _=>False) ⟨rfl,Nat.zero_le _,List.replicate cnt 0,wj _,List.length_replicate,fun j h1 h2=>by omega,rfl⟩ ?_ ?_ ?_
    ·rintro l k ss h i hk ⟨rfl,_,out,hlo,hln,hz,rfl⟩
     obtain⟨hk1,rfl⟩:=zks hk
     obtain⟨p,hp⟩:∃ p,p=cnt-1-k:=⟨_,rfl⟩
     obtain⟨z,hzz⟩:∃ z,z=m*2^up/(n*2^up)/Ya p%4294967296:=⟨_,rfl⟩
     rw [←hp,←hzz]
     have hzl:z<4294967296:=by rw [hzz];exact Nat.mod_lt _ (by decide)
     refine zr ?_;refine zz ?_;refine zJ ?_;refine zO ?_;refine zz ?_;refine zJ ?_
     refine⟨rfl,?_⟩
     refine zg ?_;refine zo (xm (i:=p) rfl rfl rfl (by omega)) ?_;refine Run.storeRow 0 rfl rfl rfl rfl rfl (by omega) rfl rfl ?_;refine zJ ?_
     refine⟨rfl,by omega,out.set p z,uv hlo hzl,by rw [List.length_set];exact hln,fun j h1 h2=>?_,rfl⟩
     by_cases e:j=p
     ·rw [e,Zk (by omega),hzz]
     ·rw [wq (fun h=>e h.symm)];exact hz j (by omega) h2
    ·rintro h H2 i D ⟨rfl,_,out,hlo,hln,hz,rfl⟩ ⟨R2,hlo2,hln2,hv2,rfl⟩
     rw [Wm] at hz hv2
     replace hv2:=hv2 rfl
     rw [Nat.mul_mod_mul_right] at hv2
     have hvo:=zkt hlo hln f8 f7 fun j hj=>hz j (by omega) hj
     have i1:IsNat out (m/n):=⟨hlo,hvo⟩
     have i2:IsNat R2 (m%n*2^up):=⟨hlo2,hv2⟩
     refine zP (zcN 1 0 0 rfl rfl rfl hq2 hln2 rfl yJ (by unfold yP;omega)) ?_;refine zP (zcN 1 1 0 rfl rfl rfl hb89 hln rfl yJ (by unfold yP;omega)) ?_;refine zS 9 (by kernel_rfl) ?_;refine zz ?_;refine zo (ze rfl rfl (xV (by unfold cap;omega))) ?_;refine zg ?_;refine zo (ze rfl rfl (xV (by unfold cap;omega))) ?_;refine zz ?_
     refine zo (ze rfl rfl (zh6 (by omega) (by unfold cap;have h9:(yz (m%n*2^up)).length≤R2.length:=zK (by rw [←i2.val];exact wn hlo2);omega))) ?_
     refine zJ ?_;refine zw ?_;refine zo ((yS rfl rfl).sub (show ∀I v,(zy (yz (m%n*2^up/2^up))).den I v→(zy (yz (if n=0 then 0 else m%n))).den I v from fun I v h=>by rw [if_neg hn0,←Nat.mul_div_cancel (m%n) (Nat.two_pow_pos up)];exact h)) ?_;refine zg ?_
     exact zj (zu (e:=by simp only [if_neg hn0]))
    ·intro h H2 i j D e c hc hInv;exact hInv.elim
end Go.Proofs
