/- digits: texts of numbers, and numbers of texts. -/
import Derived.Test.YthhamejdmpjjlaaGreatDoorSsc
import Derived.Test.YthhamejdmpjjlaaGreatDoorSnv
import Derived.Test.YthhamejdmpjjlaaGreatDoorSv1
namespace Go.Proofs
open Go Go.Sv Num
variable {G:Imm}
theorem zkV {z:Int} (h1: -2147483648≤z) (h2:z≤2147483647):IntKind.i32.wrap z=z:=by
 simp [IntKind.wrap,IntKind.bits,IntKind.signed];omega
theorem zfC {l:List Nat} (I:Imm) (v:Value) (h:(zU 1 id (l.map xP)).den I v):(zy l).den I v:=by
 obtain⟨a,cap,hv,h1,h2,h3⟩:=h
 refine⟨a,cap,by rw [hv,List.length_map],by rwa [List.length_map] at h1,by rwa [List.length_map] at h2,?_⟩
 rcases h3 with h3 | ⟨b,o,ha,h4⟩
 ·exact .inl (List.map_eq_nil_iff.1 h3)
 ·exact .inr ⟨b,o,ha,fun i x hx=>h4 i (xP x) (by rw [List.getElem?_map,hx];rfl)⟩
theorem Qp {d:Nat} (h:d<4294967296):IsNat [d] d:=⟨um h vB,by simp [val]⟩
def plX (n:Nat):List (List SV):=(Qk n).map fun m=>[intS .u64 (m:Nat)]
theorem KW {n:Nat}:(plX n).length=(Qk n).length:=by simp [plX]
theorem zoV {n:Nat} {ss:List SV} (h:ss∈plX n):ss.length=1:=by
 simp only [plX,List.mem_map] at h
 obtain⟨i,_,rfl⟩:=h
 rfl
theorem zm6 {n k:Nat} {ss:List SV} (h:(plX n)[k]? =some ss):∃ m,(Qk n)[k]? =some m∧ss=[intS .u64 (m:Nat)]:=by
 rw [plX,List.getElem?_map,Option.map_eq_some_iff] at h
 obtain⟨m,h1,rfl⟩:=h
 exact⟨m,h1,rfl⟩
theorem zkW {α:Type} {l:List α} {k:Nat} {x:α} {r:List α} (h:l.drop k=x::r):l[k]? =some x∧l.drop (k+1)=r∧k<l.length:=by
 have h1:l[k]? =some x:=by rw [←List.head?_drop,h];rfl
 exact⟨h1,by rw [←List.drop_drop,h];rfl,yt h1⟩
theorem zoW {n k m:Nat} (h:(Qk n)[k]? =some m):m<1000000000:=by
  induction n using Nat.strongRecOn generalizing k with
  | _ n ih=>
    by_cases h0:n=0
    · subst h0;rw [Zm] at h;simp at h
    · rw [Xv h0] at h
      cases k with
      | zero=>simp at h;omega
      | succ k=>exact ih (n/1000000000) (by omega) (k:=k) (by simpa using h)
abbrev dec (n:Nat):List UInt8:=Lib.decDigits n
theorem Jz (n:Nat):(dec n).length=Lib.nDigits n:=Lib.decDigits_length n
theorem zoX (n:Nat):dec n≠[]:=fun h=>by
 have:=Jz n;rw [h] at this;have:=Lib.nDigits_pos n;simp at *;omega
theorem WZ (I:Imm) (v:Value) (h:(eqS (.slice none 0 0)).den I v):(zy (yz 0)).den I v:=by rw [show v= .slice none 0 0 from h,dig_zero];exact Wi
theorem zoY (I:Imm) (v:Value) (h:(zl [eqS (.bool false),eqS (.slice none 0 0)]).den I v):(zl [zm false,zy (yz 0)]).den I v:=by
 obtain⟨xs,hv,hd,h1⟩:=h
 refine⟨xs,hv,?_,h1⟩
 obtain⟨x,y,rfl,hx,hy⟩:=uT hd
 exact zW hx (zW (WZ I y hy) dens_nil)
theorem zoZ {l:List UInt8} (h1:¬ l=[]) (h2:¬ 60<l.length) (h3:l.all isD=true):UT l=true:=by
 simp only [UT,Bool.and_eq_true,Bool.not_eq_true',decide_eq_true_eq,h3,and_true]
 exact⟨by simpa using h1,by omega⟩
theorem zgP {l:List UInt8} {k:Nat} (hk:k<l.length) (h:isD l[k]=false):UT l=false:=by
 have h1:l.all isD=false:=List.all_eq_false.2 ⟨l[k],List.getElem_mem _,by simp [h]⟩
 unfold UT;rw [h1];simp
theorem zgQ {c:UInt8} {z w:Nat} (hz:(z<128∧c.toNat=z∧w=1)∨(128≤z∧128≤c.toNat)) (h:z<48∨57<z):isD c=false:=by
 simp only [isD,Bool.and_eq_false_iff,decide_eq_false_iff_not]
 omega
theorem zkX {l:List UInt8} {k:Nat} (hk:k<l.length) (h:(l.take k).all isD=true) (h1:48≤l[k].toNat) (h2:l[k].toNat≤57):(l.take (k+1)).all isD=true:=by
 rw [List.take_add_one,List.getElem?_eq_getElem hk,List.all_append,h]
 simp [isD,h1,h2]
theorem zfD {l:List UInt8} (h:peD l≠0):UT l=false:=by
 cases h1:UT l with
 | false=>rfl
 | true=>exact absurd (by simp [peD,h1]) h
theorem zkY {l:List UInt8} (h:UT l=true):peD l=0∧pvD l=Ye l:=by simp [peD,pvD,h]
theorem Xy {l:List UInt8} (h:UT l=false):peD l=60∧pvD l=0:=by simp [peD,pvD,h]
theorem zkZ (l:List UInt8):pvD l<10^60:=by
  cases h:UT l with
  | false=>rw [(Xy h).2];decide
  | true=>
    rw [(zkY h).2]
    simp only [UT,Bool.and_eq_true,decide_eq_true_eq] at h
    exact Nat.lt_of_lt_of_le (zbA h.2.2) (Nat.pow_le_pow_right (by decide) h.2.1)
theorem zbG {v:Nat} (h:v<10^60):Bd v 7:=⟨Nat.lt_of_lt_of_le h (by decide)⟩
theorem KX {a:List Nat} {m d k:Nat} [hm:IsNat a m] [hk:Sz a k] (hd:d<4294967296) (hs:k+3≤cap:=by decide):zp Tryz.prog G 46 [zy a,intS .u32 d] (zy (yz (m*d))):=by
 have hi:=Qp hd
 have hka:=hk.h
 refine zs Tryz.func46 ?_;refine zg ?_;refine zo (zB rfl rfl (by decide) rfl (by simp) rfl rfl) ?_;refine zo (ze rfl rfl ((Kn (b:=[d]) (n:=d) (by simp;omega)).args ⟨fun _ _ h=>h,fun I v h=>zfC (l:=[d]) I v h,trivial⟩)) ?_;refine zg ?_
 exact zj zt
theorem zbH {l:List Nat} {n b:Nat} [hn:IsNat l n] (hl:l.length+20000≤cap):IterSpecH Tryz.prog G 90 [eqS (.pointer (some ⟨b,0,none⟩))] (plX n) [⟨some b,35,[zy l],0⟩] (fun _ H'=>H'=[]):=by
 have hbn:n<4294967296^l.length:=by rw [←hn.val];exact wn hn.lim
 have hi:=Qp (d:=1000000000) (by decide)
 refine VC Tryz.func90 rfl rfl rfl rfl fun l0 E hy=>?_;refine zg ?_;refine zo (ze rfl rfl (xV (by omega))) ?_;refine zg ?_;refine yX (fun k m=>⟨_,[(0,yieldS l0),(1,eqS (.pointer (some ⟨b,0,none⟩)))],[⟨some b,35,[zy (yz m)],0⟩],[],(k,false)⟩) (fun k m=>(Qk n).drop k=Qk m∧k≤(Qk n).length∧m<4294967296^l.length) (fun _ m=>m) 0 n ⟨List.drop_zero,Nat.zero_le _,hbn⟩ (yo zk) ?_
 rintro k m ⟨hdr,hk,hm⟩
 have hml:(yz m).length≤l.length:=zK hm
 refine zh ?_;refine zg ?_;refine zd (fun _ k12=>?_) fun _ k12=>?_
 ·have hm0:m≠0:=fun h=>by rw [h,dig_zero] at k12;simp at k12
  rw [Xv hm0] at hdr
  obtain⟨hg1,hg2,hg3⟩:=zkW hdr
  have hmx:m/1000000000<m:=Nat.div_lt_self (by omega) (by decide)
  refine zg ?_;refine zo (zB rfl rfl (by decide) rfl (by simp) rfl rfl) ?_;refine zo (ze rfl rfl ((Kw (b:=[1000000000]) (n:=1000000000) (by omega) (by unfold cap;simp)).args ⟨fun _ _ h=>h,fun I v h=>zfC (l:=[1000000000]) I v h,trivial⟩)) ?_;refine zg ?_;refine zf VH ?_;refine zz ?_;refine zo ((xo rfl rfl rfl).sub (zD (n:=((m%1000000000:Nat):Int)) (by have e:(if 1000000000=0 then 0 else m%1000000000)=m%1000000000:=if_neg (by decide);rw [e,if_pos (by omega)]))) ?_;(iterate 3 refine zz ?_);refine zJ ?_;refine zh ?_;refine zg ?_;refine Run.yield rfl hy rfl rfl rfl (show (plX n)[k]? =some [intS .u64 ((m%1000000000:Nat):Int)] by rw [plX,List.getElem?_map,hg1];rfl) (xi _) rfl rfl rfl fun y=>?_;refine zg ?_;refine wE (fun h28=>?_) fun h28=>?_
  ·refine zj ?_
   exact⟨.inl rfl,[],List.nil_sublist _,rfl,.inr (by simpa using h28)⟩
  ·refine zg ?_
   exact⟨k+1,m/1000000000,⟨hg2,by omega,by omega⟩,hmx,rfl,zb rfl (zb rfl (trivial)),xp _,rfl,by simp only;rw [h28]⟩
 ·have hm0:m=0:=by
   have h1:=yR (n:=m)
   omega
  rw [hm0,Zm] at hdr
  have hkl:=List.drop_eq_nil_iff.1 hdr
  refine zI ?_
  exact⟨.inr rfl,[],List.nil_sublist _,rfl,.inl (by rw [KW,show k=(Qk n).length by omega])⟩
theorem zdz {l:List Nat}:CallSpec Tryz.prog G 67 [zy l] [] (fun s H'=>∃ b,s=wp 90 [eqS (.pointer (some ⟨b,0,none⟩))]∧H'=[⟨some b,35,[zy l],0⟩]):=by
 refine zs Tryz.func67 ?_;refine zr ?_;refine Run.box rfl rfl rfl rfl rfl rfl fun b1=>?_;refine zg ?_;refine zj ?_
 exact⟨_,[_],.one (.tmp rfl),List.Sublist.refl _,b1,rfl,rfl⟩
theorem zaL [Tab10 G] {l:List Nat} {n k:Nat} [hn:IsNat l n] [hk:Sz l k] (hl:k+20000≤cap:=by decide):zp Tryz.prog G 45 [zy l] (xb (dec n)):=by
 have hkl:=hk.h
 have hbn:n<4294967296^l.length:=by rw [←hn.val];exact wn hn.lim
 have hpl:=zbz hbn
 unfold cap at hl
 refine zs Tryz.func45 ?_;refine zg ?_;refine xg fun b3=>?_;refine zw ?_;refine zJ ?_;refine zh ?_;refine zg ?_;refine Run.call0 rfl rfl rfl (zdz (l:=l)) rfl rfl rfl ?_
 rintro s1 H1 ⟨b7,rfl,rfl⟩
 refine zg ?_
 refine zeF (H0:=[⟨some b7,35,[zy l],0⟩]) (h1:=[⟨some b3,9,[xb []],0⟩]) rfl rfl (zbH (by unfold cap;omega)) (List.Perm.refl _) (fun ss h=>zoV h) (by decide) rfl
   (fun k h i=>i=(0,false)∧k≤(Qk n).length∧h=[⟨some b3,9,[xb (txt ((Qk n).take k))],0⟩])
   (fun _ _ _=>False) ⟨rfl,Nat.zero_le _,rfl⟩ ?_ ?_ ?_
 ·rintro l1 k ss h i hk1 ⟨rfl,hkn,rfl⟩
  obtain⟨m,hm,rfl⟩:=zm6 hk1
  have hklt:=yt hm
  have hm9:=zoW hm
  have hnd:Lib.nDigits m≤9:=wM (k:=8) hm9
  have htl:=KE ((Qk n).take k)
  rw [List.length_take] at htl
  refine zO ?_;refine zz ?_;refine zJ ?_
  refine⟨rfl,?_⟩
  refine zg ?_;refine zo (ze rfl rfl (zio (by omega))) ?_;refine zg ?_;refine Zu 8 (by kernel_rfl) ?_;refine zz ?_;refine zo ((Xt rfl rfl).sub (zD (n:=((Lib.nDigits m:Nat):Int)) (by rw [Jz]))) ?_;refine za ((9-Lib.nDigits m:Nat):Int) ?_;refine zo (ze rfl rfl (zdj (c:=9-Lib.nDigits m) (by omega) (by simp;omega))) ?_;refine zz ?_;refine zo ((vD rfl rfl rfl (by rw [Lib.repeatL_length,Jz];simp;omega)).sub (ze5 (zra hm9))) ?_;refine zz ?_;refine zo ((vD rfl rfl rfl (by rw [zay];omega)).sub (ze5 (zkH hm).symm)) ?_;refine zg ?_
  exact⟨rfl,by omega,rfl⟩
 ·rintro h H' i D ⟨rfl,_,rfl⟩ rfl
  rw [KW,List.take_length]
  have htl:=KE (Qk n)
  refine zh ?_;refine zg ?_;refine zo ((ze rfl rfl (qX (by decide))).sub (ze5 (zir n))) ?_;refine zg ?_;refine zo (Yd rfl rfl rfl rfl) ?_;refine zJ ?_;refine wE (fun h22=>?_) fun h22=>?_
  ·have hn0:n=0:=by
    refine Classical.byContradiction fun h0=>?_
    have h1:=beq_iff_eq.1 h22
    rw [if_neg h0] at h1
    exact zoX n h1
   refine zg ?_
   exact zj (zu (e:=by rw [hn0,show dec 0=[48] from zkK];rfl))
  ·have hn0:n≠0:=fun h0=>by rw [if_pos h0] at h22;exact absurd h22 (by decide)
   refine zg ?_
   exact zj (zu (e:=by rw [if_neg hn0]))
 ·intro h H' i j D e c hc hInv;exact hInv.elim
theorem KY {l:List UInt8}:zp Tryz.prog G 372 [xb l] (xn [zy (yz (pvD l)),intS .i64 (peD l)]):=by
 refine zs Tryz.func372 ?_;refine zr ?_;refine zo ((yS rfl rfl).sub WZ) ?_;refine zz ?_;refine zJ ?_;refine ut ?_;refine zh ?_;refine zr ?_;refine zz ?_
 refine Run.oneB (Yd rfl rfl rfl rfl) rfl rfl rfl (fun h1_1=>?_) (fun h1_1=>?_)
 ·have hb:=Xy (l:=l) (by rw [beq_iff_eq.1 h1_1];rfl)
  refine zg ?_;refine xt rfl rfl ?_;refine zr ?_;refine zo ((yS rfl rfl).sub WZ) ?_;refine zg ?_
  exact zj (zu (e:=by rw [hb.1,hb.2]))
 ·have hne:¬ l=[]:=beq_eq_false_iff_ne.1 h1_1
  refine zg ?_;refine zo (Xt rfl rfl) ?_;refine zg ?_;refine zd (fun _ k12=>?_) fun _ k12=>?_
  ·have hb:=Xy (l:=l) (by unfold UT;rw [show decide (l.length≤60)=false from decide_eq_false (by omega)];simp)
   refine zr ?_;refine zo ((yS rfl rfl).sub WZ) ?_;refine zg ?_
   exact zj (zu (e:=by rw [hb.1,hb.2]))
  ·refine zE ?_;refine zh ?_;refine us ?_;refine zh ?_;refine ze7 rfl rfl rfl rfl rfl rfl rfl rfl rfl fun r0=>?_;refine zQ ?_;refine yK (γ:=Nat) (fun k=>⟨_,[(14,eqS (.pointer (some ⟨r0,0,none⟩))),(3,intS .i64 0),(2,zy (yz (Ye (l.take k)))),(0,xb l)],[],[],(k,false)⟩) (fun k=>k≤l.length∧(l.take k).all isD=true) (fun k=>l.length-k) 0 ⟨Nat.zero_le _,rfl⟩ (yo zk) ?_
   rintro k ⟨hk,hall⟩
   refine zr ?_
   refine Run.nextZ rfl rfl rfl rfl rfl rfl (fun hk15 z w hzm hz=>?_) (fun hk15=>?_)
   ·refine zz ?_;refine zJ ?_;refine zh ?_;refine xt rfl rfl ?_;refine zE ?_;refine zQ ?_;refine zr ?_;(iterate 2 refine zz ?_);refine zJ ?_;refine zh ?_;refine zr ?_;refine zz ?_
    refine Run.oneB (zZ rfl rfl rfl rfl) rfl rfl rfl (fun h6_1=>?_) (fun h6_1=>?_)
    ·have k6_1:=of_decide_eq_true h6_1
     have hb:=Xy (zgP hk15 (zgQ hz (.inl (by omega))))
     refine zg ?_;refine xt rfl rfl ?_;refine zg ?_;refine zI ?_;refine zh ?_;refine zg ?_;refine xt rfl rfl ?_;refine zr ?_;refine zz ?_;refine zo ((yS rfl rfl).sub WZ) ?_;refine zg ?_
     exact zj (zu (e:=by rw [hb.1,hb.2]))
    ·have k6_1:=of_decide_eq_false h6_1
     refine zg ?_;refine zd (fun _ k23=>?_) fun _ k23=>?_
     ·have hb:=Xy (zgP hk15 (zgQ hz (.inr (by omega))))
      refine zg ?_;refine zI ?_;refine zh ?_;refine zg ?_;refine xt rfl rfl ?_;refine zr ?_;refine zz ?_;refine zo ((yS rfl rfl).sub WZ) ?_;refine zg ?_
      exact zj (zu (e:=by rw [hb.1,hb.2]))
     ·obtain⟨_,hzc,rfl⟩:z<128∧l[k].toNat=z∧w=1:=by rcases hz with h | h;exact h;omega
      have hlt:=Nat.lt_of_lt_of_le (zbA hall) (Nat.pow_le_pow_right (by decide) (show (l.take k).length≤59 by rw [List.length_take];omega))
      obtain⟨v,hv⟩:∃ v,v=Ye (l.take k):=⟨_,rfl⟩
      have hvt:=zaB hk15
      rw [←hv] at hlt hvt ⊢
      have i1:Bd v 7:=zbG (by omega)
      have i2:Bd (v*10) 7:=zbG (by omega)
      have i3:Bd (z-48) 1:=⟨by omega⟩
      refine zg ?_;refine zo (ze rfl rfl (KX (d:=10) (by decide))) ?_;refine zz ?_;refine zo (yA (z:=((z-48:Nat):Int)) rfl rfl rfl (congrArg some (by omega)) (zkV (by omega) (by omega))) ?_;refine zA ?_;refine zo (ze rfl rfl (Ue (by omega))) ?_;refine zo (zB rfl rfl (by decide) rfl (by simp) rfl rfl) ?_;refine zo (ze rfl rfl (YL (by decide))) ?_;refine zg ?_
      exact⟨k+1,⟨by omega,zkX hk15 hall (by omega) (by omega)⟩,by omega,rfl,zb rfl (zb rfl (xk rfl (congrArg (fun x=>zy (yz x)) (by rw [hvt,hzc])) (zb rfl trivial))),xp _,rfl,rfl⟩
   ·obtain rfl:k=l.length:=by omega
    rw [List.take_length] at hall ⊢
    have hb:=zkY (zoZ hne (by omega) hall)
    refine zz ?_;refine zJ ?_;refine zh ?_;refine yM rfl rfl ?_;refine zI ?_;refine zh ?_;refine zg ?_;refine yM rfl rfl ?_;refine zg ?_
    exact zj (zu (e:=by rw [hb.1,hb.2]))
theorem zaa {l:List UInt8}:zp Tryz.prog G 370 [xb l] (xn [zl [zm (Lib.hasPrefix l [45]&&decide (0<pvD (Lib.trimPrefix l [45]))),zy (yz (pvD (Lib.trimPrefix l [45])))],intS .i64 (peD (Lib.trimPrefix l [45]))]):=by
 refine zs Tryz.func370 ?_;refine zr ?_;refine xg fun b2=>?_;refine zg ?_;refine zf KC ?_;(iterate 5 refine zz ?_);refine zJ ?_;refine zh ?_;refine zg ?_;refine zf KY ?_;refine zg ?_;refine zd (fun _ k18=>?_) fun _ k18=>?_
 ·have hb:=Xy (zfD k18)
  refine zr ?_;refine zo ((yW rfl rfl rfl).sub zoY) ?_;refine zg ?_
  exact zj (zu (e:=by rw [hb.2,hb.1,show (Lib.hasPrefix l [45]&&decide (0<0))=false by simp];rfl))
 ·refine zE ?_;refine zr ?_
  refine Run.oneB (zG rfl rfl) rfl rfl rfl (fun h5_0=>?_) (fun h5_0=>?_)
  ·refine zz ?_;(iterate 3 refine zz ?_)
   refine zo ((zZ rfl rfl rfl rfl).sub (yx (c:=decide (0<pvD (Lib.trimPrefix l [45]))) (decide_eq_decide.2 (by have:=yR (n:=pvD (Lib.trimPrefix l [45]));omega)))) ?_
   refine zg ?_
   exact zj (zu (e:=by rw [h5_0,k18];rfl))
  ·refine zg ?_
   exact zj (zu (e:=by rw [h5_0,k18];rfl))
end Go.Proofs
namespace Go.Proofs
open Go Go.Sv Num
variable {G:Imm}
instance isNat_bas:IsNat [0,1] 4294967296:=⟨um (by decide) (um (by decide) vB),rfl⟩
instance sz_bas:Sz [0,1] 2:=⟨by decide⟩
end Go.Proofs
namespace Num
open Go Go.Lib
end Num
namespace Go.Proofs
open Go Go.Sv Num
variable {G:Imm}
end Go.Proofs
namespace Num
open Go Go.Lib
def Jn (ws:List (List UInt8)):Bool:=ws.all fun w=> !w.isEmpty
theorem zk0 {ws:List (List UInt8)} {k:Nat} {w:List UInt8} (h:ws[k]? =some w) (hf:Jn (ws.take k)=true) (hw:w≠[]):Jn (ws.take (k+1))=true:=by
 unfold Jn at hf ⊢
 rw [List.take_add_one,h,List.all_append,hf]
 cases w with
 | nil=>exact absurd rfl hw
 | cons x r=>rfl
theorem zm8 {ws:List (List UInt8)} {k:Nat} (h:ws[k]? =some []):Jn ws=false:=List.all_eq_false.2 ⟨[],List.mem_of_getElem? h,by decide⟩
theorem zbI (c:UInt8) (s:List UInt8):(uw c s).length≤s.length+1:=by
  induction s with
  | nil=>simp [uw]
  | cons x r ih=>
    unfold uw
    split
    · simpa using ih
    · split
      · simp
      · rename_i h;rw [h] at ih;simp at ih ⊢;omega
theorem ziE (c:UInt8) (r:List UInt8):∃ p r2 m,cut r [c]=(p,r2,m)∧(m=false∧uw c r=[p]∨m=true∧uw c r=p::uw c r2∧r2.length<r.length):=by
 rcases ziu c r with h | ⟨p,q,rfl,h⟩
 ·exact⟨_,_,_,zdo h,.inl ⟨rfl,zkP h⟩⟩
 ·exact⟨_,_,_,zgJ q h,.inr ⟨rfl,zm0 q h,by simp;omega⟩⟩
theorem VM {ws:List (List UInt8)} (h:Jn ws=true):(ws.takeWhile fun w=> !w.isEmpty)=ws:=by
  induction ws with
  | nil=>rfl
  | cons w ws ih=>
    have h1:(!w.isEmpty)=true∧Jn ws=true:=by unfold Jn at h ⊢;rw [List.all_cons,Bool.and_eq_true] at h;exact h
    rw [List.takeWhile_cons,if_pos h1.1,ih h1.2]
theorem zo0 {ws:List (List UInt8)} {k:Nat} (h:ws[k]? =some []) (hf:Jn (ws.take k)=true):(ws.takeWhile fun w=> !w.isEmpty)=ws.take k:=by
 obtain⟨hk,he⟩:=List.getElem?_eq_some_iff.1 h
 have h1:ws=ws.take k++[]::ws.drop (k+1):=by
  rw [←he,←List.drop_eq_getElem_cons hk,List.take_append_drop]
 have h2:=VM hf
 generalize ws.take k=v at h1 h2 hf
 rw [h1,List.takeWhile_append_of_pos fun w hw=>List.all_eq_true.1 hf w hw]
 simp
theorem zo1 (ws:List (List UInt8)):(ws.takeWhile fun w=> !w.isEmpty).length≤ws.length:=(List.takeWhile_sublist _).length_le
theorem zfE (s:List UInt8) (c:UInt8):(trimSuffix s [c]).length≤s.length:=by
 unfold trimSuffix
 split
 ·rw [List.length_take];omega
 ·exact Nat.le_refl _
def vr (s:List UInt8):Bool:=hasSuffix s [10]&&Jn (uw 10 (trimSuffix s [10]))
end Num
namespace Go.Proofs
open Go Go.Sv Num
variable {G:Imm}
theorem zo2 {ws:List (List UInt8)} {ss:List SV} (h:ss∈ws.map tC):ss.length=1:=by
 obtain⟨w,_,rfl⟩:=List.mem_map.1 h
 rfl
theorem zo3 {ws:List (List UInt8)} {k:Nat} {ss:List SV} (h:(ws.map tC)[k]? =some ss):∃ w,ws[k]? =some w∧ss=[xb w]:=by
 rw [List.getElem?_map,Option.map_eq_some_iff] at h
 obtain⟨w,h1,rfl⟩:=h
 exact⟨w,h1,rfl⟩
theorem zbJ {l:List (List UInt8)} (h:l=[]) (I:Imm) (v:Value) (hv:(eqS (.slice none 0 0)).den I v):(zU 1 tC l).den I v:=by rw [show v= .slice none 0 0 from hv,h];exact Wi
theorem zbK [MaxLen G] {s:List UInt8} {c:UInt8} {b:Nat} (hs:s.length≤1000000000):IterSpecH Tryz.prog G 307 [eqS (.pointer (some ⟨b,0,none⟩)),zT [xb [c]]] ((uw c s).map tC) [⟨some b,9,[xb s],0⟩] (fun _ H'=>H'=[]):=by
  refine VC Tryz.func307 rfl rfl rfl rfl fun l0 E hy=>?_;refine zQ ?_;refine yX (fun k r=>⟨_,[(0,yieldS l0),(1,eqS (.pointer (some ⟨b,0,none⟩))),(2,zT [xb [c]])],[⟨some b,9,[xb r],0⟩],[],(k,false)⟩) (fun k r=>(uw c s).drop k=uw c r∧r.length≤s.length) (fun _ r=>r.length) 0 s ⟨List.drop_zero,Nat.le_refl _⟩ (yo zk) ?_
  rintro k r ⟨hdr,hrl⟩
  obtain⟨p,r2,m,hcut,hm⟩:=ziE c r
  have hcs:=zdp (G:=G) (l:=r) (m:=[c]) (by omega)
  rw [hcut] at hcs
  have hk:(uw c s)[k]? =some p:=by rw [←List.head?_drop,hdr];rcases hm with ⟨_,h⟩ | ⟨_,h,_⟩ <;> rw [h] <;> rfl
  refine zg ?_;refine zf hcs ?_;(iterate 7 refine zz ?_);refine zJ ?_;refine zh ?_;refine zg ?_;refine Run.yield rfl hy rfl rfl rfl (show ((uw c s).map tC)[k]? =some [xb p] by rw [List.getElem?_map,hk];rfl) (xi _) rfl rfl rfl fun y=>?_
  refine Run.oneB (ZU rfl rfl) rfl rfl rfl (fun h1_3=>?_) (fun h1_3=>?_)
  · refine zg ?_;refine xt rfl rfl ?_;refine zj ?_
    exact⟨.inl rfl,[],List.nil_sublist _,rfl,.inr (by simpa using h1_3)⟩
  · refine zg ?_;refine wE (fun h21=>?_) fun h21=>?_
    · refine zj ?_
      exact ⟨.inl rfl, [], List.nil_sublist _, rfl, .inl (by have h1 := hm.resolve_right fun h => by rw [h.1] at h21; simp at h21
                                                             rw [h1.2] at hdr;have h2:=congrArg List.length hdr;rw [List.length_drop] at h2;simp only [List.length_map,List.length_singleton] at h2 ⊢;rw [show y=true by simpa using h1_3,show k+1=(uw c s).length by omega];rfl)⟩
    · refine zE ?_;refine zO ?_;refine zz ?_;refine zw ?_;refine zJ ?_
      have h1:=hm.resolve_left fun h=>by rw [h.1] at h21;simp at h21
      exact⟨k+1,r2,⟨by rw [←List.drop_drop,hdr,h1.2.1];rfl,by omega⟩,h1.2.2,rfl,zb rfl (zb rfl (zb rfl (trivial))),xp _,rfl,by simp only;rw [show y=true by simpa using h1_3];rfl⟩
theorem Jc {s:List UInt8} {c:UInt8}:CallSpec Tryz.prog G 252 [xb s,xb [c]] [] (fun v H'=>∃ b,v=wp 307 [eqS (.pointer (some ⟨b,0,none⟩)),zT [xb [c]]]∧H'=[⟨some b,9,[xb s],0⟩]):=by
 refine zs Tryz.func252 ?_;refine zr ?_;refine Run.box rfl rfl rfl rfl rfl rfl fun b1=>?_;refine zg ?_;refine zj ?_
 exact⟨_,[_],.one (.tmp rfl),List.Sublist.refl _,b1,rfl,rfl⟩
theorem zaM [MaxLen G] {s:List UInt8} {c:UInt8} {b:Nat} (hs:s.length≤1000000000):CallSpec Tryz.prog G 251 [wp 307 [eqS (.pointer (some ⟨b,0,none⟩)),zT [xb [c]]]] [⟨some b,9,[xb s],0⟩] (fun v H'=>v=xn [zU 1 tC ((uw c s).takeWhile fun w=> !w.isEmpty),zm (Jn (uw c s))]∧H'=[]):=by
 have hll:=zbI c s
 refine zs Tryz.func251 ?_;refine zr ?_;refine xg fun b2=>?_;refine xg fun b3=>?_;refine zJ ?_;refine ut ?_;refine zr ?_;refine zw ?_;refine zJ ?_;refine zh ?_;refine us ?_;refine xS (K:=fun S1=>∃ q D,yu q ((uw c s).takeWhile fun w=> !w.isEmpty).length∧Ent S1 ⟨17,[(3,eqS (.pointer (some ⟨b3,0,none⟩))),(2,eqS (.pointer (some ⟨b2,0,none⟩)))],[rowE q 9 1 ((uw c s).takeWhile fun w=> !w.isEmpty).length (((uw c s).takeWhile fun w=> !w.isEmpty).flatMap tC),⟨some b3,4,[zm (Jn (uw c s))],0⟩,⟨some b2,71,[eqS (rowV q ((uw c s).takeWhile fun w=> !w.isEmpty).length)],0⟩],D,(0,false)⟩) ?_ ?_
 ·refine zP (yL 9 1) ?_;refine zg ?_
  refine zeF (H0:=[⟨some b,9,[xb s],0⟩]) (h1:=[rowE none 9 1 0 (([]:List (List UInt8)).flatMap tC),⟨some b3,4,[zm true],0⟩,⟨some b2,71,[eqS (rowV none 0)],0⟩]) rfl rfl (zbK hs) (List.perm_append_comm (l₁:=[_,_,_]) (l₂:=[_])) (fun ss h=>zo2 h) (by decide) rfl
    (fun k h i=>i=(0,false)∧∃ q,yu q k∧k≤(uw c s).length∧Jn ((uw c s).take k)=true∧h=[rowE q 9 1 k (((uw c s).take k).flatMap tC),⟨some b3,4,[zm true],0⟩,⟨some b2,71,[eqS (rowV q k)],0⟩])
    (fun e h i=>e= .exit 0∧i=(0,false)∧∃ q k,yu q k∧(uw c s)[k]? =some []∧Jn ((uw c s).take k)=true∧h=[rowE q 9 1 k (((uw c s).take k).flatMap tC),⟨some b3,4,[zm false],0⟩,⟨some b2,71,[eqS (rowV q k)],0⟩]) ⟨rfl,none,rfl,Nat.zero_le _,rfl,rfl⟩ ?_ ?_ ?_
  ·rintro l1 k ss h i hk1 ⟨rfl,q,hq,hkn,hfl,rfl⟩
   obtain⟨w,hw,rfl⟩:=zo3 hk1
   have hklt:=yt hw
   refine zO ?_;refine zz ?_;refine zJ ?_
   refine⟨rfl,?_⟩
   refine zQ ?_;refine zh ?_;refine zg ?_;refine zo (Yd rfl rfl rfl rfl) ?_;refine zg ?_;refine wE (fun h10=>?_) fun h10=>?_
   ·have hwe:w=[]:=by simpa using h10
    rw [hwe] at hw
    refine zI ?_
    exact⟨rfl,rfl,q,k,hq,hw,hfl,by rw [hwe];rfl⟩
   ·have hwe:w≠[]:=by simpa using h10
    have hwt:(!w==[])=true:=by simpa using hwe
    refine zg ?_;refine zo (zB rfl rfl (by decide) rfl (by simp) rfl rfl) ?_;refine Run.append 0 rfl rfl rfl rfl rfl rfl rfl rfl hq (by rw [zgK,List.length_take];omega) (fun z hz=>by rw [List.mem_singleton.1 hz];rfl) (by unfold yP;simp;omega) (by unfold yP;simp;omega) fun q14 hq14=>?_;refine zg ?_
    exact⟨rfl,q14,hq14,by omega,zk0 hw hfl hwe,by rw [List.take_add_one,hw,List.flatMap_append,hwt];rfl⟩
  ·rintro h H' i D ⟨rfl,q,hq,_,hfl,rfl⟩ rfl
   rw [List.length_map] at hq hfl ⊢
   rw [List.take_length] at hfl ⊢
   have hW:=VM hfl
   rw [hfl]
   exact⟨q,_,by rw [hW];exact hq,by rw [hW];exact zL (zb rfl (zb rfl trivial)) rfl⟩
  ·rintro h H' i j D e c2 hc2 ⟨rfl,rfl,q,k,hq,hw,hfl,rfl⟩ rfl
   have hW:=zo0 hw hfl
   have hbad:=zm8 hw
   have hlk:((uw c s).take k).length=k:=by rw [List.length_take];have:=yt hw;omega
   show ∃q D,_
   exact⟨q,_,by rw [hW,hlk];exact hq,by rw [hW,hlk,hbad];exact zL (zb rfl (zb rfl trivial)) rfl⟩
 ·rintro S1 ⟨q,D,hq,hS1⟩
  refine wG hS1 ?_;refine zP (uZ [] [_] [] hq (l:=((uw c s).takeWhile fun w=> !w.isEmpty)) (f:=tC) rfl rfl (fun _ _=>rfl) (by have:=zo1 (uw c s);unfold yP;omega)) ?_;refine wH 4 [2,3] _ (by kernel_rfl) (.cons_cons _ (.cons _ .slnil)) ?_;refine RunE.one (yn 1 rfl rfl rfl rfl) rfl rfl rfl (by kernel_rfl) ?_;refine RunE.lat (yn 0 rfl rfl rfl rfl) rfl rfl rfl ?_
  refine RunE.nil ⟨_,rfl,?_⟩
  refine .loc1n 1 (xI rfl rfl rfl rfl (by first | decide | (simp;done) | (simp;omega))) rfl rfl rfl ?_
  rintro s1 H1 ⟨rfl,rfl⟩
  refine⟨(.cons_cons _ (.cons _ .slnil)),?_⟩
  refine RunE.nil ⟨_,rfl,?_⟩
  refine .loc1n 0 (xI rfl rfl rfl rfl (by first | decide | (simp;done) | (simp;omega))) rfl rfl rfl ?_
  rintro s1 H1 ⟨rfl,rfl⟩
  refine⟨(.cons_cons _ (.cons _ .slnil)),?_⟩
  refine RunE.nil ?_;refine zJ ?_
  exact zj zt
theorem zfF [MaxLen G] {s:List UInt8} (hs:s.length≤1000000000):zp Tryz.prog G 253 [xb s] (xn [zU 1 tC (if Jn (uw 32 s) then uw 32 s else []),intS .i64 (if Jn (uw 32 s) then 0 else 110)]):=by
 refine zs Tryz.func253 ?_;refine zr ?_;(iterate 2 refine zz ?_);refine zJ ?_;refine zh ?_;refine zg ?_;refine Run.call0 rfl rfl rfl (Jc (s:=s) (c:=32)) rfl rfl rfl ?_
 rintro s1 H1 ⟨b8,rfl,rfl⟩
 refine Run.callH [] _ [] rfl rfl rfl rfl (zaM hs) rfl rfl rfl ?_
 rintro s2 H2 ⟨rfl,rfl⟩
 refine zg ?_;refine wE (fun h12=>?_) fun h12=>?_
 ·have hf:Jn (uw 32 s)=true:=by simpa using h12
  refine zg ?_
  exact zj (zu (e:=by rw [VM hf,if_pos hf,if_pos hf]))
 ·have hf:Jn (uw 32 s)=false:=by simpa using h12
  refine zE ?_;refine zr ?_;refine zo ((yS rfl rfl).sub (zbJ (l:=if Jn (uw 32 s) then uw 32 s else []) (by rw [hf];rfl))) ?_;refine zg ?_
  exact zj (zu (e:=by rw [hf];rfl))
theorem zfG [MaxLen G] {s:List UInt8} (hs:s.length≤1000000000):zp Tryz.prog G 205 [xb s] (xn [zU 1 tC (if vr s then uw 10 (Lib.trimSuffix s [10]) else []),intS .i64 (if s=[]∨vr s=true then 0 else 110)]):=by
 refine zs Tryz.func205 ?_;refine zr ?_;(iterate 2 refine zz ?_);refine zJ ?_;refine zh ?_;refine zg ?_;refine zo (Yd rfl rfl rfl rfl) ?_;refine zJ ?_;refine wE (fun h9=>?_) fun h9=>?_
 ·have hs0:s=[]:=by simpa using h9
  refine zr ?_;refine zo ((yS rfl rfl).sub (zbJ (l:=if vr s then uw 10 (Lib.trimSuffix s [10]) else []) (by rw [hs0];rfl))) ?_;refine zg ?_
  exact zj (zu (e:=by rw [if_pos (Or.inl hs0)]))
 ·have hs0:s≠[]:=by simpa using h9
  refine zg ?_;refine zo (ze rfl rfl (KF (by omega))) ?_;(iterate 5 refine zz ?_)
  have hts:=zfE s 10
  refine zJ ?_;refine zh ?_;refine zg ?_;refine Run.call0 rfl rfl rfl (Jc (s:=Lib.trimSuffix s [10]) (c:=10)) rfl rfl rfl ?_
  rintro s1 H1 ⟨b17,rfl,rfl⟩
  refine Run.callH [] _ [] rfl rfl rfl rfl (zaM (by omega)) rfl rfl rfl ?_
  rintro s2 H2 ⟨rfl,rfl⟩
  (iterate 5 refine zz ?_);refine zx ?_
  refine Run.oneB (zG rfl rfl) rfl rfl rfl (fun h5_0=>?_) (fun h5_0=>?_)
  ·refine zz ?_;refine zz ?_;refine zo ((wg rfl rfl rfl).sub (yx (c:=vr s) (by unfold vr;rw [show Jn _=_ from h5_0];simp))) ?_;refine zJ ?_;refine wE (fun h24=>?_) fun h24=>?_
   ·have hok:vr s=true:=h24
    have hf:Jn (uw 10 (Lib.trimSuffix s [10]))=true:=by unfold vr at hok;rw [Bool.and_eq_true] at hok;exact hok.2
    refine zg ?_
    exact zj (zu (e:=by first | (rw [VM hf,if_pos hok,if_pos (Or.inr hok)]) | (rw [if_neg (show ¬(s=[]∨vr s=true) by rw [hbad];simp [hs0])])))
   ·have hbad:vr s=false:=h24
    refine zE ?_;refine zr ?_;refine zo ((yS rfl rfl).sub (zbJ (l:=if vr s then uw 10 (Lib.trimSuffix s [10]) else []) (by rw [hbad];rfl))) ?_;refine zg ?_
    exact zj (zu (e:=by first | (rw [VM hf,if_pos hok,if_pos (Or.inr hok)]) | (rw [if_neg (show ¬(s=[]∨vr s=true) by rw [hbad];simp [hs0])])))
  ·refine zz ?_;refine zq ?_;refine zo ((wg rfl rfl rfl).sub (yx (c:=vr s) (by unfold vr;rw [show Jn _=_ from h5_0];simp))) ?_;refine zJ ?_;refine wE (fun h24=>?_) fun h24=>?_
   ·have hok:vr s=true:=h24
    have hf:Jn (uw 10 (Lib.trimSuffix s [10]))=true:=by unfold vr at hok;rw [Bool.and_eq_true] at hok;exact hok.2
    refine zg ?_
    exact zj (zu (e:=by first | (rw [VM hf,if_pos hok,if_pos (Or.inr hok)]) | (rw [if_neg (show ¬(s=[]∨vr s=true) by rw [hbad];simp [hs0])])))
   ·have hbad:vr s=false:=h24
    refine zE ?_;refine zr ?_;refine zo ((yS rfl rfl).sub (zbJ (l:=if vr s then uw 10 (Lib.trimSuffix s [10]) else []) (by rw [hbad];rfl))) ?_;refine zg ?_
    exact zj (zu (e:=by first | (rw [VM hf,if_pos hok,if_pos (Or.inr hok)]) | (rw [if_neg (show ¬(s=[]∨vr s=true) by rw [hbad];simp [hs0])])))
end Go.Proofs
namespace Num
open Go Go.Lib
def wv (s:List UInt8):Rat×Int×Int:=Wp (cut s [47]).1 (cut s [47]).2.1 (cut s [47]).2.2
theorem ziF {a b:List UInt8} {m:Bool} (h:UT (trimPrefix a [45])=false):Wp a b m=(0,0,60):=by unfold Wp;simp only [h];rfl
theorem ziG {a b:List UInt8} (h:UT b=false):Wp a b true=(0,0,60):=by
 unfold Wp
 simp only [h]
 split <;> rfl
theorem zk1 {a b:List UInt8} (h:UT (trimPrefix a [45])=true):Wp a b false=(mkRat (zn (hasPrefix a [45]) (pvD (trimPrefix a [45]))) 1,(((trimPrefix a [45]).length:Nat):Int),0):=by
 unfold Wp pvD
 simp only [h]
 rfl
theorem zk2 {a b:List UInt8} (h:UT (trimPrefix a [45])=true) (h2:UT b=true):Wp a b true=(mkRat (zn (hasPrefix a [45]) (pvD (trimPrefix a [45]))) (pvD b),((max (trimPrefix a [45]).length b.length:Nat):Int),if pvD b=0 then 30 else 0):=by
 unfold Wp pvD
 simp only [h,h2]
 by_cases hz:Ye b=0
 ·simp [hz,Rat.mkRat_zero]
 ·simp [hz]
theorem zo4 (b:Bool) (v:Nat):uj (b&&decide (0<v)) v=zn b v:=by
 unfold uj zn
 cases b
 ·rfl
 ·by_cases h:0<v
  ·rw [decide_eq_true h];rfl
  ·have:v=0:=by omega
   subst this;rfl
theorem zgR {c:UInt8} {s p:List UInt8} (h:p∈uw c s):p.length≤s.length:=by
  induction s generalizing p with
  | nil=>simp [uw] at h;rw [h];exact Nat.le_refl _
  | cons x r ih=>
    unfold uw at h
    split at h
    · rcases List.mem_cons.1 h with rfl | h
      · simp
      · exact Nat.le_succ_of_le (ih h)
    · cases hs:uw c r with
      | nil=>exact absurd hs (zfd _ _)
      | cons q qs=>
        rw [hs] at h ih
        rcases List.mem_cons.1 h with rfl | h
        · exact Nat.succ_le_succ (ih (List.mem_cons_self ..))
        · exact Nat.le_succ_of_le (ih (List.mem_cons_of_mem _ h))
end Num
namespace Go.Proofs
open Go Go.Sv Num
variable {G:Imm}
theorem zaN {l:List UInt8} (h:peD l=0):UT l=true:=by
 cases ho:UT l with
 | true=>rfl
 | false=>rw [(Xy ho).1] at h;exact absurd h (by decide)
theorem zbL {n k:Nat} (hbn:n<4294967296^k) (hk:k≤1000):(dec n).length≤20000:=by
  rw [Jz]
  have h1:=zbz hbn
  have h2:=zkI n
  obtain⟨q,hq⟩:∃ q,q=9*(Qk n).length:=⟨_,rfl⟩
  rw [←hq] at h2
  cases q with
  | zero => have : n = 0 := by simpa using h2
            rw [this,Lib.nDigits_small (by decide)];decide
  | succ q=>have:=wM h2;omega
instance isZ_parse {b:Bool} {v k:Nat} [h:Bd v k]:IsZ (b&&decide (0<v)) (yz v) (zn b v) k:=⟨xe _,by rw [xq,zo4],zK h.h⟩
theorem zaO [Tab G] {b:Bool} {l d:List Nat} {z:Int} {n k j:Nat} [h:IsZ b l z k] [hd:IsNat d n] [hk:Sz d j] (hs:2*(k+j+1)+11000≤cap:=by decide):zp Tryz.prog G 373 [zl [zm b,zy l],zy d] (xn [zl (zR (mkRat z n)),intS .i64 (if n=0 then 30 else 0)]):=by
 have iq:IsQ b l d (mkRat z n) (k+j+1):=⟨h.lim,hd.lim,by rw [h.val,hd.val],by have:=h.len;omega,by have:=hk.h;omega,by omega⟩
 have hdv:=hd.val
 refine zs Tryz.func373 ?_;refine zg ?_;refine xg fun b4=>?_;refine zz ?_;refine zx ?_;(iterate 4 refine zz ?_);refine Run.box rfl rfl rfl rfl rfl rfl fun b11=>?_;refine zz ?_;refine zJ ?_;refine zh ?_;refine zg ?_;refine Run.callH [] _ [_] rfl rfl rfl rfl (Yg (q:=mkRat z n) hs) rfl rfl rfl ?_
 rintro s1 H1 ⟨rfl,rfl⟩
 rw [hdv]
 refine zg ?_;refine wE (fun h14=>?_) fun h14=>?_
 ·have hn0:n=0:=by simpa using h14
  refine zg ?_
  exact zj (zu (e:=by rw [if_pos hn0];rfl))
 ·have hn0:n≠0:=by simpa using h14
  refine zg ?_
  exact zj (zu (e:=by rw [if_neg hn0];rfl))
theorem zdA [Tab G] [MaxLen G] {s:List UInt8} (hs:s.length≤1000000000):zp Tryz.prog G 309 [xb s] (xn [zl (zR (wv s).1),intS .i64 (wv s).2.1,intS .i64 (wv s).2.2]):=by
 obtain⟨a,b,m,hcut⟩:∃ a b m,Lib.cut s [47]=(a,b,m):=⟨_,_,_,rfl⟩
 have hcs:=zdp (G:=G) (l:=s) (m:=[47]) (by omega)
 have hn3:wv s=Wp a b m:=by unfold wv;rw [hcut]
 rw [hcut] at hcs
 dsimp only at hcs
 obtain⟨tl,htl⟩:∃ tl,tl=Lib.trimPrefix a [45]:=⟨_,rfl⟩
 have i1:Bd (pvD tl) 7:=zbG (zkZ tl)
 have i2:Bd (pvD b) 7:=zbG (zkZ b)
 have i3:=Qp (d:=1) (by decide)
 have hps:=zaa (G:=G) (l:=a)
 have htp:=Jm (G:=G) (l:=a) (m:=[45])
 rw [←htl] at hps htp
 refine zs Tryz.func309 ?_;refine zr ?_;refine xg fun b2=>?_;refine zg ?_;refine zf hcs ?_;refine zg ?_;refine zf hps ?_;refine zg ?_;refine xg fun b8=>?_;refine zw ?_;refine zz ?_;refine zJ ?_;refine zh ?_;refine zg ?_;refine zd (fun _ k22=>?_) fun _ k22=>?_
 ·have hb:=zfD k22
  rw [htl] at hb
  refine zr ?_;refine zo (ze rfl rfl (Zo (n:=0) (q:=0) (by decide) (by decide))) ?_;refine zg ?_
  exact zj (zu (e:=by rw [hn3,ziF hb];rfl))
 ·have hok:=zaN k22
  rw [htl] at hok
  refine zg ?_;refine zf htp ?_;refine zo (Xt rfl rfl) ?_;refine zg ?_;refine zo (zB rfl rfl (by decide) rfl (by simp) rfl rfl) ?_;refine zz ?_;refine zJ ?_;refine zh ?_;refine zg ?_;refine wE (fun h28=>?_) fun h28=>?_
  ·obtain rfl:m=true:=h28
   refine zh ?_;refine zg ?_;refine zf KY ?_;refine zg ?_;refine zd (fun _ k35=>?_) fun _ k35=>?_
   ·have hb2:=zfD k35
    refine zr ?_;refine zo (ze rfl rfl (Zo (n:=0) (q:=0) (by decide) (by decide))) ?_;refine zg ?_
    exact zj (zu (e:=by rw [hn3,ziG hb2];rfl))
   ·have hok2:=zaN k35
    refine zg ?_;refine zo (Xt rfl rfl) ?_;refine zo ((YC rfl rfl rfl).sub (zD (n:=((max tl.length b.length:Nat):Int)) (by omega))) ?_;refine zg ?_;refine zo (ze rfl rfl (zaO (by decide))) ?_;refine zg ?_
    exact zj (zu (e:=by rw [hn3,zk2 hok hok2,←htl];rfl))
  ·obtain rfl:m=false:=h28
   refine zg ?_;refine zo (ze rfl rfl ((zaO (d:=[1]) (n:=1) (j:=1) (by decide)).args ⟨fun _ _ h=>h,fun I v h=>zfC (l:=[1]) I v h,trivial⟩)) ?_;refine zg ?_
   exact zj (zu (e:=by rw [hn3,zk1 hok,←htl];rfl))
end Go.Proofs
namespace Go.Proofs
open Go Go.Sv Num
variable {G:Imm}
abbrev uV (p:Rat×Rat):(Bool×List Nat×List Nat)×(Bool×List Nat×List Nat):=((decide (p.1.num<0),yz p.1.num.natAbs,yz p.1.den),(decide (p.2.num<0),yz p.2.num.natAbs,yz p.2.den))
theorem wW (p:Rat×Rat):pv (uV p)=p:=by
 have h:∀ q:Rat,qv (decide (q.num<0),yz q.num.natAbs,yz q.den)=q:=fun q=>by
  show mkRat (uj _ (val _)) (val _)=q
  rw [xq,xq,va,Rat.mkRat_self]
 show (qv _,qv _)=p
 rw [h,h]
theorem zo5 {l:List (Rat×Rat)} {I:Imm} {v:Value} (h:(zU 6 yy l).den I v):(zU 6 pc (l.map uV)).den I v:=by
 obtain⟨a,cap,hv,h1,h2,h3⟩:=h
 refine⟨a,cap,by rw [List.length_map];exact hv,by rw [List.length_map];exact h1,by rw [List.length_map];exact h2,?_⟩
 rcases h3 with h3 | ⟨b,o,ha,h4⟩
 ·exact .inl (by rw [h3];rfl)
 ·refine .inr ⟨b,o,ha,fun i x hx=>?_⟩
  rw [List.getElem?_map,Option.map_eq_some_iff] at hx
  obtain⟨p,hp,rfl⟩:=hx
  exact h4 i p hp
theorem zk3 {p:Rat×Rat} {k:Nat} (h1:Bq p.1 k) (h2:Bq p.2 k):xQ k (uV p):=⟨⟨xe _,xe _,h1.lens.1,h1.lens.2⟩,xe _,xe _,h2.lens.1,h2.lens.2⟩
theorem zo6 [Tab G] {ps:List ((Bool×List Nat×List Nat)×(Bool×List Nat×List Nat))} {k:Nat} (hk:0<k) (hl:∀ p∈ps,xQ k p) (hs:2*k+11000≤cap) (hxl:ps.length≤cap):zp Tryz.prog G 55 [zU 6 id (ps.map pc)] (zU 6 yy (ps.map pv)):=
 (vE hk hl hs hxl).args ⟨fun _ _ h=>ZG (f:=pc) ps h,trivial⟩
end Go.Proofs
namespace Go.Proofs
open Go Go.Sv Num
variable {G:Imm}
def Uv (x1 y1 x2 y2 x3 y3:Rat):Rat:=(x2-x1)*(y3-y1)-(y2-y1)*(x3-x1)
abbrev btw (a b r:Rat):Prop:=(a≤r∧r≤b)∨(b≤r∧r≤a)
abbrev onP (x1 y1 x2 y2 x3 y3:Rat):Prop:=Uv x1 y1 x2 y2 x3 y3=0∧btw x1 x2 x3∧btw y1 y2 y3
theorem zk4 (x1 y1 x2 y2 x3 y3:Rat):Uv x2 y2 x1 y1 x3 y3= -Uv x1 y1 x2 y2 x3 y3:=by unfold Uv;grind
theorem Uw (x1 y1 x3 y3:Rat):Uv x1 y1 x1 y1 x3 y3=0:=by unfold Uv;grind
theorem zm9 (x1 y1 x2 y2:Rat):Uv x1 y1 x2 y2 x2 y2=0:=by unfold Uv;grind
theorem zk5 (x1 y1 x2 y2:Rat):Uv x1 y1 x2 y2 x1 y1=0:=by unfold Uv;grind
theorem zfH (x1 y1 x2 y2 t:Rat):Uv x1 y1 x2 y2 (x1+(x2-x1)*t) (y1+(y2-y1)*t)=0:=by unfold Uv;grind
theorem zdC (a b r:Rat):btw b a r↔btw a b r:=Or.comm
theorem zk6 (x1 y1 x2 y2 x3 y3:Rat):onP x2 y2 x1 y1 x3 y3↔onP x1 y1 x2 y2 x3 y3:=by
 unfold onP;rw [zk4,zdC x1,zdC y1]
 constructor <;> rintro⟨h,h'⟩ <;> exact⟨by grind,h'⟩
theorem zk7 {a b t:Rat}:btw a b (a+(b-a)*t)↔a=b∨(0≤t∧t≤1):=by
 obtain⟨w,hw⟩:∃ w,w=b-a:=⟨_,rfl⟩
 have hb:b=a+w:=by grind
 rw [←hw,hb]
 obtain⟨z,hz⟩:∃ z,z=w*t:=⟨_,rfl⟩
 rw [←hz]
 constructor
 ·intro h
  by_cases h0:w=0
  ·left;rw [h0];grind
  ·right
   by_cases hn:w<0
   ·have g1:z≤0∧w≤z:=by unfold btw at h;grind
    constructor
    ·refine Rat.not_lt.1 fun ht=>?_
     have:=Rat.mul_pos (show 0< -w by grind) (show 0< -t by grind)
     grind
    ·refine Rat.not_lt.1 fun ht=>?_
     have:=Rat.mul_pos (show 0< -w by grind) (show 0<t-1 by grind)
     grind
   ·have hp:0<w:=by grind
    have g1:0≤z∧z≤w:=by unfold btw at h;grind
    constructor
    ·refine Rat.not_lt.1 fun ht=>?_
     have:=Rat.mul_pos hp (show 0< -t by grind)
     grind
    ·refine Rat.not_lt.1 fun ht=>?_
     have:=Rat.mul_pos hp (show 0<t-1 by grind)
     grind
 ·rintro (h | ⟨h0,h1⟩)
  ·have hw0:w=0:=by grind
   rw [hz,hw0];unfold btw;grind
  ·by_cases hs:0≤w
   ·have g1:=Rat.mul_nonneg hs h0
    have g2:=Rat.mul_nonneg hs (show 0≤1-t by grind)
    left;constructor <;> grind
   ·have g1:=Rat.mul_nonneg (show 0≤ -w by grind) h0
    have g2:=Rat.mul_nonneg (show 0≤ -w by grind) (show 0≤1-t by grind)
    right;constructor <;> grind
theorem zk8 {x1 y1 x2 y2 t:Rat}:onP x1 y1 x2 y2 (x1+(x2-x1)*t) (y1+(y2-y1)*t)↔(0≤t∧t≤1)∨(x1=x2∧y1=y2):=by
 unfold onP;rw [zk7,zk7]
 constructor
 ·rintro⟨_,h1,h2⟩
  rcases h1 with h1 | h1
  ·rcases h2 with h2 | h2
   ·exact .inr ⟨h1,h2⟩
   ·exact .inl h2
  ·exact .inl h1
 ·rintro (h | ⟨h1,h2⟩)
  ·exact⟨zfH ..,.inr h,.inr h⟩
  ·exact⟨zfH ..,.inl h1,.inl h2⟩
theorem Xz [Tab G] {b:Bool} {l d:List Nat} {q:Rat} {k:Nat} [h:IsQ b l d q k] (hs:2*k+11000≤cap:=by decide):zp Tryz.prog G 389 [zl [zm b,zy l,zy d]] (intS .i64 (ue q 0)):=by
 have hb:=h.bq
 have i1:=hb.bz
 refine zs Tryz.func389 ?_;refine zg ?_;refine zf (Yh hs) ?_;refine zg ?_;refine zo ((ze rfl rfl (KJ (by omega))).sub (zD zdu)) ?_;refine zg ?_
 exact zj zt
theorem KZ [Tab G] {b c:Bool} {l d m e:List Nat} {p q:Rat} {k j:Nat} [hx:IsQ b l d p k] [hy:IsQ c m e q j] (hs:100*(k+j)+20000≤cap:=by decide):zp Tryz.prog G 421 [zl [zm b,zy l,zy d],zl [zm c,zy m,zy e]] (zm (decide (p=q))):=by
 refine zs Tryz.func421 ?_;refine zg ?_;refine zf (wt hs) ?_;refine zo ((zZ rfl rfl rfl rfl).sub (yx Wu)) ?_;refine zg ?_
 exact zj zt
theorem zfI [Tab G] {b1 c1:Bool} {l1 d1 m1 e1:List Nat} {x1 y1:Rat} {k1 j1:Nat} [hx1:IsQ b1 l1 d1 x1 k1] [hy1:IsQ c1 m1 e1 y1 j1] {b2 c2:Bool} {l2 d2 m2 e2:List Nat} {x2 y2:Rat} {k2 j2:Nat} [hx2:IsQ b2 l2 d2 x2 k2] [hy2:IsQ c2 m2 e2 y2 j2] {b3 c3:Bool} {l3 d3 m3 e3:List Nat} {x3 y3:Rat} {k3 j3:Nat} [hx3:IsQ b3 l3 d3 x3 k3] [hy3:IsQ c3 m3 e3 y3 j3] (hs:100*(2*(k1+j1)+(k2+j2)+(k3+j3))+25000≤cap:=by decide):zp Tryz.prog G 391 [zl [zm b1,zy l1,zy d1,zm c1,zy m1,zy e1,zm b2,zy l2,zy d2,zm c2,zy m2,zy e2,zm b3,zy l3,zy d3,zm c3,zy m3,zy e3]] (intS .i64 (ue (Uv x1 y1 x2 y2 x3 y3) 0)):=by
 have hxb1:=hx1.bq
 have hyb1:=hy1.bq
 have hxb2:=hx2.bq
 have hyb2:=hy2.bq
 have hxb3:=hx3.bq
 have hyb3:=hy3.bq
 refine zs Tryz.func391 ?_;refine zg ?_;refine zS 13 (by kernel_rfl) ?_;refine zg ?_;refine zo (ze rfl rfl (YR (by omega))) ?_;refine zg ?_;refine zo (ze rfl rfl (YR (by omega))) ?_;refine zo (ze rfl rfl (Jb (by omega))) ?_;refine zo ((ze rfl rfl (Xz (by omega))).sub (zD rfl)) ?_;refine zg ?_
 exact zj zt
end Go.Proofs
/- Rings of points: side.ring, side.Turns. -/
namespace Go.Proofs
open Go Go.Sv Num
variable {G:Imm}
abbrev yE:=(Bool×List Nat×List Nat)×(Bool×List Nat×List Nat)
def wi (xs:List yE) (i:Nat):yE×yE×yE:=(xs.getD ((i+xs.length-1)%xs.length) default,xs.getD i default,xs.getD ((i+1)%xs.length) default)
def Jd (xs:List yE):List (List SV):=(List.range xs.length).map fun i=>[zl (pc (wi xs i).1++(pc (wi xs i).2.1++pc (wi xs i).2.2))]
theorem XA {xs:List yE}:(Jd xs).length=xs.length:=by simp [Jd]
theorem zaP {xs:List yE} {i:Nat} (h:i<xs.length):(Jd xs)[i]? =some [zl (pc (wi xs i).1++(pc (wi xs i).2.1++pc (wi xs i).2.2))]:=by simp [Jd,h]
theorem ziH {xs:List yE} {i:Nat} {ss:List SV} (h:(Jd xs)[i]? =some ss):i<xs.length∧ss=[zl (pc (wi xs i).1++(pc (wi xs i).2.1++pc (wi xs i).2.2))]:=by
 have hl:i<xs.length:=by rw [←XA];exact yt h
 rw [zaP hl] at h
 exact⟨hl,(Option.some.inj h).symm⟩
theorem zk9 {xs:List yE} {ss:List SV} (h:ss∈Jd xs):ss.length=1:=by
 simp only [Jd,List.mem_map] at h
 obtain⟨i,_,rfl⟩:=h
 rfl
theorem wQ {xs:List yE} {i:Nat} (h:i<xs.length):xs[i]? =some (xs.getD i default):=by simp [h]
theorem zfJ {xs:List yE}:IterSpec Tryz.prog G 479 [zT [zU 6 pc xs]] (Jd xs):=by
 refine xH Tryz.func479 rfl rfl rfl rfl fun l E hy=>?_;refine zr ?_;(iterate 3 refine zz ?_);refine zJ ?_;refine zQ ?_;refine wT 4 rfl fun la=>?_
 unfold yP at la
 refine yK (γ:=Nat) (fun g=>⟨_,[(6,intS .i64 (g:Nat)),(5,intS .i64 xs.length),(4,zU 6 pc xs),(0,yieldS l),(1,zT [zU 6 pc xs])],[],[],(g,false)⟩) (fun g=>g≤xs.length) (fun g=>xs.length-g) 0 (Nat.zero_le _) (yo zk) ?_
 intro g hg
 refine zr ?_;refine zz ?_;refine zJ ?_;refine zh ?_;refine wE (fun h7=>?_) fun h7=>?_
 ·have k7:=of_decide_eq_true h7
  have hm1:(g+xs.length-1)%xs.length<xs.length:=Nat.mod_lt _ (by omega)
  have hm2:(g+1)%xs.length<xs.length:=Nat.mod_lt _ (by omega)
  have hg1:g<xs.length:=by omega
  refine zE ?_;refine zh ?_;refine zQ ?_;refine zr ?_;(iterate 2 refine zz ?_);refine zJ ?_;refine zS 25 (by kernel_rfl) ?_;(iterate 5 refine zz ?_);refine za ((g+xs.length:Nat):Int) ?_;refine za ((g+xs.length-1:Nat):Int) ?_;(iterate 2 refine zz ?_);refine zo ((wV rfl rfl rfl (by omega) (by omega)).sub (zD (n:=(((g+xs.length-1)%xs.length:Nat):Int)) (by simp))) ?_;refine zo (zi rfl rfl rfl (by omega) (y:=(wi xs g).1) (wQ hm1)) ?_;refine zo ((show OpOK _ _ _ _ _ (zl (pc (wi xs g).1)) from zF rfl rfl rfl rfl)) ?_;(iterate 2 refine zz ?_);refine zo (zi rfl rfl rfl (by omega) (y:=(wi xs g).2.1) (wQ hg1)) ?_;refine zo ((show OpOK _ _ _ _ _ (zl (pc (wi xs g).2.1)) from zF rfl rfl rfl rfl)) ?_;(iterate 2 refine zz ?_);refine za ((g+1:Nat):Int) ?_;(iterate 2 refine zz ?_);refine zo ((wV rfl rfl rfl (by omega) (by omega)).sub (zD (n:=(((g+1)%xs.length:Nat):Int)) (by simp))) ?_;refine zo (zi rfl rfl rfl (by omega) (y:=(wi xs g).2.2) (wQ hm2)) ?_;refine zo ((show OpOK _ _ _ _ _ (zl (pc (wi xs g).2.2)) from zF rfl rfl rfl rfl)) ?_;refine zo ((show OpOK _ _ _ _ _ (zl (pc (wi xs g).1++(pc (wi xs g).2.1++pc (wi xs g).2.2))) from yW rfl rfl (by kernel_rfl))) ?_;refine zJ ?_;refine Run.yield rfl hy rfl rfl rfl (zaP hg1) (xi _) rfl rfl rfl fun y=>?_;refine zz ?_;refine zJ ?_;refine wE (fun h35=>?_) fun h35=>?_
  ·refine zj ?_
   exact⟨.inl rfl,.inr h35⟩
  ·refine zE ?_;refine zO ?_;refine za ((g+1:Nat):Int) ?_;refine zz ?_;refine zJ ?_
   exact⟨g+1,(by omega:g+1≤xs.length),by omega,rfl,zb rfl (zb rfl (zb rfl (zb rfl (zb rfl (trivial))))),xp _,rfl,by simp only;rw [h35]⟩
 ·have k7:=of_decide_eq_false h7
  refine zI ?_
  exact⟨.inr rfl,.inl (by rw [XA,show g=xs.length by omega])⟩
theorem ziI {xs:List yE}:zp Tryz.prog G 436 [zU 6 pc xs] (wp 479 [zT [zU 6 pc xs]]):=by
 refine zs Tryz.func436 ?_;refine zg ?_
 exact zj zt
end Go.Proofs
/- Turns of a ring. -/
namespace Go.Proofs
open Go Go.Sv Num
variable {G:Imm}
def zdD (xs:List yE) (i:Nat):Int:=ue (Uv (pv (wi xs i).1).1 (pv (wi xs i).1).2 (pv (wi xs i).2.1).1 (pv (wi xs i).2.1).2 (pv (wi xs i).2.2).1 (pv (wi xs i).2.2).2) 0
def YH (xs:List yE):List Int:=if xs.length<3 then [] else (List.range xs.length).map (zdD xs)
abbrev Ux (z:Int):List SV:=[intS .i64 z]
theorem qa:∀ l:List Int,(l.flatMap Ux).length=l.length
 | []=>rfl
 | x::l=>by rw [List.flatMap_cons,List.length_append,qa l];show 1+l.length=l.length+1;omega
theorem xR {xs:List yE} {i:Nat} (h:i<xs.length):xs.getD i default∈xs:=by simp [h]
theorem ziJ {xs:List yE} {i:Nat} (h:i<xs.length):(wi xs i).1∈xs∧(wi xs i).2.1∈xs∧(wi xs i).2.2∈xs:=
 ⟨xR (Nat.mod_lt _ (by omega)),xR h,xR (Nat.mod_lt _ (by omega))⟩
theorem zfK [Tab G] {xs:List yE} {k i:Nat} (hk:0<k) (hl:∀ p∈xs,xQ k p) (hs:800*k+30000≤cap) (h:i<xs.length):zp Tryz.prog G 391 [zl (pc (wi xs i).1++(pc (wi xs i).2.1++pc (wi xs i).2.2))] (intS .i64 (zdD xs i)):=by
 obtain⟨m1,m2,m3⟩:=ziJ h
 have i1:=yY (b:=(wi xs i).1.1.1) (hl _ m1).1 hk
 have i2:=yY (b:=(wi xs i).1.2.1) (hl _ m1).2 hk
 have i3:=yY (b:=(wi xs i).2.1.1.1) (hl _ m2).1 hk
 have i4:=yY (b:=(wi xs i).2.1.2.1) (hl _ m2).2 hk
 have i5:=yY (b:=(wi xs i).2.2.1.1) (hl _ m3).1 hk
 have i6:=yY (b:=(wi xs i).2.2.2.1) (hl _ m3).2 hk
 exact zfI (hx1:=i1) (hy1:=i2) (hx2:=i3) (hy2:=i4) (hx3:=i5) (hy3:=i6) (by omega)
theorem zdE [Tab G] {xs:List yE} {k:Nat} (hk:0<k) (hl:∀ p∈xs,xQ k p) (hs:800*k+30000≤cap) (hxl:xs.length≤cap):zp Tryz.prog G 376 [zU 6 pc xs] (zU 1 Ux (YH xs)):=by
 have hxl0:=hxl
 unfold cap at hxl0
 refine zs Tryz.func376 ?_;refine zr ?_;refine xg fun b2=>?_;refine zJ ?_;refine zh ?_;refine zr ?_;(iterate 3 refine zz ?_);refine zJ ?_;refine wE (fun h6=>?_) fun h6=>?_
 ·have k6:=of_decide_eq_true h6
  refine zr ?_;refine zw ?_;refine Run.ghost _ rfl (Xn (s':=zU 1 Ux []) (fun I v h=>by rw [show v= .slice none 0 0 from h];exact Wi)) ?_;refine zJ ?_;refine zj ?_
  exact⟨_,[],.one (.own 0 inferInstance rfl rfl rfl),List.nil_sublist _,by rw [show YH xs=[] from if_pos (by omega)],rfl⟩
 ·have k6:=of_decide_eq_false h6
  refine zE ?_;refine zh ?_;refine zP (yL 3 1) ?_;refine zr ?_;refine zz ?_;refine zf ziI ?_;refine zJ ?_;refine zQ ?_
  refine ul rfl rfl zfJ (fun ss h=>zk9 h) (by decide) rfl
   (fun k h i=>i=(0,false)∧k≤xs.length∧∃ q,yu q k∧h=[rowE q 3 1 k (((List.range k).map (zdD xs)).flatMap Ux),⟨some b2,88,[eqS (rowV q k)],0⟩])
   (fun _ _ _=>False) ⟨rfl,Nat.zero_le _,none,rfl,rfl⟩ ?_ ?_ ?_
  ·rintro l k' ss h i hk' ⟨rfl,_,q,hq,rfl⟩
   obtain⟨hkl,rfl⟩:=ziH hk'
   refine zO ?_;refine xg fun b3=>?_;refine zw ?_;refine zJ ?_
   refine⟨rfl,?_⟩
   refine zQ ?_;refine Zu 4 (by kernel_rfl) ?_;refine zz ?_;refine zo ((show OpOK _ _ _ _ _ (zl (pc (wi xs k').1++(pc (wi xs k').2.1++pc (wi xs k').2.2))) from zC 0 rfl rfl rfl (by kernel_rfl) rfl)) ?_;refine zf (zfK hk hl hs hkl) ?_;refine zo (zB rfl rfl (by decide) rfl (by simp) rfl rfl) ?_;refine zJ ?_;refine Run.append 1 rfl rfl rfl rfl rfl rfl rfl rfl hq (by rw [qa];simp) (fun z hz=>by rw [List.mem_singleton.1 hz];rfl) (by unfold yP;simp;omega) (by unfold yP;simp;omega) fun q14 hq14=>?_;refine zw ?_;refine Run.ghost _ rfl (zY (List.sublist_cons_self _ _)) ?_;refine zJ ?_
   refine⟨rfl,by omega,q14,hq14,?_⟩
   rw [List.range_succ,List.map_append,List.flatMap_append];rfl
  ·rintro h i D ⟨rfl,_,q,hq,rfl⟩
   rw [XA] at hq ⊢
   refine zP (uZ [] [] [] hq (l:=(List.range xs.length).map (zdD xs)) (f:=Ux) (by simp) rfl (fun _ _=>rfl) (by unfold yP;omega)) ?_;refine zr ?_;refine zz ?_;refine zw ?_;refine zJ ?_;refine zj ?_
   exact⟨_,[],.one (.own 0 inferInstance rfl rfl rfl),List.nil_sublist _,by rw [show YH xs=_ from if_neg (by omega)],rfl⟩
  ·intro h i D e c hc hInv;exact hInv.elim
end Go.Proofs
/- How great points and numbers are. -/
namespace Go.Proofs
open Go Go.Sv Num
variable {G:Imm}
def gs {α:Type} (sz:α→Nat) (xs:List α) (k:Nat):Nat:=((xs.take k).map fun p=>min (sz p) 1000).sum
def XB (p:yE):Nat:=p.1.2.1.length+p.1.2.2.length+p.2.2.1.length+p.2.2.2.length
end Go.Proofs
/- straitlaw09: what the document says of three points; the law SideTurns, on the facts. -/
namespace Go.Proofs
open Go Go.Sv Num
variable {G:Imm}
instance bq_five:Bq 5 1:=⟨by decide,by decide⟩
end Go.Proofs
namespace Go.Proofs
open Go Go.Sv Num
variable {G:Imm}
end Go.Proofs
namespace Go.Proofs
open Go Go.Sv Num
variable {G:Imm}
instance bq72:Bq (mkRat (-7) 2) 1:=⟨by decide +kernel,by decide +kernel⟩
end Go.Proofs
namespace Num
open Go Go.Lib
def kD (q:Rat):Nat:=if q.den=1 then nDigits q.num.natAbs else max (nDigits q.num.natAbs) (nDigits q.den)
theorem ziK {q:Rat} (h1:nDigits q.num.natAbs≤60) (h2:nDigits q.den≤60):wv (zit q)=(q,((kD q:Nat):Int),0):=ziv h1 h2
theorem zla (s:List UInt8):(wv s).2.2=0∨(wv s).2.2=30∨((wv s).2.2=60∧(wv s).2.1=0):=by
 unfold wv Wp
 simp only
 split
 ·exact .inr (.inr ⟨rfl,rfl⟩)
 ·split
  ·exact .inl rfl
  ·split
   ·exact .inr (.inr ⟨rfl,rfl⟩)
   ·split
    ·exact .inr (.inl rfl)
    ·exact .inl rfl
theorem zna {s:List UInt8} {q:Rat} {k:Int} (h:wv s=(q,k,0)):wv (zit q)=(q,((kD q:Nat):Int),0)∧(kD q:Int)≤k∧k≤60∧q.num.natAbs<4294967296^7∧q.den<4294967296^7:=by
 obtain⟨h1,h2,h3,h4⟩:=zm1 h
 have p1:q.num.natAbs<10^60:=Nat.lt_of_lt_of_le (lt_pow_nDigits _) (Nat.pow_le_pow_right (by decide) h1)
 have p2:q.den<10^60:=Nat.lt_of_lt_of_le (lt_pow_nDigits _) (Nat.pow_le_pow_right (by decide) h2)
 exact⟨ziK h1 h2,h3,h4,Nat.lt_of_lt_of_le p1 (by decide),Nat.lt_of_lt_of_le p2 (by decide)⟩
end Num
namespace Go.Proofs
open Go Go.Sv Num
variable {G:Imm}
end Go.Proofs
namespace Num
open Go Go.Lib
end Num
namespace Go.Proofs
open Go Go.Sv Num
variable {G:Imm}
end Go.Proofs
namespace Num
open Go Go.Lib
theorem ziL {s:List UInt8} (h:(wv s).2.2≠0):(wv s).1=0:=by
 revert h
 unfold wv Wp
 simp only
 split
 ·exact fun _=>rfl
 ·split
  ·exact fun h=>absurd rfl h
  ·split
   ·exact fun _=>rfl
   ·split
    ·exact fun _=>rfl
    ·exact fun h=>absurd rfl h
end Num
namespace Go.Proofs
open Go Go.Sv Num
variable {G:Imm}
theorem zgS (s:List UInt8):Bq (wv s).1 7:=by
 by_cases h:(wv s).2.2=0
 ·obtain⟨q2,k2,hn⟩:∃ q2 k2,wv s=(q2,k2,0):=⟨_,_,Prod.ext rfl (Prod.ext rfl h)⟩
  obtain⟨_,_,_,h1,h2⟩:=zna hn
  rw [hn];exact⟨h1,h2⟩
 ·rw [ziL h];exact⟨by decide,by decide⟩
end Go.Proofs
namespace Go.Sv
open Go Go.RowKit
section
variable {P:Program} {G:Imm} {E:Env} {r:Option Nat} {S:St} {gd:Nat→Option Nat} {p:Bool} {o:Oper} {ops:List Oper} {K:St→Prop}
theorem Run.callVH (pre Hp suf:HL) {n0 d0:Nat} {g:List (Nat×SV)} {h:HL} {d:List Nat} {i:Nat×Bool} {x:Operand} {xs:Array Operand} {ts:Array TypeId} {f:FuncId} {args caps:List SV} {Q:SV→HL→Prop} (hp:p=false) (hop:o.op= .call {callee:=.value x,args:=xs,argTypes:=ts})
  (hf:xd g x=some (wp f caps)) (ha:uJ g xs.toList=some args) (hH:h=pre++Hp++suf) (hs:CallSpec P G f (args++caps) Hp Q) (hg:zH gd g o true) (ht:o.dst=some d0) (hd:Nat.blt d0 n0=true)
  (hr:∀ s H',Q s H'→Run P G E r gd p ops ⟨n0,(d0,s)::g,pre++H'++suf,d,i⟩ K):Run P G E r gd p (o::ops) ⟨n0,g,h,d,i⟩ K:=by
 refine Run.loc (S:=⟨n0,g,h,d,i⟩) (pre:=pre) (Hp:=Hp) (suf:=suf) hp hH (zj8 hop rfl hf ha hs) hg (by simp only [dstOk,ht];exact hd) fun s H' hq=>?_
 rw [ht];exact hr s H' hq
end
theorem ziM {I:Imm} {b o:Nat} {cs ds:List SV} (h:cellsAt I b o cs) (hi:∀ (i:Nat) (s:SV),ds[i]? =some s→∃ r:SV,cs[i]? =some r∧∀ v,r.den I v→s.den I v):cellsAt I b o ds:=by
 obtain⟨c,hc,hx⟩:=h
 refine⟨c,hc,fun i s hs=>?_⟩
 obtain⟨r,hr,hv⟩:=hi i s hs
 obtain⟨x,h1,h2,h3⟩:=hx i r hr
 exact⟨x,h1,hv x h2,h3⟩
theorem zgT {α β:Type} {f:α→List SV} {g:β→List SV} (k:α→β) {st:Nat} {l:List α} {I:Imm} {v:Value} (hf:∀ x∈l,∀(i:Nat) (s:SV),(g (k x))[i]? =some s→∃ r:SV,(f x)[i]? =some r∧∀ v,r.den I v→s.den I v) (h:(zU st f l).den I v):(zU st g (l.map k)).den I v:=by
 obtain⟨a,cap,hv,h1,h2,h3⟩:=h
 refine⟨a,cap,by rw [hv,List.length_map],by rwa [List.length_map],by rwa [List.length_map],?_⟩
 rcases h3 with h3 | ⟨b,o,ha,h4⟩
 ·exact .inl (by rw [h3];rfl)
 ·refine .inr ⟨b,o,ha,fun i y hy=>?_⟩
  rw [List.getElem?_map] at hy
  rcases hx:l[i]? with _ | x
  ·rw [hx] at hy;cases hy
  ·rw [hx] at hy;cases hy
   exact ziM (h4 i x hx) (hf x (List.mem_of_getElem? hx))
theorem JA {α β:Type} {f:α→List SV} {g:β→List SV} (k:α→β) {st:Nat} {l:List α} {I:Imm} {v:Value} (hf:∀ x,g (k x)=f x) (h:(zU st f l).den I v):(zU st g (l.map k)).den I v:=
 zgT k (fun x _ i s hs=>⟨s,by rw [←hf];exact hs,fun _ h=>h⟩) h
theorem zlb {I:Imm} {c1 c2:List SV} {s s':SV} {xs:List Value} (h:∀ v,s.den I v→s'.den I v) (hd:dens I (c1++s::c2) xs):dens I (c1++s'::c2) xs:=by
 refine⟨by rw [hd.1];simp,fun i r x hr hx=>?_⟩
 rcases Nat.lt_trichotomy i c1.length with hi | rfl | hi
 ·rw [List.getElem?_append_left hi] at hr
  exact hd.2 i r x (by rw [List.getElem?_append_left hi];exact hr) hx
 ·rw [List.getElem?_append_right (Nat.le_refl _),Nat.sub_self] at hr
  cases hr
  exact h x (hd.2 c1.length s x (by simp) hx)
 ·obtain⟨j,hj⟩:∃ j,i-c1.length=j+1:=⟨i-c1.length-1,by omega⟩
  rw [List.getElem?_append_right (by omega),hj,List.getElem?_cons_succ] at hr
  exact hd.2 i r x (by rw [List.getElem?_append_right (by omega),hj,List.getElem?_cons_succ];exact hr) hx
section
variable {P:Program} {G:Imm} {E:Env} {r:Option Nat} {S:St}
theorem Sat.cellAt {c1 c2:List SV} {n:Nat} {g:List (Nat×SV)} {pre post:HL} {b:Option Nat} {e k:Nat} {s s':SV} {d:List Nat} {i:Nat×Bool} {I:Imm} {F:Nat→Prop} {a:Act} {W:World} (hs:Sat G E r ⟨n,g,pre++⟨b,e,c1++s::c2,k⟩::post,d,i⟩ I F a W) (h:∀ v,s.den I v→s'.den I v):
    Sat G E r ⟨n,g,pre++⟨b,e,c1++s'::c2,k⟩::post,d,i⟩ I F a W∧own ⟨n,g,pre++⟨b,e,c1++s'::c2,k⟩::post,d,i⟩ F=own ⟨n,g,pre++⟨b,e,c1++s::c2,k⟩::post,d,i⟩ F:=by
  have hb:bs (pre++⟨b,e,c1++s'::c2,k⟩::post)=bs (pre++⟨b,e,c1++s::c2,k⟩::post):=by simp [bs,List.filterMap_append,List.filterMap_cons]
  have ho:own ⟨n,g,pre++⟨b,e,c1++s'::c2,k⟩::post,d,i⟩ F=own ⟨n,g,pre++⟨b,e,c1++s::c2,k⟩::post,d,i⟩ F:=by funext c;simp only [own];rw [hb]
  refine⟨{hs with
    h:=⟨by rw [hb];exact hs.h.nodup,fun p hp=>?_⟩
    f:=fun c hc=>⟨(hs.f c hc).1,(hs.f c hc).2.1,fun x=>(hs.f c hc).2.2.1 (hb▸x),(hs.f c hc).2.2.2⟩
    l:=fun j hj=>⟨(hs.l j hj).1,fun x=>(hs.l j hj).2 (ho▸x)⟩},ho⟩
  rcases List.mem_append.1 hp with h1 | h1
  · exact hs.h.mem p (List.mem_append.2 (.inl h1))
  · rcases List.mem_cons.1 h1 with h1 | h1
    · subst h1
      have h2:=hs.h.mem ⟨b,e,c1++s::c2,k⟩ (by simp)
      cases b with
      | none=>exact absurd (h2.none rfl) (by simp)
      | some b=>
        obtain⟨g1,c,g2,g3,g4,g5⟩:=h2.some rfl
        have hl:(c1++s'::c2).length=(c1++s::c2).length:=by simp
        exact .of_some rfl ⟨g1,c,g2,show c.size=(c1++s'::c2).length+k by rw [hl];exact g3,show xF (c.toList.take (c1++s'::c2).length) by rw [hl];exact g4,show dens I _ (c.toList.take (c1++s'::c2).length) by rw [hl];exact zlb h g5⟩
    · exact hs.h.mem p (by simp [h1])
theorem wN (c1 c2:List SV) (pre mid post:HL) {n:Nat} {g:List (Nat×SV)} {d:List Nat} {i:Nat×Bool} {b0:Option Nat} {e0 k0:Nat} {q:Option (Nat×Nat)} {e st m:Nat} {cs:List SV} {α:Type} {f:α→List SV} {l:List α} (hq:yu q m) (hl:l.length=m) (hcs:cs=l.flatMap f) (hf:∀ x∈l,(f x).length=st) (hb:m≤yP):
    ZT G E r ⟨n,g,pre++rowE q e st m cs::(mid++⟨b0,e0,c1++eqS (rowV q m)::c2,k0⟩::post),d,i⟩ ⟨n,g,pre++(mid++⟨b0,e0,c1++zU st f l::c2,k0⟩::post),d,i⟩:=by
  intro I F a W hs
  rw [←List.append_assoc]
  subst hcs
  cases q with
  | none=>
    have hq:m=0:=hq
    subst hq
    have hl0:l=[]:=List.eq_nil_of_length_eq_zero hl
    subst hl0
    obtain⟨I',s1,f1⟩:=zY (G:=G) (E:=E) (r:=r) (n:=n) (g:=g) (d:=d) (i:=i) (h:=pre++rowE none e st 0 ([].flatMap f)::(mid++⟨b0,e0,c1++eqS (rowV none 0)::c2,k0⟩::post)) (h':=(pre++mid)++⟨b0,e0,c1++eqS (rowV none 0)::c2,k0⟩::post) (by rw [List.append_assoc];exact List.Sublist.append_left (List.sublist_cons_self _ _) _) I F a W hs
    obtain⟨s2,o2⟩:=s1.cellAt (s':=zU st f []) fun v hv=>⟨none,0,hv,Nat.le_refl _,Nat.zero_le _,.inl rfl⟩
    exact⟨I',s2,by rw [o2];exact f1⟩
  | some q=>
    obtain⟨b,cap⟩:=q
    obtain⟨I',s1,s2,hle,hc⟩:=ZL (j:=pre.length) (b:=b) (e:=e) (k:=cap*st-m*st) (cs:=l.flatMap f) (by simp [rowE]) hs
    have ee:(pre++rowE (some (b,cap)) e st m (l.flatMap f)::(mid++⟨b0,e0,c1++eqS (rowV (some (b,cap)) m)::c2,k0⟩::post)).take pre.length++(pre++rowE (some (b,cap)) e st m (l.flatMap f)::(mid++⟨b0,e0,c1++eqS (rowV (some (b,cap)) m)::c2,k0⟩::post)).drop (pre.length+1)=(pre++mid)++⟨b0,e0,c1++eqS (rowV (some (b,cap)) m)::c2,k0⟩::post:=by simp [List.drop_append]
    simp only [ee] at s1 s2
    obtain⟨s3,o3⟩:=s1.cellAt (s':=zU st f l) fun v hv=>by
      obtain⟨c,hc1,hc2⟩:=hc
      refine⟨some ⟨b,0,none⟩,cap,by rw [hl];exact hv,by rw [hl];exact hq.1,by rw [hl];exact hb,.inr ⟨b,0,rfl,fun i x hx=>⟨c,hc1,fun k s hk=>?_⟩⟩⟩
      have:(l.flatMap f)[i*st+k]? =some s:=by
        rw [List.flatMap_def]
        exact uB (by intro d hd;obtain⟨y,hy,rfl⟩:=List.mem_map.1 hd;exact hf y hy) (by rw [List.getElem?_map,hx];rfl) hk
      have:=hc2 _ s this
      simpa [Nat.add_assoc] using this
    exact⟨I',s3,by rw [o3];exact s2⟩
end
end Go.Sv
