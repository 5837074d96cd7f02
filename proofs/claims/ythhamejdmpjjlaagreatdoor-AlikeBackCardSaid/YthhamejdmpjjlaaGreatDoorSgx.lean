/- straitref13, straitref14: which polygons are simple, strictly convex, which scenes may be, by the document's answer. -/
import Derived.Test.YthhamejdmpjjlaaGreatDoorSgw
import Derived.Test.YthhamejdmpjjlaaGreatDoorScm
namespace Num
open Go Go.Proofs
theorem zct {l:List V2}:vN l=true↔3≤l.length∧∀ i j,i<j→j<l.length→Qu l (i,j)=true:=by
 unfold vN
 rw [Bool.and_eq_true,decide_eq_true_eq,List.all_eq_true]
 refine and_congr_right fun _=>⟨fun h i j h1 h2=>h (i,j) (XG.2 ⟨h1,h2⟩),fun h x hx=>?_⟩
 obtain⟨i,j⟩:=x
 exact h i j (XG.1 hx).1 (XG.1 hx).2
theorem zjL {l:List Int} {g:Nat} {n:Int} (h:l[g]? =some n) (hp:n=1) (hn:∀ x∈l.take g,x=1):∀ x∈l.take (g+1),x=1:=UM h hp hn
theorem zmq {l:List V2} {g:Nat} {n:Int} (h:(vc l)[g]? =some n) (hn:n≠1):ur l=false:=by
 unfold ur
 have:((vc l).all fun n=>decide (n=1))=false:=by
  cases q:(vc l).all fun n=>decide (n=1) with
  | false=>rfl
  | true=>exact absurd (of_decide_eq_true (List.all_eq_true.1 q n (List.mem_of_getElem? h))) hn
 rw [this];rfl
theorem zoi {l:List V2} (h:∀ x∈vc l,x=1):ur l=vN l:=by
 unfold ur
 have:((vc l).all fun n=>decide (n=1))=true:=List.all_eq_true.2 fun x hx=>decide_eq_true (h x hx)
 rw [this];rfl
theorem zjM {l:List V2} {g:Nat} (h3:3≤l.length) (hg:g<l.length):(vc l)[g]? =some (ue (cr (ZR l (g+l.length-1)) (ZR l g) (ZR l (g+1))) 0):=by
 unfold vc
 rw [if_neg (by omega),List.getElem?_map,List.getElem?_range hg];rfl
theorem QI {l:List V2} (h3:3≤l.length):(vc l).length=l.length:=by unfold vc;rw [if_neg (by omega),List.length_map,List.length_range]
theorem qQ {s:Sc} (h:s.1.length<3∨6<s.1.length∨4<s.2.1.length∨8<s.2.2.length∨6<tris s):uE s=false:=by
 cases q:uE s with
 | false=>rfl
 | true=>obtain⟨a,b,c,d,e,f⟩:=zjh q;omega
theorem zoj {s:Sc} {r:List RP} (hr:r∈s.2.1) (h:inB r.length 6=false):uE s=false:=by
 unfold uE
 rw [show (s.2.1.any fun r=> !inB r.length 6)=true from List.any_eq_true.2 ⟨r,hr,by rw [h];rfl⟩]
 cases inB s.1.length 6 <;> cases decide (s.2.1.length≤4) <;> rfl
theorem zok {s:Sc} (c1:3≤s.1.length) (c2:s.1.length≤6) (c3:s.2.1.length≤4) (c4:s.2.2.length≤8) (c5:tris s≤6) (hall:∀ r∈s.2.1,inB r.length 6=true):uE s=true:=by
 unfold uE
 have e:(s.2.1.any fun r=> !inB r.length 6)=false:=by
  cases q:s.2.1.any fun r=> !inB r.length 6 with
  | false=>rfl
  | true=>obtain⟨r,hr,h⟩:=List.any_eq_true.1 q;rw [hall r hr] at h;cases h
 rw [e,decide_eq_true c3,decide_eq_true c4,decide_eq_true c5]
 unfold inB
 rw [decide_eq_true c1,decide_eq_true (by omega)];rfl
theorem zjN {s:Sc} (h0:uE s=true) (h1:ur (s.1.map pv)=false):vx s=5:=by
 unfold vx
 rw [if_neg (by show ¬uE s=false;rw [h0];decide),if_pos (show qC s 1=false from h1)]
theorem zmr {s:Sc} {r:List RP} (h0:uE s=true) (h1:ur (s.1.map pv)=true) (hr:r∈s.2.1) (h2:vN (r.map pv)=false):vx s=6:=by
 unfold vx
 rw [if_neg (by show ¬uE s=false;rw [h0];decide),if_neg (by show ¬ur (s.1.map pv)=false;rw [h1];decide),if_pos]
 show (!(s.2.1.any fun r=> !vN (r.map pv)))=false
 rw [show (s.2.1.any fun r=> !vN (r.map pv))=true from List.any_eq_true.2 ⟨r,hr,by rw [h2];rfl⟩];rfl
theorem zjO {s:Sc} (h0:uE s=true) (h1:ur (s.1.map pv)=true) (h2:∀ r∈s.2.1,vN (r.map pv)=true):vx s=0:=by
 unfold vx
 rw [if_neg (by show ¬uE s=false;rw [h0];decide),if_neg (by show ¬ur (s.1.map pv)=false;rw [h1];decide),if_neg]
 show ¬(!(s.2.1.any fun r=> !vN (r.map pv)))=false
 have e:(s.2.1.any fun r=> !vN (r.map pv))=false:=by
  cases q:s.2.1.any fun r=> !vN (r.map pv) with
  | false=>rfl
  | true=>obtain⟨r,hr,h⟩:=List.any_eq_true.1 q;rw [h2 r hr] at h;cases h
 rw [e];decide
end Num
namespace Go.Proofs
open Go Go.Sv Num
variable {G:Imm}
theorem JO {x y:Int}:(x==y)=decide (x=y):=by rw [Bool.eq_iff_iff,beq_iff_eq,decide_eq_true_iff]
structure Rw (xs:List yE):Prop where
 one:∀ p∈xs,UK p∧XB p≤80
 two:∀ i j,i<j→j<xs.length→XB (ra xs i)+XB (ra xs j)≤80
theorem zms {xs:List yE} (hx:∀ p∈xs,UK p∧XB p≤40):Rw xs:=⟨fun p hp=>⟨(hx p hp).1,by have:=(hx p hp).2;omega⟩,fun i j hij hj=>by
 have a:=(hx _ (xR (show i<xs.length by omega))).2
 have b:=(hx _ (xR hj)).2
 exact Nat.le_trans (Nat.add_le_add a b) (by decide)⟩
theorem Rw.ne {xs:List yE} (h:Rw xs) {i j:Nat} (hi:i<xs.length) (hj:j<xs.length) (hij:i≠j):XB (ra xs i)+XB (ra xs j)≤80:=by
 rcases Nat.lt_or_gt_of_ne hij with g | g
 ·exact h.two i j g hj
 ·have:=h.two j i g hi;omega
theorem zol {xs:List yE} {i k:Nat} (hi:i<xs.length) (hk:k<xs.length):Qu (wO xs) (i,k)=(!decide (pv (ra xs i)=pv (ra xs k))&&decide (UU (pv (ra xs i)) (pv (rb xs i)) (pv (ra xs k)) (pv (rb xs k))=Wx xs.length i k)):=zdM hi hk
theorem qS {xs:List yE} {i:Nat} (hn:2≤xs.length) (hi:i<xs.length) (hx:xs.length≤1000000):zp Tryz.prog G 82 [zU 6 pc xs,intS .i64 (i:Nat)] (xn [zl (pc (ra xs i)),zl (pc (rb xs i)),zm true]):=by
 have hm:(i+1)%xs.length<xs.length:=Nat.mod_lt _ (by omega)
 refine zs Tryz.func82 ?_;refine zr ?_;refine xg fun b4=>?_;refine xg fun b5=>?_;refine zz ?_;refine zJ ?_;refine zh ?_;refine zr ?_;(iterate 2 refine zz ?_);refine zo ((zZ rfl rfl rfl rfl).sub (yx (c:=false) (decide_eq_false (by omega)))) ?_;(iterate 2 refine zz ?_);refine zo ((zZ rfl rfl rfl rfl).sub (yx (c:=false) (decide_eq_false (by omega)))) ?_;(iterate 5 refine zz ?_);refine zo ((zZ rfl rfl rfl rfl).sub (yx (c:=false) (decide_eq_false (by omega)))) ?_;refine zg ?_;refine yM rfl rfl ?_;refine zE ?_;refine wH 14 [12,13] _ (by kernel_rfl) (.cons _ (.cons _ .slnil)) ?_;(iterate 2 refine RunE.one (zG rfl rfl) rfl rfl rfl (by kernel_rfl) ?_);refine RunE.one (zi rfl rfl rfl (by omega) (y:=ra xs i) (wQ hi)) rfl rfl rfl (by kernel_rfl) ?_;refine RunE.one ((show OpOK _ _ _ _ _ (zl (pc (ra xs i))) from zF rfl rfl rfl rfl)) rfl rfl rfl (by kernel_rfl) ?_;(iterate 2 refine RunE.lat (zG rfl rfl) rfl rfl rfl ?_);refine RunE.lat (yA (z:=((i+1:Nat):Int)) rfl rfl rfl (congrArg some (by omega)) (wrap_i64 (by omega) (by omega))) rfl rfl rfl ?_;refine RunE.lat (zG rfl rfl) rfl rfl rfl ?_;refine RunE.lat (xh rfl rfl) rfl rfl rfl ?_;refine RunE.lat ((wV rfl rfl rfl (by omega) (by omega)).sub (zD (n:=(((i+1)%xs.length:Nat):Int)) (by simp))) rfl rfl rfl ?_;refine RunE.lat (zi rfl rfl rfl (by omega) (y:=rb xs i) (wQ hm)) rfl rfl rfl ?_;refine RunE.lat ((show OpOK _ _ _ _ _ (zl (pc (rb xs i))) from zF rfl rfl rfl rfl)) rfl rfl rfl ?_
 refine RunE.nil ⟨_,rfl,?_⟩
 refine .loc1n 1 (xI rfl rfl rfl rfl (by first | decide | (simp;done) | (simp;omega))) rfl rfl rfl ?_
 rintro s1 H1 ⟨rfl,rfl⟩
 refine⟨(.cons _ (.cons _ .slnil)),?_⟩
 refine RunE.nil ⟨_,rfl,?_⟩
 refine .loc1n 0 (xI rfl rfl rfl rfl (by first | decide | (simp;done) | (simp;omega))) rfl rfl rfl ?_
 rintro s1 H1 ⟨rfl,rfl⟩
 refine⟨(.cons _ (.cons _ .slnil)),?_⟩
 refine RunE.nil ?_;refine zg ?_
 exact zj zt
theorem zem {xs:List yE} (hr:Rw xs) {i k:Nat} (hn:3≤xs.length) (hik:i<k) (hk:k<xs.length) (hx:xs.length≤1000000):zp Tryz.prog G 60 [zU 6 pc xs,intS .i64 (i:Nat),intS .i64 (k:Nat)] (zm (decide (UU (pv (ra xs i)) (pv (rb xs i)) (pv (ra xs k)) (pv (rb xs k))=Wx xs.length i k))):=by
 have hi:i<xs.length:=by omega
 have hm:(i+1)%xs.length<xs.length:=Nat.mod_lt _ (by omega)
 have hm2:(k+1)%xs.length<xs.length:=Nat.mod_lt _ (by omega)
 have e1:(i+1)%xs.length=i+1:=Nat.mod_eq_of_lt (by omega)
 have e2:(k+1)%xs.length=if k+1=xs.length then 0 else k+1:=by split;(rename_i h;rw [h,Nat.mod_self]);exact Nat.mod_eq_of_lt (by omega)
 have n1:i≠(i+1)%xs.length:=by omega
 have n2:k≠(k+1)%xs.length:=by rw [e2];split <;> omega
 have n3:(i+1)%xs.length≠(k+1)%xs.length:=by rw [e1,e2];split <;> omega
 have AB:XB (ra xs i)+XB (rb xs i)≤80:=hr.ne hi hm n1
 have CD:XB (ra xs k)+XB (rb xs k)≤80:=hr.ne hk hm2 n2
 have AC:XB (ra xs i)+XB (ra xs k)≤80:=hr.ne hi hk (by omega)
 have BD:XB (rb xs i)+XB (rb xs k)≤80:=hr.ne hm hm2 n3
 have oa:Ps (ra xs i) (XB (ra xs i)+2):=QG (hr.one _ (xR hi)).1
 have ob:Ps (rb xs i) (XB (rb xs i)+2):=QG (hr.one _ (xR hm)).1
 have oc:Ps (ra xs k) (XB (ra xs k)+2):=QG (hr.one _ (xR hk)).1
 have od:Ps (rb xs k) (XB (rb xs k)+2):=QG (hr.one _ (xR hm2)).1
 have hsk:=zof (pv (ra xs i)) (pv (rb xs i)) (pv (ra xs k)) (pv (rb xs k))
 refine zs Tryz.func60 ?_;refine zg ?_;refine zo (ze rfl rfl (qS (by omega) hi hx)) ?_;refine zg ?_;refine xg fun b7=>?_;refine xg fun b8=>?_;refine zw ?_;refine Run.ghost _ rfl (uY 1 7 rfl rfl) ?_;refine zw ?_;refine Run.ghost _ rfl (uY 0 8 rfl rfl) ?_;refine zg ?_;refine zo (ze rfl rfl (qS (by omega) hk hx)) ?_;refine zg ?_;refine xg fun b10=>?_;refine xg fun b11=>?_;refine zw ?_;refine Run.ghost _ rfl (uY 1 10 rfl rfl) ?_;refine zw ?_;refine Run.ghost _ rfl (uY 0 11 rfl rfl) ?_;refine zg ?_;refine zo (ze rfl rfl (zgu (w:=82) oa ob oc od ⟨by omega,by omega,by omega,by omega⟩ (by omega) (by omega) (by omega) (by omega))) ?_;refine xg fun b13=>?_;refine zw ?_;refine zJ ?_;refine zh ?_;refine zg ?_;refine za ((i+1:Nat):Int) ?_
 refine Run.oneB (zZ rfl rfl rfl rfl) rfl rfl rfl (fun h4_3=>?_) (fun h4_3=>?_)
 ·have k4_3:=beq_iff_eq.1 h4_3
  refine zg ?_;refine xt rfl rfl ?_;refine zr ?_;(iterate 2 refine zz ?_);refine zo ((zZ rfl rfl rfl rfl).sub (yx (c:=decide (UU (pv (ra xs i)) (pv (rb xs i)) (pv (ra xs k)) (pv (rb xs k))=1)) (by rw [hsk];exact JO))) ?_;refine zg ?_
  exact zj (zu (e:=by rw [zdI (.inl (by omega))]))
 ·have k4_3:=beq_eq_false_iff_ne.1 h4_3
  iterate 2 refine zz ?_
  refine Run.oneB (zZ rfl rfl rfl rfl) (gB rfl rfl rfl rfl) rfl rfl (fun h4_6=>?_) (fun h4_6=>?_)
  ·have k4_6:=beq_iff_eq.1 h4_6
   refine zg ?_;refine za ((xs.length-1:Nat):Int) ?_;refine zg ?_;refine zd (fun _ k47=>?_) fun _ k47=>?_
   ·refine zr ?_;(iterate 2 refine zz ?_);refine zo ((zZ rfl rfl rfl rfl).sub (yx (c:=decide (UU (pv (ra xs i)) (pv (rb xs i)) (pv (ra xs k)) (pv (rb xs k))=1)) (by rw [hsk];exact JO))) ?_;refine zg ?_
    exact zj (zu (e:=by rw [zdI (.inr ⟨by omega,by omega⟩)]))
   ·refine zE ?_;refine zr ?_;(iterate 2 refine zz ?_);refine zo ((zZ rfl rfl rfl rfl).sub (yx (c:=decide (UU (pv (ra xs i)) (pv (rb xs i)) (pv (ra xs k)) (pv (rb xs k))=0)) (by rw [hsk];exact JO))) ?_;refine zg ?_
    exact zj (zu (e:=by rw [zaW (by omega)]))
  ·have k4_6:=beq_eq_false_iff_ne.1 h4_6
   refine zg ?_;refine yM rfl rfl ?_;refine zE ?_;refine zr ?_;(iterate 2 refine zz ?_);refine zo ((zZ rfl rfl rfl rfl).sub (yx (c:=decide (UU (pv (ra xs i)) (pv (rb xs i)) (pv (ra xs k)) (pv (rb xs k))=0)) (by rw [hsk];exact JO))) ?_;refine zg ?_
   exact zj (zu (e:=by rw [zaW (by omega)]))
theorem UR {xs:List yE} (hr:Rw xs) (hx:xs.length≤1000000):zp Tryz.prog G 35 [zU 6 pc xs] (zm (vN (wO xs))):=by
 have hLl:(wO xs).length=xs.length:=List.length_map _
 refine zs Tryz.func35 ?_;refine zr ?_;refine zz ?_;refine zJ ?_;refine zh ?_;refine zg ?_;refine zd (fun _ k7=>?_) fun _ k7=>?_
 ·refine zg ?_;refine zj ?_
  exact⟨_,[],.one (.tmp rfl),List.nil_sublist _,by cases q:vN (wO xs) with
   | false=>rfl
   | true=>have:=(zct.1 q).1;omega,rfl⟩
 ·refine zE ?_;refine zh ?_;refine zg ?_
  refine yK (γ:=Nat) (fun k=>⟨_,[(3,intS .i64 (k:Nat)),(0,zU 6 pc xs)],[],[],(0,false)⟩) (fun k=>k≤xs.length∧∀ a b,a<b→b<k→Qu (wO xs) (a,b)=true) (fun k=>xs.length-k) 0 ⟨Nat.zero_le _,fun a b _ h=>by omega⟩ (yo zk) ?_
  rintro k ⟨hk9,hall⟩
  refine zh ?_;refine zg ?_;refine zd (fun _ k11=>?_) fun _ k11=>?_
  ·have hk:k<xs.length:=by omega
   refine zE ?_;refine zh ?_;refine zg ?_
   refine yK (γ:=Nat) (fun i=>⟨_,[(4,intS .i64 (i:Nat)),(3,intS .i64 (k:Nat)),(0,zU 6 pc xs)],[],[],(0,false)⟩) (fun i=>i≤k∧∀ a,a<i→Qu (wO xs) (a,k)=true) (fun i=>k-i) 0 ⟨Nat.zero_le _,fun a h=>by omega⟩ (yo zk) ?_
   rintro i ⟨hi9,hrow⟩
   refine zh ?_;refine zg ?_;refine zd (fun _ k16=>?_) fun _ k16=>?_
   ·have hik:i<k:=by omega
    have hi:i<xs.length:=by omega
    have hpr:=zol hi hk
    have o1:Ps (ra xs k) (XB (ra xs k)+2):=QG (hr.one _ (xR hk)).1
    have o2:Ps (ra xs i) (XB (ra xs i)+2):=QG (hr.one _ (xR hi)).1
    have t1:XB (ra xs k)≤80:=(hr.one _ (xR hk)).2
    have t2:XB (ra xs i)≤80:=(hr.one _ (xR hi)).2
    have bad:Qu (wO xs) (i,k)=false→vN (wO xs)=false:=fun e=>by
     cases q:vN (wO xs) with
     | false=>rfl
     | true=>rw [(zct.1 q).2 i k hik (by omega)] at e;cases e
    refine zE ?_;refine zh ?_;refine zQ ?_;refine zS 16 (by kernel_rfl) ?_;refine zg ?_;refine zo (zi rfl rfl rfl (by omega) (y:=ra xs k) (wQ hk)) ?_;refine zg ?_;refine zo (zi rfl rfl rfl (by omega) (y:=ra xs i) (wQ hi)) ?_;refine zz ?_
    refine Run.oneB ((ze rfl rfl (zoJ o1 o2 (by omega))).sub (yx (c:=decide (pv (ra xs i)=pv (ra xs k))) (decide_eq_decide.2 eq_comm))) rfl rfl rfl (fun h9_8=>?_) (fun h9_8=>?_)
    ·refine zg ?_;refine xt rfl rfl ?_;refine zg ?_
     exact zj (zu (e:=by rw [bad (by rw [hpr,h9_8];rfl)]))
    ·refine zg ?_;refine zo (ze rfl rfl (zem hr (by omega) hik hk hx)) ?_;refine zg ?_;refine wE (fun h34=>?_) fun h34=>?_
     ·refine zg ?_
      exact zj (zu (e:=by rw [bad (by rw [hpr];rw [Bool.not_eq_true'] at h34;rw [h34,Bool.and_false])]))
     ·refine zg ?_;refine za ((i+1:Nat):Int) ?_;refine zg ?_
      exact⟨i+1,⟨by omega,fun a ha=>by
       by_cases e:a=i
       ·rw [e,hpr,h9_8];rw [Bool.not_eq_false'] at h34;rw [h34];rfl
       ·exact hrow a (by omega)⟩,by omega,yo zk⟩
   ·refine zI ?_;refine zg ?_;refine za ((k+1:Nat):Int) ?_;refine zg ?_
    exact⟨k+1,⟨by omega,fun a b h1 h2=>by
     by_cases e:b=k
     ·rw [e];exact hrow a (by omega)
     ·exact hall a b h1 (by omega)⟩,by omega,yo zk⟩
  ·refine zI ?_;refine zg ?_
   exact zj (zu (e:=by rw [zct.2 ⟨by omega,fun a b h1 h2=>hall a b h1 (by omega)⟩]))
theorem zen {xs:List yE} (hr:Rw xs) (hx:xs.length≤1000000):zp Tryz.prog G 58 [zU 6 pc xs] (zU 1 Ux (vc (wO xs))):=by
 have hLl:(wO xs).length=xs.length:=List.length_map _
 refine zs Tryz.func58 ?_;refine zr ?_;refine zz ?_;refine zJ ?_;refine zh ?_;refine zg ?_;refine zd (fun _ k7=>?_) fun _ k7=>?_
 ·refine zr ?_
  refine zo ((yS rfl rfl).sub (show ∀I v,(eqS (.slice none 0 0)).den I v→(zU 1 Ux (vc (wO xs))).den I v from fun I v h=>by have e:(vc (wO xs))=[]:=if_pos (by omega);rw [e];cases h;exact Wi)) ?_
  refine zJ ?_
  exact zj zt
 ·refine zE ?_;refine zr ?_;refine zz ?_;refine zJ ?_;refine zh ?_;refine zr ?_;refine zz ?_;refine zJ ?_;refine zQ ?_;refine zP (yL 3 1) ?_;refine yX (fun (g:Nat) (q:Option (Nat×Nat))=>⟨_,[(4,intS .i64 (g:Nat)),(3,eqS (rowV q g)),(0,zU 6 pc xs)],[rowE q 3 1 g (((vc (wO xs)).take g).flatMap Ux)],[],(0,false)⟩) (fun g q=>g≤xs.length∧yu q g) (fun g _=>xs.length-g) 0 none ⟨Nat.zero_le _,rfl⟩ (zL zk rfl) ?_
  rintro g q ⟨hg9,hq⟩
  refine zh ?_;refine zg ?_;refine zd (fun _ k11=>?_) fun _ k11=>?_
  ·have hg:g<xs.length:=by omega
   have m1:(g+xs.length-1)%xs.length<xs.length:=Nat.mod_lt _ (by omega)
   have m2:(g+1)%xs.length<xs.length:=Nat.mod_lt _ (by omega)
   have hv:=zjM (l:=wO xs) (g:=g) (by omega) (by omega)
   rw [hLl] at hv
   rw [←uz (wO xs) (g+xs.length-1),hLl,Qw m1,Qw hg,JJ hg] at hv
   obtain⟨n,hn⟩:∃ n,n=ue (cr (pv (ra xs ((g+xs.length-1)%xs.length))) (pv (ra xs g)) (pv (rb xs g))) 0:=⟨_,rfl⟩
   rw [←hn] at hv
   have hsu:(vc (wO xs)).take (g+1)=(vc (wO xs)).take g++[n]:=by rw [List.take_add_one,hv];rfl
   have htl:((vc (wO xs)).take g).length=g:=by rw [List.length_take,QI (by omega),hLl];omega
   have o1:UK (ra xs ((g+xs.length-1)%xs.length))∧XB (ra xs ((g+xs.length-1)%xs.length))≤80:=hr.one _ (xR m1)
   have o2:UK (ra xs g)∧XB (ra xs g)≤80:=hr.one _ (xR hg)
   have o3:UK (rb xs g)∧XB (rb xs g)≤80:=hr.one _ (xR m2)
   refine zE ?_;refine zh ?_;refine zQ ?_;refine vj 27 [26] _ (by kernel_rfl) (.cons _ .slnil) ?_;(iterate 4 refine RunE.one (zG rfl rfl) rfl rfl rfl (by kernel_rfl) ?_);refine RunE.one (xh rfl rfl) rfl rfl rfl (by kernel_rfl) ?_;refine RunE.one (yA (z:=((g+xs.length:Nat):Int)) rfl rfl rfl (congrArg some (by omega)) (wrap_i64 (by omega) (by omega))) rfl rfl rfl (by kernel_rfl) ?_;refine RunE.one (yA (z:=((g+xs.length-1:Nat):Int)) rfl rfl rfl (congrArg some (by omega)) (wrap_i64 (by omega) (by omega))) rfl rfl rfl (by kernel_rfl) ?_;refine RunE.one (zG rfl rfl) rfl rfl rfl (by kernel_rfl) ?_;refine RunE.one (xh rfl rfl) rfl rfl rfl (by kernel_rfl) ?_;refine RunE.one ((wV rfl rfl rfl (by omega) (by omega)).sub (zD (n:=(((g+xs.length-1)%xs.length:Nat):Int)) (by rw [Int.natCast_emod]))) rfl rfl rfl (by kernel_rfl) ?_;refine RunE.one (zi rfl rfl rfl (by omega) (y:=ra xs ((g+xs.length-1)%xs.length)) (wQ m1)) rfl rfl rfl (by kernel_rfl) ?_;refine RunE.one ((show OpOK _ _ _ _ _ (zl (pc (ra xs ((g+xs.length-1)%xs.length)))) from zF rfl rfl rfl rfl)) rfl rfl rfl (by kernel_rfl) ?_;(iterate 2 refine RunE.one (zG rfl rfl) rfl rfl rfl (by kernel_rfl) ?_);refine RunE.one (zi rfl rfl rfl (by omega) (y:=ra xs g) (wQ hg)) rfl rfl rfl (by kernel_rfl) ?_;refine RunE.one ((show OpOK _ _ _ _ _ (zl (pc (ra xs g))) from zF rfl rfl rfl rfl)) rfl rfl rfl (by kernel_rfl) ?_;(iterate 2 refine RunE.one (zG rfl rfl) rfl rfl rfl (by kernel_rfl) ?_);refine RunE.one (yA (z:=((g+1:Nat):Int)) rfl rfl rfl (congrArg some (by omega)) (wrap_i64 (by omega) (by omega))) rfl rfl rfl (by kernel_rfl) ?_;refine RunE.one (zG rfl rfl) rfl rfl rfl (by kernel_rfl) ?_;refine RunE.one (xh rfl rfl) rfl rfl rfl (by kernel_rfl) ?_;refine RunE.one ((wV rfl rfl rfl (by omega) (by omega)).sub (zD (n:=(((g+1)%xs.length:Nat):Int)) (by rw [Int.natCast_emod]))) rfl rfl rfl (by kernel_rfl) ?_;refine RunE.one (zi rfl rfl rfl (by omega) (y:=rb xs g) (wQ m2)) rfl rfl rfl (by kernel_rfl) ?_;refine RunE.one ((show OpOK _ _ _ _ _ (zl (pc (rb xs g))) from zF rfl rfl rfl rfl)) rfl rfl rfl (by kernel_rfl) ?_;refine RunE.one (ze rfl rfl (show zp _ _ _ _ (intS .i64 n) from by rw [hn];exact zgo o1.1 o2.1 o3.1 (by have:=o1.2;have:=o2.2;have:=o3.2;omega))) rfl rfl rfl (by kernel_rfl) ?_;refine RunE.one (zB rfl rfl (by decide) rfl (by simp) (by kernel_rfl) (by kernel_rfl)) rfl rfl rfl (by kernel_rfl) ?_
   refine RunE.nil ⟨_,rfl,?_⟩
   refine EffM.append 0 rfl rfl rfl rfl rfl rfl rfl hq (by rw [qa,htl];simp) (fun z hz=>by rw [List.mem_singleton.1 hz];rfl) (by unfold yP;simp;omega) (by unfold yP;simp;omega) fun q40 hq40=>⟨(.cons _ .slnil),?_⟩
   refine RunE.nil ?_;refine zg ?_;refine za ((g+1:Nat):Int) ?_;refine zg ?_
   exact⟨g+1,q40,⟨by omega,hq40⟩,by omega,zL (zb rfl (zb rfl (zb rfl (trivial)))) (by rw [hsu,List.flatMap_append];rfl)⟩
  ·obtain rfl:g=xs.length:=by omega
   have htk:(vc (wO xs)).take xs.length=(vc (wO xs)):=List.take_of_length_le (by rw [QI (by omega),hLl];exact Nat.le_refl _)
   rw [htk]
   refine zI ?_;refine zP (yU 0 3 rfl rfl hq (l:=(vc (wO xs))) (f:=Ux) (by rw [QI (by omega),hLl]) rfl (fun _ _=>rfl) (by unfold yP;omega)) ?_;refine zg ?_
   exact zj zt
theorem zcu {xs:List yE} (hr:Rw xs) (hx:xs.length≤1000000):zp Tryz.prog G 34 [zU 6 pc xs] (zm (ur (wO xs))):=by
 refine zs Tryz.func34 ?_;refine zg ?_;refine zf (zen hr hx) ?_;refine zz ?_;refine zJ ?_;refine zh ?_;refine zr ?_;refine zz ?_;refine zJ ?_;refine zQ ?_;refine wT 3 rfl fun lt=>?_
 unfold yP at lt
 refine yK (γ:=Nat) (fun g=>⟨_,[(4,intS .i64 (g:Nat)),(3,zU 1 Ux (vc (wO xs))),(0,zU 6 pc xs)],[],[],(0,false)⟩) (fun g=>g≤(vc (wO xs)).length∧∀ x∈(vc (wO xs)).take g,x=1) (fun g=>(vc (wO xs)).length-g) 0 ⟨Nat.zero_le _,fun x hx=>by simp at hx⟩ (yo (zb rfl (zb rfl (zb rfl (trivial))))) ?_
 rintro g ⟨hg,hall⟩
 refine zh ?_;refine zg ?_;refine zd (fun _ k10=>?_) fun _ k10=>?_
 ·obtain⟨n,hn⟩:∃ n,(vc (wO xs))[g]? =some n:=⟨_,List.getElem?_eq_getElem (by omega)⟩
  refine zE ?_;refine zh ?_;refine zg ?_;refine zo (zi rfl rfl rfl (by omega) (y:=n) (hn)) ?_;refine zg ?_;refine zd (fun _ k17=>?_) fun _ k17=>?_
  ·refine zg ?_
   exact zj (zu (e:=by rw [zmq hn k17]))
  ·refine zg ?_;refine za ((g+1:Nat):Int) ?_;refine zg ?_
   exact⟨g+1,⟨by omega,zjL hn k17 hall⟩,by omega,yo zk⟩
 ·have hcs:=zoi (l:=wO xs) (by rw [show g=(vc (wO xs)).length by omega,List.take_length] at hall;exact hall)
  refine zI ?_;refine zg ?_;refine zf (UR hr hx) ?_;refine zg ?_
  exact zj (zu (e:=by rw [hcs]))
theorem VW {s:Sc} {k:Nat} (h:VOk s k):zp Tryz.prog G 12 [zl (Yn s)] (intS .i64 (tris s:Nat)):=by
 have hol:=h.ol
 refine zs Tryz.func12 ?_;refine zr ?_;(iterate 2 refine zz ?_);refine zx ?_;refine zz ?_;refine zJ ?_;refine zh ?_;refine zg ?_;refine yK (γ:=Nat) (fun g=>⟨_,[(4,intS .i64 (g:Nat)),(3,intS .i64 (trisN s g:Nat)),(1,zT (Yn s))],[],[],(0,false)⟩) (fun g=>g≤s.2.1.length∧trisN s g≤1000000*g) (fun g=>s.2.1.length-g) 0 ⟨Nat.zero_le _,Nat.le_refl _⟩ (yo zk) ?_
 rintro g ⟨hg,hgt⟩
 refine zh ?_;refine zg ?_;refine zd (fun _ k9=>?_) fun _ k9=>?_
 ·obtain⟨r,hr⟩:∃ r,s.2.1[g]? =some r:=⟨_,List.getElem?_eq_getElem (by omega)⟩
  have hrl:=h.orl _ (List.mem_of_getElem? hr)
  have hsu:=qB hr
  refine zE ?_;refine zh ?_;refine zg ?_;refine zo (zi rfl rfl rfl (by omega) (y:=r) (hr)) ?_;refine zg ?_;refine zo (yA (z:=(r.length:Int)-2) rfl rfl rfl (congrArg some (by omega)) (wrap_i64 (by omega) (by omega))) ?_;refine zo ((YC rfl rfl rfl).sub (zD (n:=((r.length-2:Nat):Int)) (by omega))) ?_;refine za ((trisN s (g+1):Nat):Int) ?_;refine zg ?_;refine za ((g+1:Nat):Int) ?_;refine zg ?_
  exact⟨g+1,⟨by omega,by omega⟩,by omega,yo zk⟩
 ·refine zI ?_;refine zg ?_
  exact zj (zu (e:=by rw [←za2,show s.2.1.length=g by omega]))
theorem zcv {s:Sc} {k:Nat} (h:VOk s k):zp Tryz.prog G 33 [zl (Yn s)] (zm (uE s)):=by
 have hol:=h.ol
 have hrl:=h.rl
 have hql:=h.ql
 refine zs Tryz.func33 ?_;refine zr ?_;(iterate 2 refine zz ?_);refine zJ ?_;refine zh ?_;refine xS (K:=fun S1=>∃ c:Bool,(c=true→uE s=false)∧(c=false→3≤s.1.length∧s.1.length≤6∧s.2.1.length≤4∧s.2.2.length≤8∧tris s≤6)∧Ent S1 ⟨54,[(30,zm c),(1,zT (Yn s))],[],[],(0,false)⟩) ?_ ?_
 ·refine zO ?_;(iterate 3 refine zz ?_)
  refine Run.oneB (zZ rfl rfl rfl rfl) rfl rfl rfl (fun h1_3=>?_) (fun h1_3=>?_)
  ·have k1_3:=of_decide_eq_true h1_3
   refine zg ?_
   exact⟨true,(fun _=>qQ (.inl (by omega))),(fun h=>by cases h),yo (zb rfl (zb rfl (trivial)))⟩
  ·have k1_3:=of_decide_eq_false h1_3
   iterate 5 refine zz ?_
   refine Run.oneB (wg rfl rfl rfl) rfl rfl rfl (fun h1_9=>?_) (fun h1_9=>?_)
   ·have k1_9:=of_decide_eq_true h1_9
    refine zg ?_
    exact⟨true,(fun _=>qQ (.inr (.inl (by omega)))),(fun h=>by cases h),yo (zb rfl (zb rfl (trivial)))⟩
   ·have k1_9:=of_decide_eq_false h1_9
    iterate 5 refine zz ?_
    refine Run.oneB (wg rfl rfl rfl) rfl rfl rfl (fun h1_15=>?_) (fun h1_15=>?_)
    ·have k1_15:=of_decide_eq_true h1_15
     refine zg ?_
     exact⟨true,(fun _=>qQ (.inr (.inr (.inl (by omega))))),(fun h=>by cases h),yo (zb rfl (zb rfl (trivial)))⟩
    ·have k1_15:=of_decide_eq_false h1_15
     iterate 5 refine zz ?_
     refine Run.oneB (wg rfl rfl rfl) rfl rfl rfl (fun h1_21=>?_) (fun h1_21=>?_)
     ·have k1_21:=of_decide_eq_true h1_21
      refine zg ?_
      exact⟨true,(fun _=>qQ (.inr (.inr (.inr (.inl (by omega)))))),(fun h=>by cases h),yo (zb rfl (zb rfl (trivial)))⟩
     ·have k1_21:=of_decide_eq_false h1_21
      refine zg ?_;refine zf (VW h) ?_;refine zg ?_
      exact⟨_,(fun h=>qQ (.inr (.inr (.inr (.inr (by have:=of_decide_eq_true h;omega)))))),(fun h=>by have:=of_decide_eq_false h;omega),yo (zb rfl (zb rfl (trivial)))⟩
 ·rintro S1 ⟨c,hc1,hc2,hS1⟩
  refine wG hS1 ?_;refine wE (fun h30=>?_) fun h30=>?_
  ·refine zg ?_
   exact zj (zu (e:=by rw [hc1 h30]))
  ·obtain⟨c1,c2,c3,c4,c5⟩:=hc2 h30
   refine zE ?_;refine zh ?_;refine zg ?_
   refine yK (γ:=Nat) (fun g=>⟨_,[(3,intS .i64 (g:Nat)),(1,zT (Yn s))],[],[],(0,false)⟩) (fun g=>g≤s.2.1.length∧∀ r∈s.2.1.take g,inB r.length 6=true) (fun g=>s.2.1.length-g) 0 ⟨Nat.zero_le _,fun x hx=>by simp at hx⟩ (yo (zb rfl (zb rfl (trivial)))) ?_
   rintro g ⟨hg,hall⟩
   refine zh ?_;refine zg ?_;refine zd (fun _ k35=>?_) fun _ k35=>?_
   ·obtain⟨r,hr⟩:∃ r,s.2.1[g]? =some r:=⟨_,List.getElem?_eq_getElem (by omega)⟩
    have hrl2:=h.orl _ (List.mem_of_getElem? hr)
    refine zE ?_;refine zh ?_;refine zQ ?_;refine xS (K:=fun S1=>Ent S1 ⟨54,[(53,zm (!inB r.length 6)),(3,intS .i64 (g:Nat)),(1,zT (Yn s))],[],[],(0,false)⟩) ?_ ?_
    ·refine zg ?_;refine zo (zi rfl rfl rfl (by omega) (y:=r) (hr)) ?_;(iterate 2 refine zz ?_)
     refine Run.oneB (zZ rfl rfl rfl rfl) rfl rfl rfl (fun h6_6=>?_) (fun h6_6=>?_)
     ·have k6_6:=of_decide_eq_true h6_6
      refine zg ?_
      exact (by rw [show inB r.length 6=false by unfold inB;rw [decide_eq_false (by omega)];rfl];exact yo (zb rfl (zb rfl (zb rfl (trivial)))))
     ·have k6_6:=of_decide_eq_false h6_6
      refine zg ?_;refine zo (zi rfl rfl rfl (by omega) (y:=r) (hr)) ?_;refine zg ?_
      exact (by rw [show (!inB r.length 6)=decide ((6:Int)<(r.length:Nat)) by unfold inB;rw [decide_eq_true (by omega),Bool.true_and,←decide_not];exact decide_eq_decide.2 (by omega)];exact yo (zb rfl (zb rfl (zb rfl (trivial)))))
    ·intro S1 hS1
     refine wG hS1 ?_;refine wE (fun h53=>?_) fun h53=>?_
     ·refine zg ?_
      exact zj (zu (e:=by rw [zoj (List.mem_of_getElem? hr) (by simpa using h53)]))
     ·refine zg ?_;refine za ((g+1:Nat):Int) ?_;refine zg ?_
      exact⟨g+1,⟨by omega,UM hr (by simpa using h53) hall⟩,by omega,yo (zb rfl (zb rfl (trivial)))⟩
   ·refine zI ?_;refine zg ?_
    exact zj (zu (e:=by rw [zok c1 c2 c3 c4 c5 (by rw [show g=s.2.1.length by omega,List.take_length] at hall;exact hall)]))
theorem XQ {s:Sc} {k:Nat} (h:VOk s k) (h1:Rw s.1) (h2:∀ r∈s.2.1,Rw r):zp Tryz.prog G 11 [zl (Yn s)] (intS .i64 (vx s)):=by
 have hol:=h.ol
 refine zs Tryz.func11 ?_;refine zr ?_;(iterate 2 refine zz ?_);refine zJ ?_;refine zh ?_;refine zg ?_;refine zf (zcv h) ?_;refine zg ?_;refine wE (fun h6=>?_) fun h6=>?_
 ·have g0:uE s=false:=by simpa using h6
  refine zg ?_
  exact zj (zu (e:=by rw [zji g0]))
 ·have g0:uE s=true:=by simpa using h6
  refine zE ?_;refine zh ?_;refine zg ?_;refine zf (zcu h1 h.rl) ?_;refine zg ?_;refine wE (fun h10=>?_) fun h10=>?_
  ·have g1:ur (wO s.1)=false:=by simpa using h10
   refine zg ?_
   exact zj (zu (e:=by rw [zjN g0 g1]))
  ·have g1:ur (wO s.1)=true:=by simpa using h10
   refine zE ?_;refine zh ?_;refine zg ?_
   refine yK (γ:=Nat) (fun g=>⟨_,[(3,intS .i64 (g:Nat)),(1,zT (Yn s))],[],[],(0,false)⟩) (fun g=>g≤s.2.1.length∧∀ r∈s.2.1.take g,vN (wO r)=true) (fun g=>s.2.1.length-g) 0 ⟨Nat.zero_le _,fun x hx=>by simp at hx⟩ (yo (zb rfl (zb rfl (trivial)))) ?_
   rintro g ⟨hg,hall⟩
   refine zh ?_;refine zg ?_;refine zd (fun _ k15=>?_) fun _ k15=>?_
   ·obtain⟨r,hr⟩:∃ r,s.2.1[g]? =some r:=⟨_,List.getElem?_eq_getElem (by omega)⟩
    have hrm:=List.mem_of_getElem? hr
    have hrl2:=h.orl _ hrm
    refine zE ?_;refine zh ?_;refine zg ?_;refine zo (zi rfl rfl rfl (by omega) (y:=r) (hr)) ?_;refine zz ?_;refine zf (UR (h2 r hrm) hrl2) ?_;refine zg ?_;refine wE (fun h24=>?_) fun h24=>?_
    ·have g2:vN (wO r)=false:=by simpa using h24
     refine zg ?_
     exact zj (zu (e:=by rw [zmr g0 g1 hrm g2]))
    ·refine zg ?_;refine za ((g+1:Nat):Int) ?_;refine zg ?_
     exact⟨g+1,⟨by omega,UM hr (by simpa using h24) hall⟩,by omega,yo (zb rfl (zb rfl (trivial)))⟩
   ·refine zI ?_;refine zg ?_
    exact zj (zu (e:=by rw [zjO g0 g1 (by rw [show g=s.2.1.length by omega,List.take_length] at hall;exact hall)]))
end Go.Proofs
namespace Go.Proofs
open Go Go.Sv Num
variable {G:Imm}
theorem zjP (q:QS):Vm (Vm q)=q:=by
 unfold Vm
 refine Prod.ext (za4 _) (Prod.ext ?_ ?_)
 ·show (q.2.1.map uh).map uh=q.2.1
  rw [List.map_map];exact YX (fun l=>za4 l) _
 ·show (q.2.2.map fun p=>(wB p.1,wB p.2)).map (fun p=>(wB p.1,wB p.2))=q.2.2
  rw [List.map_map];exact YX (fun p=>Prod.ext (ZJ p.1) (ZJ p.2)) _
theorem zjQ (q:QS):zca (zca q)=q:=by
 unfold zca
 refine Prod.ext rfl (Prod.ext rfl ?_)
 show (q.2.2.map Js).map Js=q.2.2
 rw [List.map_map];exact YX (fun _=>rfl) _
theorem zmt {s:Sc} {k n:Nat} (h:ScOk s k n):(∀p∈uN (Yj s),Bq p.1 k∧Bq p.2 k)∧(uN (Yj s)).length≤n∧(Yj s).2.1.length+(Yj s).2.2.length+1≤n:=by
 have hp:uN (Yj s)=(Je s).map pv:=by
  rw [zpd];unfold uN Yj obP quP
  rw [List.append_assoc,List.flatMap_map];rfl
 refine⟨fun p hp2=>?_,by rw [hp,List.length_map];exact h.len,by have:=h.row;rw [ZI] at this;unfold Yj;simpa using this⟩
 rw [hp] at hp2
 obtain⟨r,hr,rfl⟩:=List.mem_map.1 hp2
 obtain⟨x,hx,hrx⟩:=List.mem_flatMap.1 hr
 have ho:=h.pt x hx r hrx
 exact⟨(yY ho.1 h.pos).bq,(yY ho.2 h.pos).bq⟩
theorem zcw {α:Type} (l:List (α×α)):(l.flatMap fun q=>[q.1,q.2]).length=2*l.length:=by
 induction l with
 | nil=>rfl
 | cons x l ih=>rw [List.flatMap_cons,List.length_append,ih,List.length_cons];simp;omega
theorem zmu (l:List (List V2)):(l.map uh).flatten.length=l.flatten.length:=by
 induction l with
 | nil=>rfl
 | cons x l ih=>rw [List.map_cons,List.flatten_cons,List.flatten_cons,List.length_append,List.length_append,ih,WA]
theorem zeo {l:List V2} {p:V2} (h:p∈uh l):∃ q∈l,p=wB q:=by
 unfold uh at h
 obtain⟨q,hq,rfl⟩:=List.mem_map.1 h
 exact⟨q,zdY.1 hq,rfl⟩
theorem zom {q:QS} {p:V2} (h:p∈uN (Vm q)):∃ x∈uN q,p=wB x:=by
 unfold uN Vm at h
 unfold uN
 rcases List.mem_append.1 h with h | h
 ·obtain⟨x,hx,e⟩:=zeo h
  exact⟨x,List.mem_append_left _ hx,e⟩
 rcases List.mem_append.1 h with h | h
 ·obtain⟨r,hr,hp⟩:=List.mem_flatten.1 h
  obtain⟨r0,h0,rfl⟩:=List.mem_map.1 hr
  obtain⟨x,hx,e⟩:=zeo hp
  exact⟨x,List.mem_append_right _ (List.mem_append_left _ (List.mem_flatten.2 ⟨r0,h0,hx⟩)),e⟩
 ·obtain⟨r,hr,hp⟩:=List.mem_flatMap.1 h
  obtain⟨r0,h0,rfl⟩:=List.mem_map.1 hr
  rcases List.mem_cons.1 hp with rfl | hp
  ·exact⟨r0.1,List.mem_append_right _ (List.mem_append_right _ (List.mem_flatMap.2 ⟨r0,h0,by simp⟩)),rfl⟩
  ·rw [List.mem_singleton.1 hp]
   exact⟨r0.2,List.mem_append_right _ (List.mem_append_right _ (List.mem_flatMap.2 ⟨r0,h0,by simp⟩)),rfl⟩
theorem zon {q:QS} {p:V2} (h:p∈uN (zca q)):p∈uN q:=by
 unfold uN zca at h
 unfold uN
 rcases List.mem_append.1 h with h | h
 ·exact List.mem_append_left _ h
 rcases List.mem_append.1 h with h | h
 ·exact List.mem_append_right _ (List.mem_append_left _ h)
 ·obtain⟨r,hr,hp⟩:=List.mem_flatMap.1 h
  obtain⟨r0,h0,rfl⟩:=List.mem_map.1 hr
  refine List.mem_append_right _ (List.mem_append_right _ (List.mem_flatMap.2 ⟨r0,h0,?_⟩))
  rcases List.mem_cons.1 hp with rfl | hp
  ·exact List.mem_cons_of_mem _ List.mem_cons_self
  ·rw [List.mem_singleton.1 hp];exact List.mem_cons_self
theorem zcx {s:Sc} {k n:Nat} (h:ScOk s k n):ScOk (UB (Vm (Yj s))) k n:=by
 obtain⟨h1,h2,h3⟩:=zmt h
 refine qj h.pos (fun p hp=>?_) ?_ (by show ((Yj s).2.1.map uh).length+((Yj s).2.2.map _).length+1≤n;rw [List.length_map,List.length_map];exact h3)
 ·obtain⟨x,hx,rfl⟩:=zom hp
  have:=(h1 x hx).1
  exact⟨(bq_neg:Bq (-x.1) k),(h1 x hx).2⟩
 ·unfold uN at h2 ⊢
  show (uh (Yj s).1++(((Yj s).2.1.map uh).flatten++((Yj s).2.2.map fun p=>(wB p.1,wB p.2)).flatMap fun q=>[q.1,q.2])).length≤n
  rw [List.length_append,List.length_append,zcw,zmu,WA,List.length_map]
  rw [List.length_append,List.length_append,zcw] at h2
  exact h2
theorem zpR {s:Sc} {k n:Nat} (h:ScOk s k n):ScOk (UB (zca (Yj s))) k n:=by
 obtain⟨h1,h2,h3⟩:=zmt h
 refine qj h.pos (fun p hp=>h1 p (zon hp)) ?_ (by show (Yj s).2.1.length+((Yj s).2.2.map _).length+1≤n;rw [List.length_map];exact h3)
 unfold uN at h2 ⊢
 show ((Yj s).1++((Yj s).2.1.flatten++((Yj s).2.2.map Js).flatMap fun q=>[q.1,q.2])).length≤n
 rw [List.length_append,List.length_append,zcw,List.length_map]
 rw [List.length_append,List.length_append,zcw] at h2
 exact h2
theorem zbf (s:Sc) (k:Int):vx (YA s k)=vx s∧tris (YA s k)=tris s:=by
 refine za3 (s:=s) (t:=YA s k) (show (vy s.1 k false).length=_ from vd ..) (by show ur ((vy s.1 k false).map pv)=_;rw [Qy,zlG]) ?_ rfl
 show ((Vk s.2.1.length (Vn s.2.1 k)).map VU).Perm _
 have:(Vk s.2.1.length (Vn s.2.1 k)).map VU=(s.2.1.map VU).reverse:=by
  refine List.ext_getElem? fun i=>?_
  by_cases h:i<s.2.1.length
  ·rw [List.getElem?_reverse (by rw [List.length_map];exact h),List.getElem?_map,List.getElem?_map,List.length_map]
   have h2:s.2.1.length-1-i<s.2.1.length:=by omega
   have e1:(Vk s.2.1.length (Vn s.2.1 k))[i]? =some (Vn s.2.1 k i):=by unfold Vk;simp [h]
   have e2:s.2.1[s.2.1.length-1-i]? =some (s.2.1.getD (s.2.1.length-1-i) []):=by simp [h2]
   rw [e1,e2]
   show some (VU _)=some (VU _)
   congr 1
   unfold Vn VU
   split
   ·rw [UN,vd,qD,Qy,zhk,zdU]
   ·rw [vd,Qy,zdU]
  ·rw [List.getElem?_eq_none (by rw [List.length_map,Zp];omega),List.getElem?_eq_none (by rw [List.length_reverse,List.length_map];omega)]
 rw [this];exact List.reverse_perm _
theorem zhJ (l:List V2):(XE l).map pv=l:=JB l
theorem zmv (s:Sc):vx (UB (Vm (Yj s)))=vx s:=by
 refine (za3 (s:=s) (t:=UB (Vm (Yj s))) ?_ ?_ ?_ ?_).1
 ·show (XE (uh (Uy s.1))).length=_
  unfold XE Uy;rw [List.length_map,WA,List.length_map]
 ·show ur ((XE (uh (Uy s.1))).map pv)=_
  rw [zhJ,zlK];rfl
 ·show (((((s.2.1.map Uy).map uh).map XE)).map VU).Perm _
  rw [List.map_map,List.map_map,List.map_map]
  refine List.Perm.of_eq (List.map_congr_left fun r _=>?_)
  show VU (XE (uh (Uy r)))=VU r
  unfold VU
  rw [zhJ,zlJ]
  unfold XE Uy;rw [List.length_map,WA,List.length_map]
 ·show (((s.2.2.map pv2).map _).map zln).length=_
  rw [List.length_map,List.length_map,List.length_map]
theorem zhK {xs:List RP} (h:∀ p∈xs,xQ 6 p):Rw xs:=zms fun p hp=>⟨zpl (h p hp),by have:=znx (h p hp);omega⟩
theorem zbg {s:Sc} {n:Nat} (h:ScOk s 6 n):Rw s.1∧∀ r∈s.2.1,Rw r:=⟨zhK (h.pt _ (ux s)),fun _ hr=>zhK (h.pt _ (uy hr))⟩
theorem zhL {s:Sc} {k:Int} {r:List RP} (h:r∈(YA s k).2.1):∃ r0∈s.2.1,(∀p∈r,p∈r0)∧r.length=r0.length:=by
 replace h:r∈Vk s.2.1.length (Vn s.2.1 k):=h
 unfold Vk at h
 obtain⟨j,hj,rfl⟩:=List.mem_map.1 h
 have hj:=List.mem_range.1 hj
 have h2:s.2.1.length-1-j<s.2.1.length:=by omega
 refine⟨s.2.1.getD (s.2.1.length-1-j) [],by simp [h2],fun p hp=>?_,?_⟩
 ·unfold Vn at hp
  split at hp
  ·exact Qz (zdY.1 hp)
  ·exact Qz hp
 ·unfold Vn
  split
  ·rw [UN,vd]
  ·rw [vd]
theorem US {s:Sc} {k:Int} (hv:VOk s 6):VOk (YA s k) 6:=by
 refine⟨hv.pos,fun p hp=>hv.rob p (Qz (show p∈vy s.1 k false from hp)),fun r h p hp=>?_,by show (vy s.1 k false).length≤_;rw [vd];exact hv.rl,by show (Vk s.2.1.length (Vn s.2.1 k)).length≤_;rw [Zp];exact hv.ol,fun r h=>?_,hv.ql⟩
 ·obtain⟨r0,h0,h1,_⟩:=zhL h
  exact hv.obs r0 h0 p (h1 p hp)
 ·obtain⟨r0,h0,_,h2⟩:=zhL h
  rw [h2];exact hv.orl r0 h0
theorem zhM {s:Sc} {k:Int} (hv:VOk s 6):Rw (YA s k).1∧∀ r∈(YA s k).2.1,Rw r:=
 ⟨zhK (US hv).rob,fun _ h=>zhK ((US hv).obs _ h)⟩
theorem zcy {p:RP} (hl:qk p) (h:QB p=true):xQ 6 p:=by
 unfold QB at h
 rw [Bool.and_eq_true] at h
 have h1:=zd3 h.1
 have h2:=zd3 h.2
 exact⟨⟨hl.1.1,hl.1.2,by omega,by omega⟩,hl.2.1,hl.2.2,by omega,by omega⟩
theorem zpS {s:Sc} (hl:ScLim s) (h:FewP s):ScOk s 6 100:=by
 refine⟨by decide,fun x hx p hp=>?_,?_,by rw [ZI];have:=h.o;have:=h.q;omega⟩
 ·unfold scL at hx
  rcases List.mem_cons.1 hx with rfl | hx
  ·exact zcy (hl.rob p hp) (h.rp p hp)
  rcases List.mem_append.1 hx with hx | hx
  ·obtain⟨r,hr,rfl⟩:=List.mem_map.1 hx
   exact zcy (hl.obs r hr p hp) (h.op r hr p hp)
  ·obtain⟨q,hq,rfl⟩:=List.mem_map.1 hx
   rcases List.mem_cons.1 hp with rfl | hp
   ·exact zcy (hl.que q hq).1 (h.qp q hq).1
   ·rw [List.mem_singleton.1 hp];exact zcy (hl.que q hq).2 (h.qp q hq).2
 ·rw [qi,List.length_append,List.length_append,znk]
  have h1:=zpb s.2.1 fun x hx=>by have:=h.l x hx;omega
  have:=h.r;have:=h.o;have:=h.q
  omega
theorem zjR [Tab G] {s:Sc} {n:Nat} (h:ScOk s 6 n) (hn:n≤1000000):zp Tryz.prog G 8 [zl (XV (Vm (Yj s)))] (zl (XV (Yj s))):=by
 have:=(QA (G:=G) (zcx h) (by unfold cap;omega) hn).args (args':=[zl (XV (Vm (Yj s)))]) ⟨zg2,trivial⟩
 rwa [zbU,zjP] at this
theorem zjS [Tab G] {s:Sc} {n:Nat} (h:ScOk s 6 n) (hn:n≤1000000):zp Tryz.prog G 9 [zl (XV (zca (Yj s)))] (zl (XV (Yj s))):=by
 have:=(qI (G:=G) (zpR h) (by unfold cap;omega) hn).args (args':=[zl (XV (zca (Yj s)))]) ⟨zg2,trivial⟩
 rwa [zbU,zjQ] at this
theorem zjT {s:Sc} {n:Nat} (h:ScOk s 6 n) (hn:n≤1000000):zp Tryz.prog G 11 [zl (XV (Vm (Yj s)))] (intS .i64 (vx s)):=by
 have:=(XQ (G:=G) (VS (zcx h) hn) (zbg (zcx h)).1 (zbg (zcx h)).2).args (args':=[zl (XV (Vm (Yj s)))]) ⟨zg2,trivial⟩
 rwa [zmv] at this
theorem zjU {s:Sc} {n:Nat} {k:Int} (h:ScOk s 6 n) (hn:n≤1000000):zp Tryz.prog G 11 [zl (Yn (YA s k))] (intS .i64 (vx s)):=by
 have:=XQ (G:=G) (US (k:=k) (VS h hn)) (zhM (VS h hn)).1 (zhM (VS h hn)).2
 rwa [(zbf s k).1] at this
theorem zjV {s:Sc} {n:Nat} {k:Int} (h:ScOk s 6 n) (hn:n≤1000000):zp Tryz.prog G 12 [zl (Yn (YA s k))] (intS .i64 (tris s:Nat)):=by
 have:=VW (G:=G) (US (k:=k) (VS h hn))
 rwa [(zbf s k).2] at this
theorem qT [Tab G] [Tab10 G] [MaxLen G] {s:Sc} {k:Int} (hl:ScLim s):zp Tryz.prog G 3 [zl (Yn s),intS .i64 k] (zm true):=by
 refine zs Tryz.func3 ?_;refine zr ?_;(iterate 2 refine zz ?_);refine zJ ?_;refine zh ?_;refine zg ?_;refine Run.callH [] [] [] rfl rfl rfl rfl zlP rfl rfl rfl ?_
 rintro s8 H8 ⟨rfl,b8,rfl,hb8⟩
 refine zg ?_;refine wE (fun h9=>?_) fun h9=>?_
 ·refine zr ?_;refine zf zhD ?_;refine zg ?_
  exact zj zt
 ·have hf:=hb8 (by simpa using h9)
  have ho:=zpS hl hf
  have hv:=VS ho (by decide)
  refine zg ?_;refine zo (ze rfl rfl (zcq ho (by decide) (by decide))) ?_;refine xg fun b5=>?_;refine zw ?_;refine zJ ?_;refine zh ?_;refine zS 14 (by kernel_rfl) ?_;refine zz ?_;refine zo (ze rfl rfl (QA ho (by unfold cap;omega) (by decide))) ?_;refine zo (ze rfl rfl (zjR ho (by decide))) ?_;refine zz ?_;refine zo ((ze rfl rfl WI).sub (yx (c:=true) (by simp))) ?_;refine zg ?_;refine zo (ze rfl rfl (qI ho (by unfold cap;omega) (by decide))) ?_;refine zo (ze rfl rfl (zjS ho (by decide))) ?_;refine zz ?_;refine zo ((ze rfl rfl WI).sub (yx (c:=true) (by simp))) ?_;refine zg ?_;refine yM rfl rfl ?_;refine zg ?_;refine zo (ze rfl rfl (qJ ho (by decide))) ?_;refine xg fun b6=>?_;refine zw ?_;refine zJ ?_;refine zh ?_;refine zS 38 (by kernel_rfl) ?_;(iterate 6 refine zz ?_);refine zo ((zZ rfl rfl rfl rfl).sub (yx (c:=false) (by simp [YA,Zp]))) ?_;(iterate 7 refine zz ?_);refine zo ((zZ rfl rfl rfl rfl).sub (yx (c:=false) (by simp [YA,vd]))) ?_;refine zg ?_;refine zo (ze rfl rfl (zjU ho (by decide))) ?_;refine zz ?_;refine zf (XQ hv (zbg ho).1 (zbg ho).2) ?_;refine zo ((zZ rfl rfl rfl rfl).sub (yx (c:=false) (by simp))) ?_;refine zg ?_;refine zo (ze rfl rfl (QA ho (by unfold cap;omega) (by decide))) ?_;refine zo (ze rfl rfl (zjT ho (by decide))) ?_;refine zz ?_;refine zf (XQ hv (zbg ho).1 (zbg ho).2) ?_;refine zo ((zZ rfl rfl rfl rfl).sub (yx (c:=false) (by simp))) ?_;refine zg ?_;refine zo (ze rfl rfl (zjV ho (by decide))) ?_;refine zz ?_;refine zf (VW hv) ?_;refine zo ((zZ rfl rfl rfl rfl).sub (yx (c:=false) (by simp))) ?_;refine zg ?_;refine yM rfl rfl ?_;refine zg ?_;refine zf zhD ?_;refine zg ?_
  exact zj zt
end Go.Proofs
