/- straitref22.Small, straitref30.Few: scenes that may be asked. -/
import Derived.Test.YthhamejdmpjjlaaGreatDoorSpa
import Derived.Test.YthhamejdmpjjlaaGreatDoorSca
namespace Num
open Go Go.Proofs
def zlO (n m a b:Nat):Bool:=decide (n≤1)&&decide (m≤1)&&(decide (n=0)||decide (a≤999))&&(decide (m=0)||decide (b≤12))
def WC (q:Bool×List Nat×List Nat):Bool:=zlO q.2.1.length q.2.2.length (limb q.2.1 0) (limb q.2.2 0)
def QB (p:RP):Bool:=WC p.1&&WC p.2
theorem we {b:Bool} {l d:List Nat}:WC (b,l,d)=true↔l.length≤1∧d.length≤1∧(l.length=0∨limb l 0≤999)∧(d.length=0∨limb d 0≤12):=by
 unfold WC zlO
 simp only [Bool.and_eq_true,Bool.or_eq_true,decide_eq_true_eq,and_assoc]
theorem zd3 {q:Bool×List Nat×List Nat} (h:WC q=true):q.2.1.length≤1∧q.2.2.length≤1:=by
 unfold WC zlO at h
 simp only [Bool.and_eq_true,decide_eq_true_eq] at h
 exact h.1.1
theorem znH {α:Type} {p:α→Bool} {l:List α} {g:Nat} {x:α} (h:l[g]? =some x) (hn:(l.take g).all p=true) (hp:p x=true):(l.take (g+1)).all p=true:=by
 rw [List.take_add_one,h,List.all_append,hn];simp [hp]
theorem zho {α:Type} {p:α→Bool} {l:List α} {x:α} (h:x∈l) (hp:p x=false):l.all p=false:=List.all_eq_false.2 ⟨x,h,by simp [hp]⟩
structure FewP (s:Sc):Prop where
 r:s.1.length≤4
 o:s.2.1.length≤3
 q:s.2.2.length≤4
 l:∀ r∈s.2.1,r.length≤5
 rp:∀ p∈s.1,QB p=true
 op:∀ r∈s.2.1,∀p∈r,QB p=true
 qp:∀ x∈s.2.2,QB x.1=true∧QB x.2=true
def Zw (s:Sc) (g j:Nat):List RP:=s.1++(s.2.1.take g).flatten++(s.2.2.take j).flatMap fun x=>[x.1,x.2]
theorem zqj {l:List (List RP)} {g:Nat} {x:List RP} (h:l[g]? =some x):(l.take (g+1)).flatten=(l.take g).flatten++x:=by
 rw [List.take_add_one,h];simp
theorem zcc {l:List (List RP)} {g c:Nat} (h:∀ r∈l.take g,r.length≤c):(l.take g).flatten.length≤(l.take g).length*c:=by
  generalize l.take g=m at h
  induction m with
  | nil=>simp
  | cons x m ih=>
    rw [List.flatten_cons,List.length_append,List.length_cons,Nat.succ_mul]
    have:=h x (by simp);have:=ih (fun r hr=>h r (by simp [hr]));omega
theorem zpo {s:Sc} (h1:s.1.length≤4) (h2:s.2.1.length≤3) (h3:s.2.2.length≤4) (h4:∀ r∈s.2.1,r.length≤5) (h:(Zw s s.2.1.length s.2.2.length).all QB=true):FewP s:=by
 unfold Zw at h
 rw [List.take_length,List.take_length,List.all_eq_true] at h
 refine⟨h1,h2,h3,h4,fun p hp=>h p (by simp [hp]),fun r hr p hp=>h p ?_,fun x hx=>⟨h _ ?_,h _ ?_⟩⟩
 ·simp only [List.mem_append,List.mem_flatten];exact .inl (.inr ⟨r,hr,hp⟩)
 ·simp only [List.mem_append,List.mem_flatMap];exact .inr ⟨x,hx,by simp⟩
 ·simp only [List.mem_append,List.mem_flatMap];exact .inr ⟨x,hx,by simp⟩
end Num
namespace Go.Proofs
open Go Go.Sv Num
variable {G:Imm}
theorem za7 {b:Bool} {l d:List Nat}:zp Tryz.prog G 61 [zl [zm b,zy l,zy d]] (zm (WC (b,l,d))):=by
 refine zs Tryz.func61 ?_;refine zr ?_;(iterate 2 refine zz ?_);refine zx ?_;(iterate 4 refine zz ?_)
 refine Run.oneB (zZ rfl rfl rfl rfl) rfl rfl rfl (fun h1_4=>?_) (fun h1_4=>?_)
 ·have k1_4:=of_decide_eq_true h1_4
  iterate 5 refine zz ?_
  refine Run.oneB (wg rfl rfl rfl) rfl rfl rfl (fun h1_10=>?_) (fun h1_10=>?_)
  ·have k1_10:=of_decide_eq_true h1_10
   iterate 5 refine zz ?_
   refine Run.oneB (zZ rfl rfl rfl rfl) (gB rfl rfl rfl rfl) rfl rfl (fun h1_16=>?_) (fun h1_16=>?_)
   ·have k1_16:=beq_iff_eq.1 h1_16
    refine zz ?_;(iterate 6 refine zq ?_);(iterate 6 refine zz ?_)
    refine Run.oneB (zZ rfl rfl rfl rfl) (gB rfl rfl rfl rfl) rfl rfl (fun h1_30=>?_) (fun h1_30=>?_)
    ·have k1_30:=beq_iff_eq.1 h1_30
     refine zg ?_
     exact zj (zu (e:=congrArg zm (by first | exact (we.2 (by omega)).symm | exact (Bool.eq_false_iff.2 fun h=>by have:=we.1 h;omega).symm | (rw [Bool.eq_iff_iff,we,decide_eq_true_iff];omega))))
    ·have k1_30:=beq_eq_false_iff_ne.1 h1_30
     refine zg ?_;refine zo (zi rfl rfl rfl (by omega) (y:=limb d 0) (yV (by omega))) ?_;refine zg ?_
     exact zj (zu (e:=congrArg zm (by first | exact (we.2 (by omega)).symm | exact (Bool.eq_false_iff.2 fun h=>by have:=we.1 h;omega).symm | (rw [Bool.eq_iff_iff,we,decide_eq_true_iff];omega))))
   ·have k1_16:=beq_eq_false_iff_ne.1 h1_16
    refine zg ?_;refine zo (zi rfl rfl rfl (by omega) (y:=limb l 0) (yV (by omega))) ?_;(iterate 3 refine zz ?_)
    refine Run.oneB (wg rfl rfl rfl) rfl rfl rfl (fun h1_25=>?_) (fun h1_25=>?_)
    ·have k1_25:=of_decide_eq_true h1_25
     iterate 4 refine zz ?_
     refine Run.oneB (zZ rfl rfl rfl rfl) (gB rfl rfl rfl rfl) rfl rfl (fun h1_30=>?_) (fun h1_30=>?_)
     ·have k1_30:=beq_iff_eq.1 h1_30
      refine zg ?_
      exact zj (zu (e:=congrArg zm (by first | exact (we.2 (by omega)).symm | exact (Bool.eq_false_iff.2 fun h=>by have:=we.1 h;omega).symm | (rw [Bool.eq_iff_iff,we,decide_eq_true_iff];omega))))
     ·have k1_30:=beq_eq_false_iff_ne.1 h1_30
      refine zg ?_;refine zo (zi rfl rfl rfl (by omega) (y:=limb d 0) (yV (by omega))) ?_;refine zg ?_
      exact zj (zu (e:=congrArg zm (by first | exact (we.2 (by omega)).symm | exact (Bool.eq_false_iff.2 fun h=>by have:=we.1 h;omega).symm | (rw [Bool.eq_iff_iff,we,decide_eq_true_iff];omega))))
    ·have k1_25:=of_decide_eq_false h1_25
     refine zg ?_
     exact zj (zu (e:=congrArg zm (by first | exact (we.2 (by omega)).symm | exact (Bool.eq_false_iff.2 fun h=>by have:=we.1 h;omega).symm | (rw [Bool.eq_iff_iff,we,decide_eq_true_iff];omega))))
  ·have k1_10:=of_decide_eq_false h1_10
   refine zg ?_
   exact zj (zu (e:=congrArg zm (by first | exact (we.2 (by omega)).symm | exact (Bool.eq_false_iff.2 fun h=>by have:=we.1 h;omega).symm | (rw [Bool.eq_iff_iff,we,decide_eq_true_iff];omega))))
 ·have k1_4:=of_decide_eq_false h1_4
  refine zg ?_
  exact zj (zu (e:=congrArg zm (by first | exact (we.2 (by omega)).symm | exact (Bool.eq_false_iff.2 fun h=>by have:=we.1 h;omega).symm | (rw [Bool.eq_iff_iff,we,decide_eq_true_iff];omega))))
theorem zcd {xs:List RP}:zp Tryz.prog G 36 [zU 6 pc xs] (zm (xs.all QB)):=by
 refine zs Tryz.func36 ?_;refine zr ?_;refine zz ?_;refine zJ ?_;refine zh ?_;refine zr ?_;refine zz ?_;refine zJ ?_;refine zQ ?_;refine wT 0 rfl fun la=>?_
 unfold yP at la
 refine yK (γ:=Nat) (fun g=>⟨_,[(3,intS .i64 (g:Nat)),(0,zU 6 pc xs)],[],[],(0,false)⟩) (fun g=>g≤xs.length∧(xs.take g).all QB=true) (fun g=>xs.length-g) 0 ⟨Nat.zero_le _,rfl⟩ (yo zk) ?_
 rintro g ⟨hg,hal⟩
 refine zh ?_;refine zg ?_;refine zd (fun _ k7=>?_) fun _ k7=>?_
 ·obtain⟨⟨⟨b1,l1,d1⟩,⟨c1,m1,e1⟩⟩,hx⟩:∃ x,xs[g]? =some x:=⟨_,List.getElem?_eq_getElem (by omega)⟩
  refine zE ?_;refine zh ?_;refine zg ?_;refine zo (zi rfl rfl rfl (by omega) (y:=((b1,l1,d1),(c1,m1,e1))) (hx)) ?_;refine zg ?_;refine zf za7 ?_
  refine Run.oneB (ZU rfl rfl) rfl rfl rfl (fun h4_6=>?_) (fun h4_6=>?_)
  ·refine zg ?_;refine xt rfl rfl ?_;refine zg ?_
   exact zj (zu (e:=congrArg zm (zho (List.mem_of_getElem? hx) (by unfold QB;rw [show WC _=false from by simpa using h4_6];rfl)).symm))
  ·refine zg ?_;refine zo (zi rfl rfl rfl (by omega) (y:=((b1,l1,d1),(c1,m1,e1))) (hx)) ?_;refine zg ?_;refine zf za7 ?_;refine zg ?_;refine wE (fun h25=>?_) fun h25=>?_
   ·refine zg ?_
    exact zj (zu (e:=congrArg zm (zho (List.mem_of_getElem? hx) (by unfold QB;rw [show WC (c1,m1,e1)=false from by simpa using h25,Bool.and_false])).symm))
   ·refine zg ?_;refine za ((g+1:Nat):Int) ?_;refine zg ?_
    exact⟨g+1,⟨by omega,znH hx hal (by unfold QB;rw [show WC (b1,l1,d1)=true from by simpa using h4_6,show WC (c1,m1,e1)=true from by simpa using h25];rfl)⟩,by omega,yo (zb rfl (zb rfl (trivial)))⟩
 ·refine zI ?_;refine zg ?_
  exact zj (zu (e:=congrArg zm (by rw [←hal,show g=xs.length by omega,List.take_length])))
theorem zce {xs:List RP}:zp Tryz.prog G 13 [zU 6 pc xs] (zm (xs.all QB)):=by
 refine zs Tryz.func13 ?_;refine zg ?_;refine zf zcd ?_;refine zg ?_
 exact zj zt
theorem zlP {s:Sc}:CallSpec Tryz.prog G 4 [zl (Yn s)] [] (fun v H'=>H'=[]∧∃ b,v=zm b∧(b=true→FewP s)):=by
 refine zs Tryz.func4 ?_;refine zr ?_;(iterate 2 refine zz ?_);refine zJ ?_;refine zh ?_;refine zr ?_;(iterate 3 refine zz ?_)
 refine Run.oneB (zZ rfl rfl rfl rfl) rfl rfl rfl (fun h1_3=>?_) (fun h1_3=>?_)
 ·have k1_3:=of_decide_eq_true h1_3
  refine zg ?_;refine xt rfl rfl ?_;refine zg ?_;refine zj ?_
  exact⟨_,[],.one (.tmp rfl),List.nil_sublist _,rfl,false,rfl,fun h=>by cases h⟩
 ·have k1_3:=of_decide_eq_false h1_3
  iterate 5 refine zz ?_
  refine Run.oneB (wg rfl rfl rfl) rfl rfl rfl (fun h1_9=>?_) (fun h1_9=>?_)
  ·have k1_9:=of_decide_eq_true h1_9
   refine zg ?_;refine xt rfl rfl ?_;refine zg ?_;refine zj ?_
   exact⟨_,[],.one (.tmp rfl),List.nil_sublist _,rfl,false,rfl,fun h=>by cases h⟩
  ·have k1_9:=of_decide_eq_false h1_9
   refine zg ?_;refine zd (fun _ k22=>?_) fun _ k22=>?_
   ·refine zg ?_;refine zj ?_
    exact⟨_,[],.one (.tmp rfl),List.nil_sublist _,rfl,false,rfl,fun h=>by cases h⟩
   ·refine zg ?_;refine Run.buildRow rfl rfl rfl rfl rfl rfl (by decide) rfl (.inl rfl) rfl rfl fun b23 hb23=>?_;refine zg ?_;refine Run.append 0 rfl rfl rfl rfl rfl rfl rfl rfl hb23 rfl (fun _ _=>rfl) (by unfold yP;omega) (by unfold yP;omega) fun q26 hq26=>?_;refine zz ?_;refine zJ ?_;refine zh ?_
    have hA0:Zw s 0 0=s.1:=by unfold Zw;simp
    refine zg ?_
    refine Zh (fun (g:Nat) (q:Option (Nat×Nat)) (m:Nat)=>⟨_,[(5,intS .i64 (g:Nat)),(4,eqS (rowV q (Zw s g 0).length)),(3,intS .i64 (m:Nat)),(1,zT (Yn s))],[rowE q 41 6 (Zw s g 0).length ((Zw s g 0).flatMap pc)],[],(0,false)⟩) (fun g q m=>g≤s.2.1.length∧yu q (Zw s g 0).length∧m≤3*g∧∀ r∈s.2.1.take g,r.length≤5) (fun g _ _=>s.2.1.length-g) 0 q26 0 ⟨Nat.zero_le _,by rw [hA0];simpa using hq26,Nat.le_refl _,fun r h=>by simp at h⟩ (by rw [hA0];exact zL (zb rfl (xk rfl (congrArg eqS (by rw [Nat.zero_add])) (zb rfl (zb rfl (trivial))))) (by rw [Nat.zero_add];rfl)) ?_
    rintro g q m ⟨hg,hq,hm,hr5⟩
    refine zh ?_;refine zg ?_;refine zd (fun _ k31=>?_) fun _ k31=>?_
    ·obtain⟨row,hrow⟩:∃ row,s.2.1[g]? =some row:=⟨_,List.getElem?_eq_getElem (by omega)⟩
     have hfl:=zqj hrow
     have hlen:(Zw s g 0).length≤4+15:=by
      have h1:=zcc hr5
      rw [List.length_take] at h1
      unfold Zw;rw [List.length_append,List.length_append];simp only [List.take_zero,List.flatMap_nil,List.length_nil];omega
     have hAs:(Zw s (g+1) 0)=(Zw s g 0)++row:=by unfold Zw;rw [hfl];simp
     refine zE ?_;refine zh ?_;refine zQ ?_;refine zh ?_;refine zg ?_;refine zo (zi rfl rfl rfl (by omega) (y:=row) (hrow)) ?_;refine zg ?_;refine zd (fun _ k40=>?_) fun _ k40=>?_
     ·refine zg ?_;refine zj ?_
      exact⟨_,[],.one (.tmp rfl),List.nil_sublist _,rfl,false,rfl,fun h=>by cases h⟩
     ·refine zg ?_;refine zo (zi rfl rfl rfl (by omega) (y:=row) (hrow)) ?_;refine zg ?_;refine zo (yA (z:=(row.length:Int)-2) rfl rfl rfl (congrArg some (by omega)) (wrap_i64 (by omega) (by omega))) ?_;refine zo ((YC rfl rfl rfl).sub (zD (n:=((row.length-2:Nat):Int)) (by omega))) ?_;refine za ((m+(row.length-2):Nat):Int) ?_;refine zg ?_;refine zo (zi rfl rfl rfl (by omega) (y:=row) (hrow)) ?_;refine zz ?_;refine Run.append 0 rfl rfl rfl rfl rfl rfl rfl rfl hq (by rw [zb6]) (fun _ _=>rfl) (by unfold yP;omega) (by unfold yP;omega) fun q57 hq57=>?_;refine zg ?_;refine za ((g+1:Nat):Int) ?_;refine zg ?_
      exact⟨g+1,q57,m+(row.length-2),⟨by omega,by rw [hAs,List.length_append];exact hq57,by omega,UM hrow (by omega) hr5⟩,by omega,zL (zb rfl (xk rfl (congrArg eqS (by rw [hAs,List.length_append])) (zb rfl (zb rfl (trivial))))) (by rw [hAs,List.length_append,List.flatMap_append];rfl)⟩
    ·obtain rfl:g=s.2.1.length:=by omega
     rw [List.take_length] at hr5
     refine zI ?_;refine zh ?_;refine zg ?_;refine yX (fun (j:Nat) (q:Option (Nat×Nat))=>⟨_,[(6,intS .i64 (j:Nat)),(4,eqS (rowV q (Zw s s.2.1.length j).length)),(3,intS .i64 (m:Nat)),(1,zT (Yn s))],[rowE q 41 6 (Zw s s.2.1.length j).length ((Zw s s.2.1.length j).flatMap pc)],[],(0,false)⟩) (fun j q=>j≤s.2.2.length∧yu q (Zw s s.2.1.length j).length) (fun j _=>s.2.2.length-j) 0 q ⟨Nat.zero_le _,hq⟩ (zL zk rfl) ?_
     rintro j q ⟨hj,hq⟩
     refine zh ?_;refine zg ?_;refine zd (fun _ k62=>?_) fun _ k62=>?_
     ·obtain⟨⟨p1,p2⟩,hqu⟩:∃ x,s.2.2[j]? =some x:=⟨_,List.getElem?_eq_getElem (by omega)⟩
      have hlen:(Zw s s.2.1.length j).length≤4+15+8:=by
       have h1:=zcc (l:=s.2.1) (g:=s.2.1.length) (c:=5) (by rw [List.take_length];exact hr5)
       rw [List.length_take] at h1
       unfold Zw;rw [List.length_append,List.length_append,List.length_flatMap];simp only [List.length_cons,List.length_nil,List.map_const',List.sum_replicate_nat,List.length_take];omega
      have hAs:(Zw s s.2.1.length (j+1))=(Zw s s.2.1.length j)++[p1,p2]:=by unfold Zw;rw [List.take_add_one,hqu];simp
      refine zE ?_;refine zh ?_;refine zQ ?_;refine vj 15 [14] _ (by kernel_rfl) (.cons _ .slnil) ?_;refine RunE.one (zG rfl rfl) rfl rfl rfl (by kernel_rfl) ?_;refine RunE.one (zX rfl rfl rfl) rfl rfl rfl (by kernel_rfl) ?_;refine RunE.one (yN rfl rfl) rfl rfl rfl (by kernel_rfl) ?_;refine RunE.one (zG rfl rfl) rfl rfl rfl (by kernel_rfl) ?_;refine RunE.one (zi rfl rfl rfl (by omega) (y:=(p1,p2)) (hqu)) rfl rfl rfl (by kernel_rfl) ?_;refine RunE.one (zX rfl rfl rfl) rfl rfl rfl (by kernel_rfl) ?_;refine RunE.one ((show OpOK _ _ _ _ _ (zl (pc p1)) from zF rfl rfl rfl rfl)) rfl rfl rfl (by kernel_rfl) ?_;refine RunE.one (zX rfl rfl rfl) rfl rfl rfl (by kernel_rfl) ?_;refine RunE.one (yN rfl rfl) rfl rfl rfl (by kernel_rfl) ?_;refine RunE.one (zG rfl rfl) rfl rfl rfl (by kernel_rfl) ?_;refine RunE.one (zi rfl rfl rfl (by omega) (y:=(p1,p2)) (hqu)) rfl rfl rfl (by kernel_rfl) ?_;refine RunE.one (zX rfl rfl rfl) rfl rfl rfl (by kernel_rfl) ?_;refine RunE.one ((show OpOK _ _ _ _ _ (zl (pc p2)) from zF rfl rfl rfl rfl)) rfl rfl rfl (by kernel_rfl) ?_;refine RunE.one (zB rfl rfl (by decide) rfl (by simp) rfl rfl) rfl rfl rfl (by kernel_rfl) ?_
      refine RunE.nil ⟨_,rfl,?_⟩
      refine EffM.append 0 rfl rfl rfl rfl rfl rfl rfl hq (by rw [zb6]) (fun z hz=>by rcases List.mem_cons.1 hz with rfl | hz;rfl;rw [List.mem_singleton.1 hz];rfl) (by unfold yP;simp;omega) (by unfold yP;simp;omega) fun q79 hq79=>⟨(.cons _ .slnil),?_⟩
      refine RunE.nil ?_;refine zg ?_;refine za ((j+1:Nat):Int) ?_;refine zg ?_
      exact⟨j+1,q79,⟨by omega,by rw [hAs,List.length_append];exact hq79⟩,by omega,zL (zb rfl (xk rfl (congrArg eqS (by rw [hAs,List.length_append];rfl)) (zb rfl (zb rfl (trivial))))) (by rw [hAs,List.length_append,List.flatMap_append];rfl)⟩
     ·obtain rfl:j=s.2.2.length:=by omega
      have hlen:(Zw s s.2.1.length s.2.2.length).length≤4+15+8:=by
       have h1:=zcc (l:=s.2.1) (g:=s.2.1.length) (c:=5) (by rw [List.take_length];exact hr5)
       rw [List.length_take] at h1
       unfold Zw;rw [List.length_append,List.length_append,List.length_flatMap];simp only [List.length_cons,List.length_nil,List.map_const',List.sum_replicate_nat,List.length_take];omega
      refine zI ?_;refine zP (yU 0 4 rfl rfl hq (l:=(Zw s s.2.1.length s.2.2.length)) (f:=pc) rfl rfl (fun _ _=>rfl) (by unfold yP;omega)) ?_;refine zr ?_;refine zz ?_
      refine Run.oneB (zZ rfl rfl rfl rfl) rfl rfl rfl (fun h16_1=>?_) (fun h16_1=>?_)
      ·have k16_1:=of_decide_eq_true h16_1
       refine zg ?_;refine zf zce ?_;refine zg ?_;refine zj ?_
       exact⟨_,[],.one (.tmp rfl),List.nil_sublist _,rfl,_,rfl,fun h=>zpo (by omega) (by omega) (by omega) hr5 h⟩
      ·have k16_1:=of_decide_eq_false h16_1
       refine zg ?_;refine zj ?_
       exact⟨_,[],.one (.tmp rfl),List.nil_sublist _,rfl,false,rfl,fun h=>by cases h⟩
end Go.Proofs
namespace Num
open Go Go.Proofs
def spN (q:Rat) (f:Nat):List UInt8:=32::((if q.num<0 then [45] else [])++(dec (q.num.natAbs*f)++[47]++dec (q.den*f)))
def Yo (l:List V2):List Rat:=l.flatMap fun p=>[p.1,p.2]
def spL (w:List UInt8) (f:Nat) (l:List V2):List UInt8:=w++(Yo l).flatMap (spN · f)++[10]
theorem WD (l:List V2):(Yo l).length=2*l.length:=by
 unfold Yo
 induction l with
 | nil=>rfl
 | cons x l ih=>rw [List.flatMap_cons,List.length_append,ih,List.length_cons];simp;omega
theorem zd4:∀ {l:List V2} {g:Nat} {p:V2},l[g]? =some p→(Yo l)[2*g]? =some p.1∧(Yo l)[2*g+1]? =some p.2
  | [],g,p,h=>by simp at h
  | x::l,0,p,h=>by simp at h;subst h;exact⟨rfl,rfl⟩
  | x::l,g+1,p,h=>by
    have:=zd4 (l:=l) (g:=g) (by simpa using h)
    have e:∀ i,(Yo (x::l))[i+2]? =(Yo l)[i]? :=fun i=>rfl
    rw [show 2*(g+1)=2*g+2 by omega,show 2*g+2+1=2*g+1+2 by omega,e,e];exact this
theorem zd5 {l:List V2} {q:Rat} (h:q∈Yo l):∃ p∈l,q=p.1∨q=p.2:=by
 unfold Yo at h
 obtain⟨p,hp,h⟩:=List.mem_flatMap.1 h
 exact⟨p,hp,by simpa using h⟩
theorem zjt {a b f k:Nat} (h:a<4294967296^k) (hf:f≤9) (hb:b=a*f):b<4294967296^(k+1):=by
 rw [hb,Nat.pow_succ]
 exact Nat.lt_of_le_of_lt (Nat.mul_le_mul_left a (show f≤4294967296 by omega)) (Nat.mul_lt_mul_of_lt_of_le h (Nat.le_refl _) (by decide))
theorem zhp {q:Rat} {f k:Nat} (h:Bq q k) (hf:f≤9) (hk:k≤900):(spN q f).length≤40010:=by
 have h1:=zbL (zjt h.num hf rfl) (by omega)
 have h2:=zbL (zjt h.den hf rfl) (by omega)
 unfold spN;split <;> simp <;> omega
theorem WE {α:Type} {f:α→List UInt8} {c:Nat}:∀ {l:List α},(∀x∈l,(f x).length≤c)→(l.flatMap f).length≤l.length*c
  | [],_=>by simp
  | x::l,h=>by
    rw [List.flatMap_cons,List.length_append,List.length_cons,Nat.succ_mul]
    have:=h x (by simp);have:=WE (l:=l) fun y hy=>h y (by simp [hy]);omega
end Num
namespace Go.Proofs
open Go Go.Sv Num
variable {G:Imm}
def zd6 (l:List V2):List (List SV):=(Yo l).map fun q=>[zl (zR q)]
theorem zd7 (l:List V2):(zd6 l).length=2*l.length:=by unfold zd6;rw [List.length_map,WD]
theorem zd8 {l:List V2} {i:Nat} {q:Rat} (h:(Yo l)[i]? =some q):(zd6 l)[i]? =some [zl (zR q)]:=by unfold zd6;rw [List.getElem?_map,h];rfl
theorem zlQ {l:List V2} {i:Nat} {ss:List SV} (h:(zd6 l)[i]? =some ss):∃ q,(Yo l)[i]? =some q∧ss=[zl (zR q)]:=by
 unfold zd6 at h;rw [List.getElem?_map] at h
 cases hx:(Yo l)[i]? with
 | none=>rw [hx] at h;simp at h
 | some x=>rw [hx] at h;exact⟨x,rfl,(Option.some.inj h).symm⟩
theorem znI {l:List V2} {ss:List SV} (h:ss∈zd6 l):ss.length=1:=by
 obtain⟨x,_,rfl⟩:=List.mem_map.1 h;rfl
theorem zf8 [Tab G] {xs:List RP} {k:Nat} (hk:0<k) (hl:∀ p∈xs,xQ k p) (hs:2*k+11000≤cap) (hxl:xs.length≤cap):IterSpec Tryz.prog G 66 [zT [zU 6 pc xs]] (zd6 (xs.map pv)):=by
 have hxl0:=hxl
 unfold cap at hxl0
 have hvl:(xs.map pv).length=xs.length:=List.length_map _
 refine xH Tryz.func66 rfl rfl rfl rfl fun l E hy=>?_;refine zg ?_;refine zf (vE hk hl hs hxl) ?_;refine zg ?_;refine yK (γ:=Nat) (fun g=>⟨_,[(8,intS .i64 (g:Nat)),(7,intS .i64 (xs.map pv).length),(6,zU 6 yy (xs.map pv)),(0,yieldS l),(1,zT [zU 6 pc xs])],[],[],(2*g,false)⟩) (fun g=>g≤xs.length) (fun g=>xs.length-g) 0 (Nat.zero_le _) (yo zk) ?_
 intro g hg
 refine zr ?_;refine zz ?_;refine zJ ?_;refine zh ?_;refine zd (fun _ k9=>?_) fun _ k9=>?_
 ·obtain⟨p,hp⟩:∃ p,(xs.map pv)[g]? =some p:=⟨_,List.getElem?_eq_getElem (by omega)⟩
  obtain⟨hn1,hn2⟩:=zd4 hp
  refine zE ?_;refine zh ?_;refine zg ?_;refine zo (zi rfl rfl rfl (by omega) (y:=p) (hp)) ?_;refine zz ?_;refine xg fun b4=>?_;refine zg ?_;refine Run.yield rfl hy rfl rfl rfl (zd8 hn1) (xi _) rfl rfl rfl fun y1=>?_
  refine Run.oneB (ZU rfl rfl) rfl rfl rfl (fun h3_4=>?_) (fun h3_4=>?_)
  ·refine zg ?_;refine xt rfl rfl ?_;refine zj ?_
   exact⟨.inl rfl,.inr h3_4⟩
  ·obtain rfl:y1=true:=by simpa using h3_4
   refine zg ?_;refine Run.yield rfl hy rfl rfl rfl (zd8 hn2) (xi _) (gB rfl rfl rfl rfl) rfl rfl fun y2=>?_;refine zg ?_;refine wE (fun h23=>?_) fun h23=>?_
   ·refine zj ?_
    exact⟨.inl rfl,.inr h23⟩
   ·refine zE ?_;refine zP (zY (h':=[]) (List.nil_sublist _)) ?_;refine zO ?_;refine za ((g+1:Nat):Int) ?_;refine zg ?_
    exact⟨g+1,(by omega:g+1≤xs.length),by omega,rfl,zb rfl (zb rfl (zb rfl (zb rfl (zb rfl (trivial))))),xp _,rfl,by simp only;rw [h23];exact congrArg (·,false) (by omega)⟩
 ·refine zI ?_
  exact⟨.inr rfl,.inl (by rw [zd7,hvl,show g=xs.length by omega])⟩
theorem zju {xs:List RP}:zp Tryz.prog G 44 [zU 6 pc xs] (wp 66 [zT [zU 6 pc xs]]):=by
 refine zs Tryz.func44 ?_;refine zg ?_
 exact zj zt
theorem zcf [Tab G] [Tab10 G] {w t:List UInt8} {xs:List RP} {k b f:Nat} (hk:0<k) (hk9:k≤900) (hl:∀ p∈xs,xQ k p) (hxl:xs.length≤1000) (hf:f≤9) (htw:t.length+w.length≤2000000000):CallSpec Tryz.prog G 43 [xb w,zU 6 pc xs,eqS (.pointer (some ⟨b,0,none⟩)),zT [intS .u32 (f:Nat)]] [⟨some b,9,[xb (t)],0⟩] (fun v H'=>v=xn []∧H'=[⟨some b,9,[xb (t++spL w f (xs.map pv))],0⟩]):=by
 have hvl:(xs.map pv).length=xs.length:=List.length_map _
 refine zs Tryz.func43 ?_;refine zg ?_;refine zo (vD rfl rfl rfl (by omega)) ?_;refine zw ?_;refine zJ ?_;refine zh ?_;refine zg ?_;refine zf zju ?_;refine zg ?_
 refine ul rfl rfl (zf8 hk hl (by unfold cap;omega) (by unfold cap;omega)) (fun ss h=>znI h) (by decide) rfl
  (fun j h i=>i=(0,false)∧h=[⟨some b,9,[xb (t++w++((Yo (xs.map pv)).take j).flatMap (spN · f))],0⟩])
  (fun _ _ _=>False) ⟨rfl,by rw [List.take_zero,List.flatMap_nil,List.append_nil];rfl⟩ ?_ ?_ ?_
 ·rintro l j ss h i hj ⟨rfl,rfl⟩
  obtain⟨q,hq,rfl⟩:=zlQ hj
  have hlt:=yt hq
  rw [WD,hvl] at hlt
  have hqb:∀ q∈(Yo (xs.map pv)),Bq q k:=fun q hq=>by
   obtain⟨p,hp,h⟩:=zd5 hq
   obtain⟨x,hx,rfl⟩:=List.mem_map.1 hp
   have:=ug hk (hl x hx)
   rcases h with rfl | rfl
   ·exact this.1
   ·exact this.2
  haveI hb:=hqb q (List.mem_of_getElem? hq)
  have hfl:(((Yo (xs.map pv)).take j).flatMap (spN · f)).length≤2000*40010:=Nat.le_trans (WE fun x hx=>zhp (hqb x (List.mem_of_mem_take hx)) hf hk9) (Nat.mul_le_mul_right _ (by rw [List.length_take,WD,hvl];omega))
  have hfs:((Yo (xs.map pv)).take (j+1)).flatMap (spN · f)=((Yo (xs.map pv)).take j).flatMap (spN · f)++spN q f:=by rw [wo hq,List.flatMap_append];simp
  haveI z1:Sz (yz q.num.natAbs) k:=⟨zK hb.num⟩
  haveI z2:Sz (yz q.den) k:=⟨zK hb.den⟩
  haveI z3:Sz (yz (q.num.natAbs*f)) (k+1):=⟨zK (zjt hb.num hf rfl)⟩
  haveI z4:Sz (yz (q.den*f)) (k+1):=⟨zK (zjt hb.den hf rfl)⟩
  have d1:=zbL (zjt hb.num hf rfl) (by omega)
  have d2:=zbL (zjt hb.den hf rfl) (by omega)
  refine zO ?_;refine xg fun b6=>?_;refine zw ?_;refine zJ ?_
  refine⟨rfl,?_⟩
  refine zg ?_;refine zo (vD rfl rfl rfl (by simp only [List.length_append,List.length_cons,List.length_nil];omega)) ?_;refine zw ?_;refine zJ ?_;refine xS (K:=fun S1=>Ent S1 (⟨37,[(6,eqS (.pointer (some ⟨b6,0,none⟩))),(2,eqS (.pointer (some ⟨b,0,none⟩))),(3,zT [intS .u32 (f:Nat)])],[⟨some b6,39,zR q,0⟩,⟨some b,9,[xb (t++w++((Yo (xs.map pv)).take j).flatMap (spN · f)++[32]++(if q.num<0 then [45] else []))],0⟩],[],(0,false)⟩)) ?_ ?_
  ·refine zg ?_;refine wE (fun h17=>?_) fun h17=>?_
   ·refine zg ?_;refine zo (vD rfl rfl rfl (by simp only [List.length_append,List.length_cons,List.length_nil];omega)) ?_;refine zg ?_
    exact (by rw [if_pos (of_decide_eq_true h17)];exact zL (zb rfl (zb rfl (zb rfl (trivial)))) rfl)
   ·refine zE ?_
    exact (by rw [if_neg (of_decide_eq_false h17),List.append_nil];exact zL (zb rfl (zb rfl (zb rfl (trivial)))) rfl)
  ·intro S1 hS1
   refine wG hS1 ?_;refine Zu 15 (by kernel_rfl) ?_;refine zg ?_;refine zo (ze rfl rfl (KX (m:=q.num.natAbs) (d:=f) (k:=k) (by omega) (by unfold cap;omega))) ?_;refine zo (ze rfl rfl (zaL (n:=q.num.natAbs*f) (k:=k+1) (by unfold cap;omega))) ?_;refine zo (vD rfl rfl rfl (by simp only [List.length_cons,List.length_nil];omega)) ?_;refine zg ?_;refine zo (ze rfl rfl (KX (m:=q.den) (d:=f) (k:=k) (by omega) (by unfold cap;omega))) ?_;refine zo (ze rfl rfl (zaL (n:=q.den*f) (k:=k+1) (by unfold cap;omega))) ?_;refine zo (vD rfl rfl rfl (by simp only [List.length_append,List.length_cons,List.length_nil];omega)) ?_;refine zo (vD rfl rfl rfl (by split <;> simp only [List.length_append,List.length_cons,List.length_nil] <;> omega)) ?_;refine zJ ?_;refine zw ?_;refine Run.ghost _ rfl (zY (List.sublist_cons_self _ _)) ?_;refine zJ ?_
   refine⟨rfl,?_⟩
   refine ?_
   show ([⟨some b,9,[xb (t++w++((Yo (xs.map pv)).take j).flatMap (spN · f)++[32]++(if q.num<0 then [45] else [])++(dec (q.num.natAbs*f)++[47]++dec (q.den*f)))],0⟩]:HL)=[⟨some b,9,[xb (t++w++((Yo (xs.map pv)).take (j+1)).flatMap (spN · f))],0⟩]
   rw [hfs];unfold spN;simp only [List.append_assoc,List.cons_append,List.nil_append]
 ·rintro h i D ⟨rfl,rfl⟩
  rw [zd7,List.take_of_length_le (by rw [WD];exact Nat.le_refl _)]
  have hfl:((Yo (xs.map pv)).flatMap (spN · f)).length≤2000*40010:=Nat.le_trans (WE fun q hq=>zhp (k:=k) (by
   obtain⟨p,hp,h⟩:=zd5 hq
   obtain⟨x,hx,rfl⟩:=List.mem_map.1 hp
   have:=ug hk (hl x hx)
   rcases h with rfl | rfl
   ·exact this.1
   ·exact this.2) hf hk9) (Nat.mul_le_mul_right _ (by rw [WD,hvl];omega))
  refine zg ?_;refine zo (vD rfl rfl rfl (by simp only [List.length_append,List.length_cons,List.length_nil];omega)) ?_;refine zg ?_
  exact⟨_,[_],.none,List.Sublist.refl _,rfl,by unfold spL;simp only [List.append_assoc];rfl⟩
 ·intro h i D e c hc hInv;exact hInv.elim
end Go.Proofs
namespace Go.Sv
open Go Go.RowKit
section
variable {P:Program} {G:Imm} {E:Env} {r:Option Nat} {Q:Exit→St→Prop} {S:St}
def TR (P:Program) (G:Imm) (E:Env) (r:Option Nat) (c:Code) (Q:Exit→St→Prop):Nat→St→Prop
 | 0,_=>False
 | n+1,S=>T P G E r c S (VX (TR P G E r c Q n) Q)
theorem zlR {c:Code} (m:Nat) (h:TR P G E r c Q m S):T P G E r (.loop c) S Q:=by
  intro n I F a W hs
  let at_ (k:Nat) (a':Act) (W':World):Prop:=∃ S' I' F',TR P G E r c Q k S'∧Sat G E r S' I' F' a' W'∧Fram (own S F) I W (own S' F') I' W'
  refine wpIn_loop (fun a' W'=>∃ k,at_ k a' W') (fun a' W'=>zaf fun k=>at_ k a' W') ?_ ?_
  · exact⟨m,S,I,F,h,hs,Fram.refl _ _ _⟩
  · intro a' W' hI
    obtain⟨⟨S',I',F',hp,hs',hf⟩,_⟩:=Xf (p:=fun k=>at_ k a' W') hI
    obtain⟨k,hk⟩:∃ k,k=zaf fun k=>at_ k a' W':=⟨_,rfl⟩
    rw [←hk] at hp
    cases k with
    | zero=>exact hp.elim
    | succ k=>
      have hp:T P G E r c S' (VX (TR P G E r c Q k) Q):=hp
      refine wpIn_mono (hp n I' F' a' W' hs') fun e a'' W'' hq=>?_
      obtain⟨S'',I'',F'',h1,h2,h3⟩:=hq
      cases e with
      | normal=>
        have hat:at_ k a'' W'':=⟨S'',I'',F'',h2,h1,hf.trans h3⟩
        exact⟨⟨_,hat⟩,by have:=(Xf (p:=fun k=>at_ k a'' W'') ⟨_,hat⟩).2 _ hat;omega⟩
      | _=>exact⟨S'',I'',F'',h1,h2,hf.trans h3⟩
theorem znJ {b:Bool} {x y:Code} (ht:b=true→T P G E r x S Q) (hf:b=false→T P G E r y S Q):T P G E r (.cond (.const (.bool b)) x y) S Q:=fun n I F a W hs=>
 wpIn_cond_split (t:=b) rfl (fun h=>ht h n I F a W hs) (fun h=>hf h n I F a W hs)
theorem wR {c:Code} (h:T P G E r c S (VX (fun _=>False) Q)):T P G E r (.loop c) S Q:=zlR 1 h
end
end Go.Sv
namespace Go.Proofs
open Go Go.Sv Num
variable {G:Imm}
theorem zoy [Tab G] {p q:RP} {k:Nat} (hk:0<k) (hp:xQ k p) (hq:xQ k q) (hs:400*k+21000≤cap):zp Tryz.prog G 41 [zl (pc p),zl (pc q)] (zl (yy (Qt (pv p) (pv q)))):=by
 have i1:=yY (b:=p.1.1) hp.1 hk
 have i2:=yY (b:=p.2.1) hp.2 hk
 have i3:=yY (b:=q.1.1) hq.1 hk
 have i4:=yY (b:=q.2.1) hq.2 hk
 exact Qo (hx1:=i1) (hy1:=i2) (hx2:=i3) (hy2:=i4) (by omega)
theorem zd9 [Tab G] [Tab10 G] {xs:List RP} {k:Nat} (hk:0<k) (hk9:k≤900) (hl:∀ p∈xs,xQ k p) (hxl:xs.length≤1000):zp Tryz.prog G 17 [zl (Yn (xs,[],[])),intS .i64 2] (xb (spL YT 2 (xs.map pv))):=by
 refine zs Tryz.func17 ?_;refine zg ?_;refine xg fun b4=>?_;refine zx ?_;refine zz ?_;refine zo ((UY rfl rfl rfl).sub (zD (n:=((2:Nat):Int)) (by decide))) ?_;refine zo ((YC rfl rfl rfl).sub (zD (n:=((2:Nat):Int)) (by decide))) ?_;refine zo ((yQ (z:=((2:Nat):Int)) rfl rfl (by decide))) ?_;refine xg fun b5=>?_;refine zw ?_;refine zJ ?_;refine zP (uY 0 5 rfl rfl) ?_;refine zg ?_;refine Run.callVH [] [_] [] rfl rfl rfl rfl rfl (zcf (w:=YT) (t:=[]) hk hk9 hl hxl (by decide) (by decide)) rfl rfl rfl ?_
 rintro s19 H19 ⟨rfl,rfl⟩
 refine zJ ?_;refine zh ?_;refine zg ?_;refine wR ?_;refine zr ?_;refine zz ?_;refine zJ ?_;refine zh ?_;refine zd (fun h24 k24=>?_) fun _ k24=>?_
 ·exact (by simp at h24)
 ·refine zI ?_;refine zh ?_;refine zg ?_;refine wR ?_;refine zr ?_;refine zz ?_;refine zJ ?_;refine zh ?_;refine zd (fun h35 k35=>?_) fun _ k35=>?_
  ·exact (by simp at h35)
  ·refine zI ?_;refine zg ?_
   exact zj zt
theorem zf9 [Tab G] {pb:RP} {xs:List RP} {k:Nat} (hk:0<k) (hb:xQ k pb) (hl:∀ p∈xs,xQ k p) (hs:400*k+21000≤cap) (hxl:xs.length≤2000000000):zp Tryz.prog G 38 [zl (pc pb),zU 6 pc xs] (zU 6 yy (xs.map fun p=>Qt (pv p) (pv pb))):=by
 refine zs Tryz.func38 ?_;refine zr ?_;(iterate 2 refine zz ?_);refine zJ ?_;refine zh ?_;refine zP (yL 41 6) ?_;refine zg ?_;refine yX (fun (g:Nat) (q:Option (Nat×Nat))=>⟨_,[(9,intS .i64 (g:Nat)),(8,intS .i64 xs.length),(7,zU 6 pc xs),(4,eqS (rowV q g)),(2,zT (pc pb))],[rowE q 41 6 g (((xs.take g).map fun p=>Qt (pv p) (pv pb)).flatMap yy)],[],(0,false)⟩) (fun g q=>g≤xs.length∧yu q g) (fun g _=>xs.length-g) 0 none ⟨Nat.zero_le _,rfl⟩ (zL zk rfl) ?_
 rintro g q ⟨hg,hq⟩
 refine zr ?_;refine zz ?_;refine zJ ?_;refine zh ?_;refine zd (fun _ k10=>?_) fun _ k10=>?_
 ·obtain⟨x,hx⟩:∃ x,xs[g]? =some x:=⟨_,List.getElem?_eq_getElem (by omega)⟩
  have ho:=hl x (List.mem_of_getElem? hx)
  have hms:=zhi (fun p=>Qt (pv p) (pv pb)) hx
  refine zE ?_;refine zh ?_;refine zg ?_;refine zo (zi rfl rfl rfl (by omega) (y:=x) (hx)) ?_;refine zz ?_;refine xg fun b6=>?_;refine zg ?_;refine zf (zoy hk ho hb hs) ?_;refine zo (zB rfl rfl (by decide) rfl (by simp) rfl rfl) ?_;refine Run.append 1 rfl rfl rfl rfl rfl rfl rfl rfl hq (by rw [vO,List.length_map,List.length_take];omega) (fun z hz=>by rw [List.mem_singleton.1 hz];rfl) (by unfold yP;simp;omega) (by unfold yP;simp;omega) fun q18 hq18=>?_;refine zz ?_;refine zJ ?_;refine zP (zY (List.sublist_cons_self _ _)) ?_;refine zO ?_;refine za ((g+1:Nat):Int) ?_;refine zg ?_
  exact⟨g+1,q18,⟨by omega,hq18⟩,by omega,zL (zb rfl (zb rfl (zb rfl (zb rfl (zb rfl (trivial)))))) (by rw [hms,List.flatMap_append];rfl)⟩
 ·obtain rfl:g=xs.length:=by omega
  rw [List.take_length]
  refine zI ?_;refine zP (yU 0 4 rfl rfl hq (l:=xs.map fun p=>Qt (pv p) (pv pb)) (f:=yy) (by simp) rfl (fun _ _=>rfl) (by unfold yP;omega)) ?_;refine zg ?_
  exact zj zt
theorem zga [Tab G] {pb:RP} {xs:List RP} {k:Nat} (hk:0<k) (hb:xQ k pb) (hl:∀ p∈xs,xQ k p) (hs:400*k+21000≤cap) (hxl:xs.length≤2000000000):zp Tryz.prog G 37 [zU 6 pc xs,zT (pc pb)] (zU 6 yy (xs.map fun p=>Qt (pv p) (pv pb))):=by
 refine zs Tryz.func37 ?_;refine zg ?_;refine zf (zf9 hk hb hl hs hxl) ?_;refine zg ?_
 exact zj zt
theorem zgb [Tab G] {pb p:RP} {k:Nat} (hk:0<k) (hb:xQ k pb) (hp:xQ k p) (hs:400*k+21000≤cap):zp Tryz.prog G 40 [zl (pc p),zT (pc pb)] (zl (yy (Qt (pv p) (pv pb)))):=by
 refine zs Tryz.func40 ?_;refine zg ?_;refine xg fun b3=>?_;refine zg ?_;refine zf (zoy hk hp hb hs) ?_;refine zg ?_
 exact zj zt
theorem zgc [Tab G] {xs:List RP} {k:Nat} (hk:0<k) (hl:∀ p∈xs,xQ k p) (hs:2*k+11000≤cap) (hxl:xs.length≤cap):zp Tryz.prog G 39 [zU 6 pc xs] (zU 6 yy (xs.map pv)):=by
 refine zs Tryz.func39 ?_;refine zg ?_;refine zf (vE hk hl hs hxl) ?_;refine zg ?_
 exact zj zt
theorem zgd [Tab G] {pb:RP} {s:Sc} {k n:Nat} (h:ScOk s k n) (hb:xQ k pb) (hs:400*k+21000≤cap) (hn:n≤1000000):zp Tryz.prog G 14 [zl (Yn s),zl (pc pb)] (zl (XV (s.1.map pv,s.2.1.map (fun l=>l.map fun p=>Qt (pv p) (pv pb)),s.2.2.map fun q=>(Qt (pv q.1) (pv pb),Qt (pv q.2) (pv pb))))):=by
 have hrob:=h.pt _ (ux s)
 have hrl:=h.lrow (ux s)
 simp only at hrob hrl
 have hcap:cap=1073741824:=rfl
 have hM:=(za5 (G:=G) (fr:=39) (fw:=37) (fp:=40) (ce:=[]) (cw:=[zT (pc pb)]) (cp:=[zT (pc pb)]) (R:=fun l=>l.map pv) (W:=fun l=>l.map fun p=>Qt (pv p) (pv pb)) (Pp:=fun p=>Qt (pv p) (pv pb)) h hn (zgc h.pos hrob (by omega) (by omega)) (fun l hl=>zga h.pos hb (h.pt _ (uy hl)) hs (by have:=h.lrow (uy hl);simp only at this;omega)) (fun p hp=>zgb h.pos hb hp hs)).args (args':=[zl (Yn s),zT [eqS (.func (.func 39) #[] #[])],zT [wp 37 [zT (pc pb)]],zT [wp 40 [zT (pc pb)]]]) ⟨fun _ _ h=>h,zcb,fun _ _ h=>h,fun _ _ h=>h,trivial⟩
 refine zs Tryz.func14 ?_;refine zg ?_;refine xg fun b4=>?_;refine zg ?_;refine zS 5 (by kernel_rfl) ?_;refine zg ?_;refine zo (ze rfl rfl (zd1 (a:=eqS (.func (.func 39) #[] #[])) (b:=wp 37 [zT (pc pb)]) (c:=wp 40 [zT (pc pb)]))) ?_;refine zz ?_;refine zo ((yI rfl rfl rfl hM)) ?_;refine zg ?_
 exact zj zt
end Go.Proofs
namespace Num
open Go Go.Proofs
theorem Vg {α:Type} [Inhabited α] {p:α→Prop} {d:Array α} {i j:Nat} (h:∀ x∈d.toList,p x) (hi:i<d.size) (hj:j<d.size):∀ x∈(Sort.swp d i j).toList,p x:=fun x hx=>by
 unfold Sort.swp at hx
 rw [Array.toList_setIfInBounds,Array.toList_setIfInBounds] at hx
 have m:∀ k,k<d.size→d[k]! ∈d.toList:=fun k hk=>by rw [getElem!_pos d k hk];exact Array.mem_toList_iff.2 (Array.getElem_mem hk)
 rcases List.mem_or_eq_of_mem_set hx with hx | rfl
 ·rcases List.mem_or_eq_of_mem_set hx with hx | rfl
  ·exact h x hx
  ·exact h _ (m j hj)
 ·exact h _ (m i hi)
theorem xO {α:Type} [Inhabited α] {p:α→Prop} {d:Array α} {i:Nat} (h:∀ x∈d.toList,p x) (hi:i<d.size):p d[i]! :=by
 rw [getElem!_pos d i hi];exact h _ (Array.mem_toList_iff.2 (Array.getElem_mem hi))
end Num
namespace Num
open Go Go.Sort
section
variable {α:Type} [Inhabited α] (lt:α→α→Bool)
theorem qK {a j:Nat} {d:Array α} (hj:a<j) (hl:lt d[j]! d[j-1]! =true):insInner lt a j d=insInner lt a (j-1) (swp d j (j-1)):=by
 obtain⟨k,rfl⟩:∃ k,j=k+1:=⟨j-1,by omega⟩
 rw [insInner]
 simp only [Nat.add_sub_cancel] at hl ⊢
 simp [hj,hl]
theorem Zf {a j:Nat} {d:Array α} (h:j≤a∨lt d[j]! d[j-1]! =false):insInner lt a j d=d:=by
  cases j with
  | zero=>rw [insInner]
  | succ k=>
    rw [insInner]
    simp only [Nat.add_sub_cancel] at h
    rcases h with h | h
    · simp [show ¬k+1>a by omega]
    · simp [h]
theorem ZS {a b i:Nat} {d:Array α} (h:i<b):insOuter lt a b i d=insOuter lt a b (i+1) (insInner lt a i d):=by rw [insOuter,if_pos h]
theorem WF {a b i:Nat} {d:Array α} (h:¬ i<b):insOuter lt a b i d=d:=by rw [insOuter,if_neg h]
end
end Num
namespace Go.Proofs
open Go Go.Sv Num
variable {G:Imm}
abbrev Zq (l:Rat×Rat):List SV:=zR l.1++zR l.2
def uF (P:Program) (G:Imm) {α:Type} (f:α→List SV) (p:α→Prop) (lt:α→α→Bool) (fl:FuncId) (caps:List SV):Prop:=
 ∀x y,p x→p y→∃ z:Int,zp P G fl ([zl (f x),zl (f y)]++caps) (intS .i64 z)∧decide (z<0)=lt x y
theorem zea {x:Nat} (hx:x<256):zp Tryz.prog G 197 [intS .u64 x] (intS .i64 (Lib.bitLen x:Nat)):=by
 refine zs Tryz.func197 ?_;refine zr ?_;refine zz ?_;refine zJ ?_;refine zh ?_;refine zg ?_;refine zd (fun h4 k4=>?_) fun _ k4=>?_
 ·exact absurd (of_decide_eq_true h4) (by omega)
 ·refine zE ?_;refine zh ?_;refine zg ?_;refine zd (fun h8 k8=>?_) fun _ k8=>?_
  ·exact absurd (of_decide_eq_true h8) (by omega)
  ·refine zE ?_;refine zh ?_;refine zg ?_;refine zd (fun h14 k14=>?_) fun _ k14=>?_
   ·exact absurd (of_decide_eq_true h14) (by omega)
   ·refine zg ?_;refine zo (yQ rfl rfl (VY (by omega) (by omega))) ?_
    have hb:=uS hx
    refine zo (Ul rfl rfl rfl (by omega)) ?_;refine zo (yQ rfl rfl (wrap_i64 (by omega) (by omega))) ?_;refine za ((Lib.bitLen x:Nat):Int) ?_;refine zg ?_
    exact zj zt
theorem QC {x:Nat} (hx:x<256):zp Tryz.prog G 298 [intS .u64 x] (intS .i64 (Lib.bitLen x:Nat)):=by
 refine zs Tryz.func298 ?_;refine zr ?_;refine zz ?_;refine zJ ?_;refine zh ?_
 refine znJ (fun hNone=>?_) (fun hNone=>?_)
 ·cases hNone
 ·refine zg ?_;refine zf (zea hx) ?_;refine zg ?_
  exact zj zt
theorem zjv {d:Array (Rat)} {bb cc n:Nat} {fl:FuncId} {caps:List SV} {lt:Rat→Rat→Bool} {p:Rat→Prop} (hd:d.size=n) (hn:n≤1000000) (hp:∀ x∈d.toList,p x) (hlt:uF Tryz.prog G zR p lt fl caps) {a b:Nat} (hab:a≤b) (hb:b≤n):CallSpec Tryz.prog G 405 [eqS (rowV (some (bb,cc)) n),intS .i64 (a:Nat),intS .i64 (b:Nat),wp fl caps] [rowE (some (bb,cc)) 39 3 n (vZ zR d)] (fun v H'=>v=xn []∧H'=[rowE (some (bb,cc)) 39 3 n (vZ zR (Sort.insertionSort lt d a b))]):=by
 refine zs Tryz.func405 ?_;refine zg ?_;refine za ((a+1:Nat):Int) ?_;refine zg ?_
 refine yX (fun (i:Nat) (D:Array (Rat))=>⟨_,[(8,intS .i64 (i:Nat)),(0,eqS (rowV (some (bb,cc)) n)),(1,intS .i64 (a:Nat)),(2,intS .i64 (b:Nat)),(3,wp fl caps)],[rowE (some (bb,cc)) 39 3 n (vZ zR D)],[],(0,false)⟩) (fun i D=>D.size=n∧a<i∧i≤n+1∧(∀x∈D.toList,p x)∧Sort.insOuter lt a b i D=Sort.insertionSort lt d a b) (fun i _=>b-i) (a+1) d ⟨hd,by omega,by omega,hp,rfl⟩ (zL zk rfl) ?_
 rintro i D ⟨hD,hai,hin,hDp,hDo⟩
 refine zh ?_;refine zg ?_;refine zd (fun _ k14=>?_) fun _ k14=>?_
 ·refine zE ?_;refine zh ?_;refine zg ?_
  refine yX (fun (j:Nat) (E:Array (Rat))=>⟨_,[(9,intS .i64 (j:Nat)),(8,intS .i64 (i:Nat)),(0,eqS (rowV (some (bb,cc)) n)),(1,intS .i64 (a:Nat)),(2,intS .i64 (b:Nat)),(3,wp fl caps)],[rowE (some (bb,cc)) 39 3 n (vZ zR E)],[],(0,false)⟩) (fun j E=>E.size=n∧j<n∧(∀x∈E.toList,p x)∧Sort.insInner lt a j E=Sort.insInner lt a i D) (fun j _=>j) i D ⟨hD,by omega,hDp,rfl⟩ (zL zk rfl) ?_
  rintro j E ⟨hE,hj,hEp,hEi⟩
  refine zh ?_;refine zS 17 (by kernel_rfl) ?_;(iterate 2 refine zz ?_)
  refine Run.oneB (zZ rfl rfl rfl rfl) rfl rfl rfl (fun h4_2=>?_) (fun h4_2=>?_)
  ·have k4_2:=of_decide_eq_true h4_2
   obtain⟨z,hz1,hz2⟩:=hlt _ _ (xO hEp (i:=j) (by omega)) (xO hEp (i:=j-1) (by omega))
   refine zg ?_;refine zo ((yG (j) rfl rfl rfl rfl (by omega))) ?_;refine zo ((yO 0 (f:=zR) (fun _=>rfl) (d:=E) (i:=j) (by omega) rfl rfl rfl)) ?_;refine zg ?_;refine za ((j-1:Nat):Int) ?_;refine zo ((yG (j-1) rfl rfl rfl rfl (by omega))) ?_;refine zo ((yO 0 (f:=zR) (fun _=>rfl) (d:=E) (i:=j-1) (by omega) rfl rfl rfl)) ?_;refine zo ((yI rfl rfl rfl hz1)) ?_;refine zg ?_;refine zd (fun h34 k34=>?_) fun h34 k34=>?_
   ·have hl:lt E[j]! E[j-1]! =true:=hz2▸h34
    have hs1:(E.setIfInBounds j E[j-1]!).size=n:=by rw [Array.size_setIfInBounds];exact hE
    refine zE ?_;refine zh ?_;refine zQ ?_;refine vj 18 [15,17] _ (by kernel_rfl) (.cons _ .slnil) ?_;(iterate 2 refine RunE.one (zG rfl rfl) rfl rfl rfl (by kernel_rfl) ?_);(iterate 2 refine RunE.lat (zG rfl rfl) rfl rfl rfl ?_);refine RunE.lat (yA (z:=((j-1:Nat):Int)) rfl rfl rfl (congrArg some (by omega)) (wrap_i64 (by omega) (by omega))) rfl rfl rfl ?_;(iterate 2 refine RunE.one (zG rfl rfl) rfl rfl rfl (by kernel_rfl) ?_);refine RunE.one (yA (z:=((j-1:Nat):Int)) rfl rfl rfl (congrArg some (by omega)) (wrap_i64 (by omega) (by omega))) rfl rfl rfl (by kernel_rfl) ?_;refine RunE.one ((yG (j-1) rfl rfl rfl rfl (by omega))) rfl rfl rfl (by kernel_rfl) ?_;refine RunE.one ((yO 0 (f:=zR) (fun _=>rfl) (d:=E) (i:=j-1) (by omega) rfl rfl rfl)) rfl rfl rfl (by kernel_rfl) ?_;(iterate 2 refine RunE.one (zG rfl rfl) rfl rfl rfl (by kernel_rfl) ?_);refine RunE.one ((yG (j) rfl rfl rfl rfl (by omega))) rfl rfl rfl (by kernel_rfl) ?_;refine RunE.one ((yO 0 (f:=zR) (fun _=>rfl) (d:=E) (i:=j) (by omega) rfl rfl rfl)) rfl rfl rfl (by kernel_rfl) ?_;refine RunE.one ((yG (j) rfl rfl rfl rfl (by omega))) rfl rfl rfl (by kernel_rfl) ?_
    refine RunE.nil ⟨_,rfl,?_⟩
    refine .loc1n 0 (wC (f:=zR) (fun _=>rfl) (d:=E) (i:=j) (by omega) E[j-1]! rfl rfl rfl) rfl rfl rfl ?_
    rintro s1 H1 ⟨rfl,rfl⟩
    refine⟨(.cons _ .slnil),?_⟩
    refine RunE.one ((yG (j-1) rfl rfl rfl rfl (by omega))) rfl rfl rfl (by kernel_rfl) ?_
    refine RunE.nil ⟨_,rfl,?_⟩
    refine .loc1n 0 (wC (f:=zR) (fun _=>rfl) (d:=E.setIfInBounds j E[j-1]!) (i:=j-1) (by omega) E[j]! rfl rfl rfl) rfl rfl rfl ?_
    rintro s2 H2 ⟨rfl,rfl⟩
    refine⟨(.cons _ .slnil),?_⟩
    refine RunE.nil ?_;refine zg ?_;refine za ((j-1:Nat):Int) ?_;refine zg ?_
    exact⟨j-1,Sort.swp E j (j-1),⟨by rw [Sort.swp_size];exact hE,by omega,Vg hEp (by omega) (by omega),by rw [←qK lt (by omega) hl];exact hEi⟩,by omega,zL (zb rfl (zb rfl (zb rfl (zb rfl (zb rfl (zb rfl (trivial))))))) rfl⟩
   ·have hst:Sort.insInner lt a i D=E:=hEi.symm.trans (Zf lt (.inr (hz2▸h34)))
    refine zI ?_;refine zg ?_;refine za ((i+1:Nat):Int) ?_;refine zg ?_
    exact⟨i+1,E,⟨hE,by omega,by omega,hEp,by rw [←hst,←ZS lt (by omega)];exact hDo⟩,by omega,zL (zb rfl (zb rfl (zb rfl (zb rfl (zb rfl (trivial)))))) rfl⟩
  ·have k4_2:=of_decide_eq_false h4_2
   have hst:Sort.insInner lt a i D=E:=hEi.symm.trans (Zf lt (.inl (by omega)))
   refine zg ?_;refine yM rfl rfl ?_;refine zI ?_;refine zg ?_;refine za ((i+1:Nat):Int) ?_;refine zg ?_
   exact⟨i+1,E,⟨hE,by omega,by omega,hEp,by rw [←hst,←ZS lt (by omega)];exact hDo⟩,by omega,zL (zb rfl (zb rfl (zb rfl (zb rfl (zb rfl (trivial)))))) rfl⟩
 ·have hst:Sort.insertionSort lt d a b=D:=hDo.symm.trans (WF lt (by omega))
  refine zI ?_
  exact⟨_,[_],.none,List.Sublist.refl _,rfl,by rw [hst]⟩
theorem zge {d:Array (Rat)} {bb cc n:Nat} {fl:FuncId} {caps:List SV} {lt:Rat→Rat→Bool} {p:Rat→Prop} (hd:d.size=n) (hn:n≤1000000) (hp:∀ x∈d.toList,p x) (hlt:uF Tryz.prog G zR p lt fl caps) {k:Int} (h12:n≤12):CallSpec Tryz.prog G 340 [eqS (rowV (some (bb,cc)) n),intS .i64 0,intS .i64 (n:Nat),intS .i64 k,wp fl caps] [rowE (some (bb,cc)) 39 3 n (vZ zR d)] (fun v H'=>v=xn []∧H'=[rowE (some (bb,cc)) 39 3 n (vZ zR (Sort.insertionSort lt d 0 n))]):=by
 refine zs Tryz.func340 ?_;refine zg ?_;refine wR ?_;refine zg ?_;refine za ((n:Nat):Int) ?_;refine zz ?_;refine zJ ?_;refine zh ?_;refine zg ?_;refine zd (fun _ k25=>?_) fun h25 k25=>?_
 ·refine zg ?_;refine Run.callH [] [_] [] rfl rfl rfl rfl (zjv hd hn hp hlt (Nat.zero_le _) (Nat.le_refl _)) rfl rfl rfl ?_
  rintro s30 H30 ⟨rfl,rfl⟩
  refine zJ ?_;refine zj ?_
  exact⟨_,[_],.none,List.Sublist.refl _,rfl,rfl⟩
 ·exact absurd (of_decide_eq_false h25) (by omega)
theorem zeb {d:Array (Rat)} {bb cc n:Nat} {fl:FuncId} {caps:List SV} {lt:Rat→Rat→Bool} {p:Rat→Prop} (hd:d.size=n) (hn:n≤1000000) (hp:∀ x∈d.toList,p x) (hlt:uF Tryz.prog G zR p lt fl caps) (h12:n≤12) (hq:yu (some (bb,cc)) n):CallSpec Tryz.prog G 279 [eqS (rowV (some (bb,cc)) n),wp fl caps] [rowE (some (bb,cc)) 39 3 n (vZ zR d)] (fun v H'=>v=xn []∧H'=[rowE (some (bb,cc)) 39 3 n (vZ zR (Sort.insertionSort lt d 0 n))]):=by
 refine zs Tryz.func279 ?_;refine zg ?_;refine zo (xK rfl rfl hq) ?_;refine zg ?_;refine zo ((yQ (z:=((n:Nat):Int)) rfl rfl (xf (by omega) (by omega)))) ?_;refine zo (ze rfl rfl (QC (by omega))) ?_;refine zz ?_;refine Run.callH [] [_] [] rfl rfl rfl rfl (zge hd hn hp hlt h12) rfl rfl rfl ?_
 rintro s13 H13 ⟨rfl,rfl⟩
 refine zJ ?_
 exact⟨_,[_],.none,List.Sublist.refl _,rfl,rfl⟩
theorem zjw {d:Array (Rat×Rat)} {bb cc n:Nat} {fl:FuncId} {caps:List SV} {lt:Rat×Rat→Rat×Rat→Bool} {p:Rat×Rat→Prop} (hd:d.size=n) (hn:n≤1000000) (hp:∀ x∈d.toList,p x) (hlt:uF Tryz.prog G Zq p lt fl caps) {a b:Nat} (hab:a≤b) (hb:b≤n):CallSpec Tryz.prog G 465 [eqS (rowV (some (bb,cc)) n),intS .i64 (a:Nat),intS .i64 (b:Nat),wp fl caps] [rowE (some (bb,cc)) 350 6 n (vZ Zq d)] (fun v H'=>v=xn []∧H'=[rowE (some (bb,cc)) 350 6 n (vZ Zq (Sort.insertionSort lt d a b))]):=by
 refine zs Tryz.func465 ?_;refine zg ?_;refine za ((a+1:Nat):Int) ?_;refine zg ?_
 refine yX (fun (i:Nat) (D:Array (Rat×Rat))=>⟨_,[(8,intS .i64 (i:Nat)),(0,eqS (rowV (some (bb,cc)) n)),(1,intS .i64 (a:Nat)),(2,intS .i64 (b:Nat)),(3,wp fl caps)],[rowE (some (bb,cc)) 350 6 n (vZ Zq D)],[],(0,false)⟩) (fun i D=>D.size=n∧a<i∧i≤n+1∧(∀x∈D.toList,p x)∧Sort.insOuter lt a b i D=Sort.insertionSort lt d a b) (fun i _=>b-i) (a+1) d ⟨hd,by omega,by omega,hp,rfl⟩ (zL zk rfl) ?_
 rintro i D ⟨hD,hai,hin,hDp,hDo⟩
 refine zh ?_;refine zg ?_;refine zd (fun _ k14=>?_) fun _ k14=>?_
 ·refine zE ?_;refine zh ?_;refine zg ?_
  refine yX (fun (j:Nat) (E:Array (Rat×Rat))=>⟨_,[(9,intS .i64 (j:Nat)),(8,intS .i64 (i:Nat)),(0,eqS (rowV (some (bb,cc)) n)),(1,intS .i64 (a:Nat)),(2,intS .i64 (b:Nat)),(3,wp fl caps)],[rowE (some (bb,cc)) 350 6 n (vZ Zq E)],[],(0,false)⟩) (fun j E=>E.size=n∧j<n∧(∀x∈E.toList,p x)∧Sort.insInner lt a j E=Sort.insInner lt a i D) (fun j _=>j) i D ⟨hD,by omega,hDp,rfl⟩ (zL zk rfl) ?_
  rintro j E ⟨hE,hj,hEp,hEi⟩
  refine zh ?_;refine zS 17 (by kernel_rfl) ?_;(iterate 2 refine zz ?_)
  refine Run.oneB (zZ rfl rfl rfl rfl) rfl rfl rfl (fun h4_2=>?_) (fun h4_2=>?_)
  ·have k4_2:=of_decide_eq_true h4_2
   obtain⟨z,hz1,hz2⟩:=hlt _ _ (xO hEp (i:=j) (by omega)) (xO hEp (i:=j-1) (by omega))
   refine zg ?_;refine zo ((yG (j) rfl rfl rfl rfl (by omega))) ?_;refine zo ((yO 0 (f:=Zq) (fun _=>rfl) (d:=E) (i:=j) (by omega) rfl rfl rfl)) ?_;refine zg ?_;refine za ((j-1:Nat):Int) ?_;refine zo ((yG (j-1) rfl rfl rfl rfl (by omega))) ?_;refine zo ((yO 0 (f:=Zq) (fun _=>rfl) (d:=E) (i:=j-1) (by omega) rfl rfl rfl)) ?_;refine zo ((yI rfl rfl rfl hz1)) ?_;refine zg ?_;refine zd (fun h34 k34=>?_) fun h34 k34=>?_
   ·have hl:lt E[j]! E[j-1]! =true:=hz2▸h34
    have hs1:(E.setIfInBounds j E[j-1]!).size=n:=by rw [Array.size_setIfInBounds];exact hE
    refine zE ?_;refine zh ?_;refine zQ ?_;refine vj 18 [15,17] _ (by kernel_rfl) (.cons _ .slnil) ?_;(iterate 2 refine RunE.one (zG rfl rfl) rfl rfl rfl (by kernel_rfl) ?_);(iterate 2 refine RunE.lat (zG rfl rfl) rfl rfl rfl ?_);refine RunE.lat (yA (z:=((j-1:Nat):Int)) rfl rfl rfl (congrArg some (by omega)) (wrap_i64 (by omega) (by omega))) rfl rfl rfl ?_;(iterate 2 refine RunE.one (zG rfl rfl) rfl rfl rfl (by kernel_rfl) ?_);refine RunE.one (yA (z:=((j-1:Nat):Int)) rfl rfl rfl (congrArg some (by omega)) (wrap_i64 (by omega) (by omega))) rfl rfl rfl (by kernel_rfl) ?_;refine RunE.one ((yG (j-1) rfl rfl rfl rfl (by omega))) rfl rfl rfl (by kernel_rfl) ?_;refine RunE.one ((yO 0 (f:=Zq) (fun _=>rfl) (d:=E) (i:=j-1) (by omega) rfl rfl rfl)) rfl rfl rfl (by kernel_rfl) ?_;(iterate 2 refine RunE.one (zG rfl rfl) rfl rfl rfl (by kernel_rfl) ?_);refine RunE.one ((yG (j) rfl rfl rfl rfl (by omega))) rfl rfl rfl (by kernel_rfl) ?_;refine RunE.one ((yO 0 (f:=Zq) (fun _=>rfl) (d:=E) (i:=j) (by omega) rfl rfl rfl)) rfl rfl rfl (by kernel_rfl) ?_;refine RunE.one ((yG (j) rfl rfl rfl rfl (by omega))) rfl rfl rfl (by kernel_rfl) ?_
    refine RunE.nil ⟨_,rfl,?_⟩
    refine .loc1n 0 (wC (f:=Zq) (fun _=>rfl) (d:=E) (i:=j) (by omega) E[j-1]! rfl rfl rfl) rfl rfl rfl ?_
    rintro s1 H1 ⟨rfl,rfl⟩
    refine⟨(.cons _ .slnil),?_⟩
    refine RunE.one ((yG (j-1) rfl rfl rfl rfl (by omega))) rfl rfl rfl (by kernel_rfl) ?_
    refine RunE.nil ⟨_,rfl,?_⟩
    refine .loc1n 0 (wC (f:=Zq) (fun _=>rfl) (d:=E.setIfInBounds j E[j-1]!) (i:=j-1) (by omega) E[j]! rfl rfl rfl) rfl rfl rfl ?_
    rintro s2 H2 ⟨rfl,rfl⟩
    refine⟨(.cons _ .slnil),?_⟩
    refine RunE.nil ?_;refine zg ?_;refine za ((j-1:Nat):Int) ?_;refine zg ?_
    exact⟨j-1,Sort.swp E j (j-1),⟨by rw [Sort.swp_size];exact hE,by omega,Vg hEp (by omega) (by omega),by rw [←qK lt (by omega) hl];exact hEi⟩,by omega,zL (zb rfl (zb rfl (zb rfl (zb rfl (zb rfl (zb rfl (trivial))))))) rfl⟩
   ·have hst:Sort.insInner lt a i D=E:=hEi.symm.trans (Zf lt (.inr (hz2▸h34)))
    refine zI ?_;refine zg ?_;refine za ((i+1:Nat):Int) ?_;refine zg ?_
    exact⟨i+1,E,⟨hE,by omega,by omega,hEp,by rw [←hst,←ZS lt (by omega)];exact hDo⟩,by omega,zL (zb rfl (zb rfl (zb rfl (zb rfl (zb rfl (trivial)))))) rfl⟩
  ·have k4_2:=of_decide_eq_false h4_2
   have hst:Sort.insInner lt a i D=E:=hEi.symm.trans (Zf lt (.inl (by omega)))
   refine zg ?_;refine yM rfl rfl ?_;refine zI ?_;refine zg ?_;refine za ((i+1:Nat):Int) ?_;refine zg ?_
   exact⟨i+1,E,⟨hE,by omega,by omega,hEp,by rw [←hst,←ZS lt (by omega)];exact hDo⟩,by omega,zL (zb rfl (zb rfl (zb rfl (zb rfl (zb rfl (trivial)))))) rfl⟩
 ·have hst:Sort.insertionSort lt d a b=D:=hDo.symm.trans (WF lt (by omega))
  refine zI ?_
  exact⟨_,[_],.none,List.Sublist.refl _,rfl,by rw [hst]⟩
theorem zgf {d:Array (Rat×Rat)} {bb cc n:Nat} {fl:FuncId} {caps:List SV} {lt:Rat×Rat→Rat×Rat→Bool} {p:Rat×Rat→Prop} (hd:d.size=n) (hn:n≤1000000) (hp:∀ x∈d.toList,p x) (hlt:uF Tryz.prog G Zq p lt fl caps) {k:Int} (h12:n≤12):CallSpec Tryz.prog G 420 [eqS (rowV (some (bb,cc)) n),intS .i64 0,intS .i64 (n:Nat),intS .i64 k,wp fl caps] [rowE (some (bb,cc)) 350 6 n (vZ Zq d)] (fun v H'=>v=xn []∧H'=[rowE (some (bb,cc)) 350 6 n (vZ Zq (Sort.insertionSort lt d 0 n))]):=by
 refine zs Tryz.func420 ?_;refine zg ?_;refine wR ?_;refine zg ?_;refine za ((n:Nat):Int) ?_;refine zz ?_;refine zJ ?_;refine zh ?_;refine zg ?_;refine zd (fun _ k25=>?_) fun h25 k25=>?_
 ·refine zg ?_;refine Run.callH [] [_] [] rfl rfl rfl rfl (zjw hd hn hp hlt (Nat.zero_le _) (Nat.le_refl _)) rfl rfl rfl ?_
  rintro s30 H30 ⟨rfl,rfl⟩
  refine zJ ?_;refine zj ?_
  exact⟨_,[_],.none,List.Sublist.refl _,rfl,rfl⟩
 ·exact absurd (of_decide_eq_false h25) (by omega)
theorem zec {d:Array (Rat×Rat)} {bb cc n:Nat} {fl:FuncId} {caps:List SV} {lt:Rat×Rat→Rat×Rat→Bool} {p:Rat×Rat→Prop} (hd:d.size=n) (hn:n≤1000000) (hp:∀ x∈d.toList,p x) (hlt:uF Tryz.prog G Zq p lt fl caps) (h12:n≤12) (hq:yu (some (bb,cc)) n):CallSpec Tryz.prog G 347 [eqS (rowV (some (bb,cc)) n),wp fl caps] [rowE (some (bb,cc)) 350 6 n (vZ Zq d)] (fun v H'=>v=xn []∧H'=[rowE (some (bb,cc)) 350 6 n (vZ Zq (Sort.insertionSort lt d 0 n))]):=by
 refine zs Tryz.func347 ?_;refine zg ?_;refine zo (xK rfl rfl hq) ?_;refine zg ?_;refine zo ((yQ (z:=((n:Nat):Int)) rfl rfl (xf (by omega) (by omega)))) ?_;refine zo (ze rfl rfl (QC (by omega))) ?_;refine zz ?_;refine Run.callH [] [_] [] rfl rfl rfl rfl (zgf hd hn hp hlt h12) rfl rfl rfl ?_
 rintro s13 H13 ⟨rfl,rfl⟩
 refine zJ ?_
 exact⟨_,[_],.none,List.Sublist.refl _,rfl,rfl⟩
end Go.Proofs
namespace Go.Sv
open Go Go.RowKit
section
variable {P:Program} {G:Imm} {E:Env} {r:Option Nat} {gd:Nat→Option Nat} {p:Bool} {o:Oper} {ops:List Oper} {K:St→Prop} {H:HL} {g:List (Nat×SV)}
theorem QE (a i:Nat) {t e:TypeId} {s:Nat} [IsSl P t e s] {x ix:Operand} {b len cap:Nat} {z:Int} (hop:o.op= .indexAddr t x ix) (hx:xd g x=some (eqS (.slice (some ⟨b,a*s,none⟩) len cap))) (hi:xd g ix=some (intS .i64 z)) (hz:z=(i:Nat)) (h1:i<len):OpOK P G H o g (eqS (.pointer (some ⟨b,(a+i)*s,none⟩))):=
 vI hop hx hi (by omega) (by omega) (by subst hz;rw [Int.toNat_natCast,Nat.add_mul])
theorem vk {t:Nat} {x:Operand} {ad:Option Addr} {n cap:Nat} {e st:Nat} [IsSl P t e st] (hop:o.op= .call {callee:=.builtin .len,args:= #[x],argTypes:= #[t]}) (hx:xd g x=some (eqS (.slice ad n cap))):OpOK P G H o g (intS .i64 n):=WL hop hx
theorem XM {t e st:Nat} [IsSl P t e st] {x:Operand} {low:Option Operand} {b cp n lo:Nat} {y:Operand} {k:IntKind} (hop:o.op= .slice t x low none none) (hx:xd g x=some (eqS (rowV (some (b,cp)) n))) (hq:yu (some (b,cp)) n)
  (hlow:low=some y) (hy:xd g y=some (intS k lo)) (h1:lo<n):OpOK P G H o g (eqS (.slice (some ⟨b,lo*st,none⟩) (n-lo) (cp-lo))):=by
 subst hlow
 refine yC (by simp [hop]) fun I W a hm hh hr=>?_
 have hvx:a.eval x=rowV (some (b,cp)) n:=hr.get (by simp [hop,Op.operands]) hx
 have hvy:a.eval y= .int k lo:=hr.get (by simp [hop,Op.operands]) hy
 have hcp:n≤cp:=hq.1
 have hbd:=uu (P:=P) (W:=W) (len:=n) (cap:=cp) (lo:=lo) (hi:=n) (m:=cp) (low:=some (.int k lo)) (high:=none) (mx:=none) (.inr ⟨k,rfl⟩) (.inl ⟨rfl,rfl,rfl⟩) (.inl ⟨rfl,rfl⟩) (by omega) (by omega) (Nat.le_refl _)
 obtain⟨i,hi',his⟩:=IsSl.i (P:=P) (t:=t) (e:=e) (st:=st)
 have hu:=IsSl.u (P:=P) (t:=t) (e:=e) (st:=st)
 refine⟨_,?_,rfl⟩
 simp [execOp,hop,hvx,hvy,rowV,Instr.sliceAt,Instr.slice,run_underlying hu,hbd,sizeOf,typeInfo,hi',his,show ¬cp=lo by omega,Addr.add_lit]
theorem qL {t e st:Nat} [IsSl P t e st] {x:Operand} {high:Option Operand} {b cp n hi:Nat} {z:Operand} {k:IntKind} (hop:o.op= .slice t x none high none) (hx:xd g x=some (eqS (rowV (some (b,cp)) n))) (hq:yu (some (b,cp)) n)
  (hhigh:high=some z) (hz:xd g z=some (intS k hi)) (h0:0<n) (h2:hi≤n):OpOK P G H o g (eqS (rowV (some (b,cp)) hi)):=by
 subst hhigh
 refine yC (by simp [hop]) fun I W a hm hh hr=>?_
 have hvx:a.eval x=rowV (some (b,cp)) n:=hr.get (by simp [hop,Op.operands]) hx
 have hvz:a.eval z= .int k hi:=hr.get (by simp [hop,Op.operands]) hz
 have hcp:n≤cp:=hq.1
 have hbd:=uu (P:=P) (W:=W) (len:=n) (cap:=cp) (lo:=0) (hi:=hi) (m:=cp) (low:=none) (high:=some (.int k hi)) (mx:=none) (.inl ⟨rfl,rfl⟩) (.inr ⟨k,rfl⟩) (.inl ⟨rfl,rfl⟩) (by omega) (by omega) (Nat.le_refl _)
 obtain⟨i,hi',his⟩:=IsSl.i (P:=P) (t:=t) (e:=e) (st:=st)
 have hu:=IsSl.u (P:=P) (t:=t) (e:=e) (st:=st)
 refine⟨_,?_,rfl⟩
 simp [execOp,hop,hvx,hvz,rowV,Instr.sliceAt,Instr.slice,run_underlying hu,hbd,sizeOf,typeInfo,hi',his,show ¬cp=0 by omega,Addr.add_lit]
theorem znK {t e st bytes:Nat} {zs:List Value} [IsSl P t e st] [he:IsElem P e zs bytes] {x:Operand} {b off len cp e0 k:Nat} {cs:List SV} (hop:o.op= .call {callee:=.builtin .clear,args:= #[x],argTypes:= #[t]}) (hx:xd g x=some (eqS (.slice (some ⟨b,off,none⟩) len cp)))
  (h0:0<len) (hl:off+len*st≤cs.length):
  OpL P G o g [⟨some b,e0,cs,k⟩] (fun s H'=>s=eqS (.tuple #[])∧H'=[⟨some b,e0,xM cs off ((yB zs (len*st)).map eqS),k⟩]):=by
 intro n r I W a next Q hm' hh hr kk
 have hv:a.eval x=_:=hr.get (by simp [hop,Op.operands,Call.operands]) hx
 obtain⟨hn,c,hc,hcs,ho,hdc⟩:=(hh.mem ⟨some b,e0,cs,k⟩ (by simp)).some rfl
 simp only at hcs ho hdc hc
 obtain⟨i,hi,his⟩:=IsSl.i (P:=P) (t:=t) (e:=e) (st:=st)
 have hu:=IsSl.u (P:=P) (t:=t) (e:=e) (st:=st)
 obtain⟨i2,z,hi2,hz1,hz2,hz3,_⟩:=he.i
 have hii:i2=i:=Option.some.inj (hi2.symm.trans hi)
 subst hii
 have hzl:zs.length=st:=by omega
 have hst:0<st:=by rw [←hzl];exact List.length_pos_iff.2 he.pos
 have hzc:Builtin.zeroCells z.cells len=(yB zs (len*st)).toArray:=by apply Array.ext';rw [hz2,Vu,hzl]
 have hone:∀ u∈yB zs (len*st),u.oneCell'=true:=zeroRow_one (allOne_of he.one) _ (.inr he.pos)
 have hlen:(yB zs (len*st)).length=len*st:=vo _ _
 have h2:=run_storeCells_at P b off e0 (yB zs (len*st)) 0 c W hc (by simp only [hlen];omega) hone
 simp only [Nat.add_zero] at h2
 rw [←uQ c off _ (by rw [hlen];omega)] at h2
 have hrun:(execOp a.eval o).run P W= .ok (.value (.tuple #[])) (W.setRow b (setAllV c off (yB zs (len*st)))):=by
  simp only [execOp,hop,resolve,Sem.run_bind,Sem.run_pure,Result.andThen_ok,invoke,builtin]
  have:Array.map a.eval #[x]= #[.slice (some ⟨b,off,none⟩) len cp]:=by simp [hv]
  rw [this]
  obtain⟨m,rfl⟩:∃ m,len=m+1:=⟨len-1,by omega⟩
  simp [Builtin.clear_,run_underlying hu,zeroValue,typeInfo,hi,hz1,hzc,h2]
 obtain⟨hm2,hf2⟩:=uO (W':=W.setRow b (setAllV c off (yB zs (len*st)))) hm' hn rfl rfl rfl (by simp) (fun k hk=>setRow_other _ _ _ _ hk)
 refine xG (by simp [hop]) hrun ?_
 refine kk _ I _ _ _ ⟨rfl,rfl⟩ ?_ hm2 ?_ rfl
 ·refine hf2.weaken (fun k hk=>by subst hk;simp [bs]) fun k hk=>.inl ?_
  simp [bs] at hk;exact hk
 ·refine⟨by simp [bs],fun p hp=>?_⟩
  simp at hp;subst hp
  have hs:=Xi (off:=off) (ZV (I:=I) (yB zs (len*st))) hone (c:=(c.toList.take cs.length).toArray) (by simpa using hdc) (by simpa using ho)
  refine .of_some rfl ⟨hn,_,setRow_heap _ _ _ _ _ _ hc,by rw [VZ,wK];exact hcs,?_,?_⟩
  ·rw [wK,Zy _ _ _ _ (by rw [hlen];omega) (by omega)];exact hs.2
  ·rw [wK,Zy _ _ _ _ (by rw [hlen];omega) (by omega)];exact hs.1
theorem Run.clear (j:Nat) {n:Nat} {h:HL} {dd:List Nat} {ix:Nat×Bool} {t e st bytes:Nat} {zs:List Value} [IsSl P t e st] [IsElem P e zs bytes] {x:Operand} {b off len cp e0 k:Nat} {cs:List SV} (hp:p=false) (hop:o.op= .call {callee:=.builtin .clear,args:= #[x],argTypes:= #[t]})
  (hx:xd g x=some (eqS (.slice (some ⟨b,off,none⟩) len cp))) (h0:0<len) (hl:off+len*st≤cs.length) (hH:h[j]? =some ⟨some b,e0,cs,k⟩) (hd:o.dst=none) (hg:zH gd g o true)
  (hr:Run P G E r gd p ops ⟨n,g,wh h j [⟨some b,e0,xM cs off ((yB zs (len*st)).map eqS),k⟩],dd,ix⟩ K):Run P G E r gd p (o::ops) ⟨n,g,h,dd,ix⟩ K:=
 .loc (S:=⟨n,g,h,dd,ix⟩) hp (uk hH) (znK hop hx h0 hl) hg (by simp [dstOk,hd]) fun s H' ⟨_,e2⟩=>by
  subst e2;rw [hd];rw [vn hH] at hr;exact hr
theorem za8 (pre post:HL) {n:Nat} {d:List Nat} {i:Nat×Bool} {b cc e st m m':Nat} {cs cs':List SV} (hc:cs.length=m*st) (hc':cs'=cs.take (m'*st)) (hm:m'≤m) (hq:yu (some (b,cc)) m):ZT G E r ⟨n,g,pre++rowE (some (b,cc)) e st m cs::post,d,i⟩ ⟨n,g,pre++rowE (some (b,cc)) e st m' cs'::post,d,i⟩:=fun I F _ _ s=>
  have hb:bs (pre++rowE (some (b,cc)) e st m' cs'::post)=bs (pre++rowE (some (b,cc)) e st m cs::post):=by simp [bs,rowE]
  have ho:∀ x,own ⟨n,g,pre++rowE (some (b,cc)) e st m' cs'::post,d,i⟩ F x↔own ⟨n,g,pre++rowE (some (b,cc)) e st m cs::post,d,i⟩ F x:=fun x=>by simp only [own];rw [hb]
  ⟨I,{s with
    h:=⟨hb▸s.h.nodup,fun p hp=>by
      rcases List.mem_append.1 hp with h | h
      · exact s.h.mem p (List.mem_append.2 (.inl h))
      · rcases List.mem_cons.1 h with rfl | h
        · obtain⟨h1,c,h2,h3,h4,h5⟩:=(s.h.mem (rowE (some (b,cc)) e st m cs) (by simp)).some rfl
          have hle:m'*st≤m*st:=Nat.mul_le_mul_right _ hm
          have hle2:m*st≤cc*st:=Nat.mul_le_mul_right _ hq.1
          have hl':cs'.length=m'*st:=by rw [hc',List.length_take];omega
          have ht:c.toList.take cs'.length=(c.toList.take cs.length).take (m'*st):=by rw [hl',List.take_take,hc,Nat.min_eq_left hle]
          refine .of_some rfl ⟨h1,c,h2,?_,?_,?_⟩
          · have h3:c.size=cs.length+(cc*st-m*st):=h3
            show c.size=cs'.length+(cc*st-m'*st)
            omega
          · show xF (c.toList.take cs'.length);rw [ht];exact fun x hx=>h4 x (List.mem_of_mem_take hx)
          · show dens I cs' (c.toList.take cs'.length)
            have h5:dens I cs (c.toList.take cs.length):=h5
            rw [ht,hc'];exact⟨by have:=h5.1;rw [List.length_take,List.length_take (i:=m'*st) (l:=cs),this],fun j s' x' hj hx=>by
              rw [List.getElem?_take] at hj hx
              split at hj
              · rename_i hlt;rw [if_pos hlt] at hx;exact h5.2 j s' x' hj hx
              · cases hj⟩
        · exact s.h.mem p (List.mem_append.2 (.inr (List.mem_cons_of_mem _ h)))⟩
    f:=fun x hF=>⟨(s.f x hF).1,(s.f x hF).2.1,fun y=>(s.f x hF).2.2.1 (hb▸y),(s.f x hF).2.2.2⟩
    l:=fun k hk=>⟨(s.l k hk).1,fun x=>(s.l k hk).2 ((ho k).1 x)⟩},(Fram.refl _ _ _).weaken (fun _ h=>h) fun x h=>.inr ((ho x).1 h)⟩
end
end Go.Sv
