/- straitref12: points, digits, the same scenes, scenes in lowest terms. -/
import Derived.Test.YthhamejdmpjjlaaGreatDoorSpu
import Derived.Test.YthhamejdmpjjlaaGreatDoorSgf
namespace Go.Proofs
open Go Go.Sv Num
variable {G:Imm}
theorem zhC {α:Type} {xs ys:List α} {i:Nat} {x y:α} (hx:xs[i]? =some x) (hy:ys[i]? =some y) (hE:xs.take i=ys.take i) (h:x=y):xs.take (i+1)=ys.take (i+1):=by rw [wo hx,wo hy,hE,h]
theorem zmj {α:Type} {xs ys:List α} {i:Nat} (hl:xs.length=ys.length) (h:i=xs.length) (hE:xs.take i=ys.take i):xs=ys:=by
 rw [h,List.take_length,hl,List.take_length] at hE;exact hE
theorem zgn {α:Type} {xs ys:List α} {i:Nat} {x y:α} (hx:xs[i]? =some x) (hy:ys[i]? =some y) (h:x≠y):xs≠ys:=fun e=>by
 rw [e,hy] at hx;exact h (Option.some.inj hx).symm
theorem WI {a b:QS}:zp Tryz.prog G 7 [zl (XV a),zl (XV b)] (zm (decide (a=b))):=by
 refine zs Tryz.func7 ?_;refine zr ?_;(iterate 3 refine zz ?_);refine zJ ?_;refine zh ?_;refine zr ?_;(iterate 6 refine zz ?_)
 refine Run.oneB (zZ rfl rfl rfl rfl) rfl rfl rfl (fun h1_6=>?_) (fun h1_6=>?_)
 ·have k1_6:=bne_iff_ne.1 h1_6
  refine zg ?_;refine xt rfl rfl ?_;refine zg ?_
  exact zj (zu (e:=congrArg zm (decide_eq_false (fun e=>k1_6 (by rw [e]))).symm))
 ·have k1_6:=bne_eq_false_iff_eq.1 h1_6
  iterate 8 refine zz ?_
  refine Run.oneB (wg rfl rfl rfl) rfl rfl rfl (fun h1_15=>?_) (fun h1_15=>?_)
  ·have k1_15:=bne_iff_ne.1 h1_15
   refine zg ?_;refine xt rfl rfl ?_;refine zg ?_
   exact zj (zu (e:=congrArg zm (decide_eq_false (fun e=>k1_15 (by rw [e]))).symm))
  ·have k1_15:=bne_eq_false_iff_eq.1 h1_15
   refine zg ?_;refine zf KV ?_;refine zg ?_;refine wE (fun h30=>?_) fun h30=>?_
   ·refine zg ?_
    exact zj (zu (e:=congrArg zm (decide_eq_false (fun e=>of_decide_eq_false (by simpa using h30) (by rw [e]))).symm))
   ·have hr:a.1=b.1:=of_decide_eq_true (by simpa using h30)
    have ho:a.2.1.length=b.2.1.length:=by omega
    have hq:a.2.2.length=b.2.2.length:=by omega
    refine wT 8 rfl fun la=>wT 16 rfl fun lb=>?_
    unfold yP at la lb
    refine zE ?_;refine zh ?_;refine zg ?_;refine yK (γ:=Nat) (fun g=>⟨_,[(5,intS .i64 (g:Nat)),(3,zT (XV b)),(2,zT (XV a))],[],[],(0,false)⟩) (fun g=>g≤a.2.1.length∧a.2.1.take g=b.2.1.take g) (fun g=>a.2.1.length-g) 0 ⟨Nat.zero_le _,rfl⟩ (yo zk) ?_
    rintro g ⟨hg,hE⟩
    refine zh ?_;refine zg ?_;refine zd (fun _ k35=>?_) fun _ k35=>?_
    ·obtain⟨x,hx⟩:∃ x,a.2.1[g]? =some x:=⟨_,List.getElem?_eq_getElem (by omega)⟩
     obtain⟨y,hy⟩:∃ y,b.2.1[g]? =some y:=⟨_,List.getElem?_eq_getElem (by omega)⟩
     refine zE ?_;refine zh ?_;refine zQ ?_;refine zS 12 (by kernel_rfl) ?_;refine zg ?_;refine zo (zi rfl rfl rfl (by omega) (y:=x) (hx)) ?_;refine zg ?_;refine zo (zi rfl rfl rfl (by omega) (y:=y) (hy)) ?_;refine zz ?_;refine zf KV ?_;refine zg ?_;refine wE (fun h49=>?_) fun h49=>?_
     ·refine zg ?_
      exact zj (zu (e:=congrArg zm (decide_eq_false (fun e=>zgn hx hy (of_decide_eq_false (by simpa using h49)) (by rw [e]))).symm))
     ·refine zg ?_;refine za ((g+1:Nat):Int) ?_;refine zg ?_
      exact⟨g+1,⟨by omega,zhC hx hy hE (of_decide_eq_true (by simpa using h49))⟩,by omega,yo (zb rfl (zb rfl (zb rfl (trivial))))⟩
    ·have hOE:=zmj ho (by omega) hE
     refine zI ?_;refine zh ?_;refine zg ?_;refine yK (γ:=Nat) (fun g=>⟨_,[(6,intS .i64 (g:Nat)),(3,zT (XV b)),(2,zT (XV a))],[],[],(0,false)⟩) (fun g=>g≤a.2.2.length∧a.2.2.take g=b.2.2.take g) (fun g=>a.2.2.length-g) 0 ⟨Nat.zero_le _,rfl⟩ (yo zk) ?_
     rintro g ⟨hg,hE⟩
     refine zh ?_;refine zg ?_;refine zd (fun _ k54=>?_) fun _ k54=>?_
     ·obtain⟨⟨⟨x1,y1⟩,⟨x2,y2⟩⟩,hx⟩:∃ x,a.2.2[g]? =some x:=⟨_,List.getElem?_eq_getElem (by omega)⟩
      obtain⟨⟨⟨u1,v1⟩,⟨u2,v2⟩⟩,hy⟩:∃ y,b.2.2[g]? =some y:=⟨_,List.getElem?_eq_getElem (by omega)⟩
      refine zE ?_;refine zh ?_;refine zQ ?_;refine zS 30 (by kernel_rfl) ?_;refine zg ?_;refine zo (zi rfl rfl rfl (by omega) (y:=((x1,y1),(x2,y2))) (hx)) ?_;refine zg ?_;refine zo (zi rfl rfl rfl (by omega) (y:=((u1,v1),(u2,v2))) (hy)) ?_;refine zg ?_;refine zf ZH ?_
      refine Run.oneB (ZU rfl rfl) rfl rfl rfl (fun h11_13=>?_) (fun h11_13=>?_)
      ·refine zg ?_;refine xt rfl rfl ?_;refine zg ?_
       exact zj (zu (e:=congrArg zm (decide_eq_false (fun e=>zgn hx hy (fun e2=>by simp only [Prod.mk.injEq] at e2;exact of_decide_eq_false (show decide (x1=u1∧y1=v1)=false by cases hc:decide (x1=u1∧y1=v1) with | false=>rfl | true=>rw [hc] at h11_13;cases h11_13) e2.1) (by rw [e]))).symm))
      ·refine zg ?_;refine zo (zi rfl rfl rfl (by omega) (y:=((x1,y1),(x2,y2))) (hx)) ?_;refine zg ?_;refine zo (zi rfl rfl rfl (by omega) (y:=((u1,v1),(u2,v2))) (hy)) ?_;refine zg ?_;refine zf ZH ?_;refine zg ?_;refine wE (fun h86=>?_) fun h86=>?_
       ·refine zg ?_
        exact zj (zu (e:=congrArg zm (decide_eq_false (fun e=>zgn hx hy (fun e2=>by simp only [Prod.mk.injEq] at e2;exact of_decide_eq_false (show decide (x2=u2∧y2=v2)=false by cases hc:decide (x2=u2∧y2=v2) with | false=>rfl | true=>rw [hc] at h86;cases h86) e2.2) (by rw [e]))).symm))
       ·refine zg ?_;refine za ((g+1:Nat):Int) ?_;refine zg ?_
        exact⟨g+1,⟨by omega,zhC hx hy hE (by obtain⟨e1,e2⟩:=of_decide_eq_true (show decide (x1=u1∧y1=v1)=true by simpa using h11_13);obtain⟨e3,e4⟩:=of_decide_eq_true (show decide (x2=u2∧y2=v2)=true by simpa using h86);rw [e1,e2,e3,e4])⟩,by omega,yo (zb rfl (zb rfl (zb rfl (trivial))))⟩
     ·refine zI ?_;refine zg ?_
      exact zj (zu (e:=congrArg zm (decide_eq_true (Prod.ext hr (Prod.ext hOE (zmj hq (by omega) hE)))).symm))
theorem zcq {s:Sc} {k n:Nat} (h:ScOk s k n) (hs:64*k+20000≤65536) (hn:n≤1000000):zp Tryz.prog G 6 [zl (Yn s)] (zl (XV (Yj s))):=by
 have hrob:=h.pt _ (ux s)
 have hrl:=h.lrow (ux s)
 have hsl:=h.row
 rw [ZI] at hsl
 simp only at hrob hrl
 refine zs Tryz.func6 ?_;refine zg ?_;refine xg fun b2=>?_;refine zg ?_;refine zo (ze rfl rfl (Yy h.pos hrob (by omega) (by unfold cap;omega))) ?_;refine zz ?_;refine xg fun b3=>?_;refine zw ?_;refine zJ ?_;refine zh ?_;refine zP (yL 22 1) ?_;refine zg ?_;refine yX (fun (g:Nat) (q:Option (Nat×Nat))=>⟨_,[(4,intS .i64 (g:Nat)),(3,eqS (.pointer (some ⟨b3,0,none⟩))),(2,eqS (.pointer (some ⟨b2,0,none⟩))),(1,zT (Yn s))],[rowE q 22 1 g (((s.2.1.take g).map Uy).flatMap uo),⟨some b3,26,[zU 6 yy (Uy s.1),eqS (rowV q g),eqS (.slice none 0 0)],0⟩,⟨some b2,26,[eqS (.slice none 0 0),eqS (.slice none 0 0),eqS (.slice none 0 0)],0⟩],[],(0,false)⟩) (fun g q=>g≤s.2.1.length∧yu q g) (fun g _=>s.2.1.length-g) 0 none ⟨Nat.zero_le _,rfl⟩ (zL zk rfl) ?_
 rintro g q ⟨hg,hq⟩
 refine zh ?_;refine zg ?_;refine zd (fun _ k15=>?_) fun _ k15=>?_
 ·obtain⟨row,hrow⟩:∃ row,s.2.1[g]? =some row:=⟨_,List.getElem?_eq_getElem (by omega)⟩
  have hpt:=h.pt _ (uy (List.mem_of_getElem? hrow))
  have hln:=h.lrow (uy (List.mem_of_getElem? hrow))
  have hms:=YW Uy hrow
  simp only at hpt hln
  refine zE ?_;refine zh ?_;refine zQ ?_;refine vj 12 [9,11] _ (by kernel_rfl) (.cons _ (.cons _ (.cons_cons _ .slnil))) ?_;refine RunE.one (zN rfl rfl rfl) rfl rfl rfl (by kernel_rfl) ?_;refine RunE.one (yn 1 rfl rfl rfl rfl) rfl rfl rfl (by kernel_rfl) ?_;refine RunE.one (zX rfl rfl rfl) rfl rfl rfl (by kernel_rfl) ?_;refine RunE.one (yN rfl rfl) rfl rfl rfl (by kernel_rfl) ?_;refine RunE.one (zG rfl rfl) rfl rfl rfl (by kernel_rfl) ?_;refine RunE.one (zi rfl rfl rfl (by omega) (y:=row) (hrow)) rfl rfl rfl (by kernel_rfl) ?_;refine RunE.one (yN rfl rfl) rfl rfl rfl (by kernel_rfl) ?_;refine RunE.one (ze rfl rfl (Yy h.pos hpt (by omega) (by unfold cap;omega))) rfl rfl rfl (by kernel_rfl) ?_;refine RunE.one (zB rfl rfl (by decide) rfl (by simp) rfl rfl) rfl rfl rfl (by kernel_rfl) ?_
  refine RunE.nil ⟨_,rfl,?_⟩
  refine EffM.append 0 rfl rfl rfl rfl rfl rfl rfl hq (by rw [YU,List.length_map,List.length_take];omega) (fun z hz=>by rw [List.mem_singleton.1 hz];rfl) (by unfold yP;simp;omega) (by unfold yP;simp;omega) fun q25 hq25=>⟨(.cons _ (.cons _ (.cons_cons _ .slnil))),?_⟩
  refine RunE.one (zN rfl rfl rfl) rfl rfl rfl (by kernel_rfl) ?_
  refine RunE.nil ⟨_,rfl,?_⟩
  refine .loc1n 1 (xI rfl rfl rfl rfl (by first | decide | (simp;done) | (simp;omega))) rfl rfl rfl ?_
  rintro s1 H1 ⟨rfl,rfl⟩
  refine⟨(.cons _ (.cons _ (.cons_cons _ .slnil))),?_⟩
  refine RunE.nil ?_;refine zg ?_;refine za ((g+1:Nat):Int) ?_;refine zg ?_
  exact⟨g+1,q25,⟨by omega,hq25⟩,by omega,zL (zb rfl (zb rfl (zb rfl (zb rfl (trivial))))) (by rw [hms,List.flatMap_append];rfl)⟩
 ·obtain rfl:g=s.2.1.length:=by omega
  rw [List.take_length]
  refine zI ?_;refine zh ?_;refine zP (wN [_] [_] [] [] [_] hq (l:=s.2.1.map Uy) (f:=uo) (by simp) rfl (fun _ _=>rfl) (by unfold yP;omega)) ?_;refine zP (yL 43 12) ?_;refine zg ?_;refine yX (fun (g:Nat) (q:Option (Nat×Nat))=>⟨_,[(5,intS .i64 (g:Nat)),(3,eqS (.pointer (some ⟨b3,0,none⟩))),(2,eqS (.pointer (some ⟨b2,0,none⟩))),(1,zT (Yn s))],[rowE q 43 12 g (((s.2.2.take g).map pv2).flatMap vX),⟨some b3,26,[zU 6 yy (Uy s.1),zU 1 uo (s.2.1.map Uy),eqS (rowV q g)],0⟩,⟨some b2,26,[eqS (.slice none 0 0),eqS (.slice none 0 0),eqS (.slice none 0 0)],0⟩],[],(0,false)⟩) (fun g q=>g≤s.2.2.length∧yu q g) (fun g _=>s.2.2.length-g) 0 none ⟨Nat.zero_le _,rfl⟩ (zL zk rfl) ?_
  rintro g q ⟨hg,hq⟩
  refine zh ?_;refine zg ?_;refine zd (fun _ k33=>?_) fun _ k33=>?_
  ·obtain⟨⟨⟨⟨b1,l1,d1⟩,⟨c1,m1,e1⟩⟩,⟨⟨b2,l2,d2⟩,⟨c2,m2,e2⟩⟩⟩,hqu⟩:∃ p,s.2.2[g]? =some p:=⟨_,List.getElem?_eq_getElem (by omega)⟩
   have hpt:=h.pt _ (zbN (List.mem_of_getElem? hqu))
   have hms:=YW pv2 hqu
   simp only at hpt
   refine zE ?_;refine zh ?_;refine zQ ?_;refine zS 15 (by kernel_rfl) ?_;refine zg ?_;refine zo (zi rfl rfl rfl (by omega) (y:=(((b1,l1,d1),(c1,m1,e1)),((b2,l2,d2),(c2,m2,e2)))) (hqu)) ?_;refine zg ?_;refine zo (zi rfl rfl rfl (by omega) (y:=(((b1,l1,d1),(c1,m1,e1)),((b2,l2,d2),(c2,m2,e2)))) (hqu)) ?_;refine zg ?_;refine zo (zB rfl rfl (by decide) rfl (by simp) rfl rfl) ?_;refine zo (ze rfl rfl ((Yy (xs:=[((b1,l1,d1),(c1,m1,e1)),((b2,l2,d2),(c2,m2,e2))]) h.pos hpt (by omega) (by unfold cap;simp)).args ⟨fun I v h=>sl_map (f:=pc) (l:=[((b1,l1,d1),(c1,m1,e1)),((b2,l2,d2),(c2,m2,e2))]) h,trivial⟩)) ?_;refine zg ?_;refine vj 13 [10,12] _ (by kernel_rfl) (.cons _ (.cons _ (.cons_cons _ .slnil))) ?_;refine RunE.one (zN rfl rfl rfl) rfl rfl rfl (by kernel_rfl) ?_;refine RunE.one (yn 1 rfl rfl rfl rfl) rfl rfl rfl (by kernel_rfl) ?_;refine RunE.one (zG rfl rfl) rfl rfl rfl (by kernel_rfl) ?_;refine RunE.one (zi rfl rfl rfl (by omega) (y:=pv ((b1,l1,d1),(c1,m1,e1))) (rfl)) rfl rfl rfl (by kernel_rfl) ?_;refine RunE.one ((show OpOK _ _ _ _ _ (zl (yy (pv ((b1,l1,d1),(c1,m1,e1))))) from zF rfl rfl rfl rfl)) rfl rfl rfl (by kernel_rfl) ?_;refine RunE.one (zG rfl rfl) rfl rfl rfl (by kernel_rfl) ?_;refine RunE.one (zi rfl rfl rfl (by omega) (y:=pv ((b2,l2,d2),(c2,m2,e2))) (rfl)) rfl rfl rfl (by kernel_rfl) ?_;refine RunE.one ((show OpOK _ _ _ _ _ (zl (yy (pv ((b2,l2,d2),(c2,m2,e2))))) from zF rfl rfl rfl rfl)) rfl rfl rfl (by kernel_rfl) ?_;refine RunE.one (yW rfl rfl rfl) rfl rfl rfl (by kernel_rfl) ?_;refine RunE.one (zB rfl rfl (by decide) rfl (by simp) rfl rfl) rfl rfl rfl (by kernel_rfl) ?_
   refine RunE.nil ⟨_,rfl,?_⟩
   refine EffM.append 0 rfl rfl rfl rfl rfl rfl rfl hq (by rw [YV,List.length_map,List.length_take];omega) (fun z hz=>by rw [List.mem_singleton.1 hz];rfl) (by unfold yP;simp;omega) (by unfold yP;simp;omega) fun q51 hq51=>⟨(.cons _ (.cons _ (.cons_cons _ .slnil))),?_⟩
   refine RunE.one (zN rfl rfl rfl) rfl rfl rfl (by kernel_rfl) ?_
   refine RunE.nil ⟨_,rfl,?_⟩
   refine .loc1n 1 (xI rfl rfl rfl rfl (by first | decide | (simp;done) | (simp;omega))) rfl rfl rfl ?_
   rintro s1 H1 ⟨rfl,rfl⟩
   refine⟨(.cons _ (.cons _ (.cons_cons _ .slnil))),?_⟩
   refine RunE.nil ?_;refine zg ?_;refine za ((g+1:Nat):Int) ?_;refine zg ?_
   exact⟨g+1,q51,⟨by omega,hq51⟩,by omega,zL (zb rfl (zb rfl (zb rfl (zb rfl (trivial))))) (by rw [hms,List.flatMap_append];rfl)⟩
  ·obtain rfl:g=s.2.2.length:=by omega
   rw [List.take_length]
   refine zI ?_;refine zP (wN [_,_] [] [] [] [_] hq (l:=s.2.2.map pv2) (f:=vX) (by simp) rfl (fun _ _=>rfl) (by unfold yP;omega)) ?_;refine zg ?_
   exact zj zt
end Go.Proofs
namespace Go.Proofs
open Go Go.Sv Num
variable {G:Imm}
theorem zmk {l:List V2} {I:Imm} {v:Value} (h:(zU 6 pc (l.map uV)).den I v):(zU 6 yy l).den I v:=by
 obtain⟨a,c,h1,h2,h3,h4⟩:=h
 refine⟨a,c,by simpa using h1,by simpa using h2,by simpa using h3,h4.imp (fun e=>by simpa using e) fun⟨b,o,e1,e2⟩=>⟨b,o,e1,fun i x hx=>e2 i (uV x) (by rw [List.getElem?_map,hx];rfl)⟩⟩
theorem zq0:zp Tryz.prog G 18 [zU 6 pc (([(1,0),(0,1),(0,0)]:List V2).map uV),zU 6 id (([(1,0),(0,1),(0,0)]:List V2).map yy)] (zm true):=by
 have h:=(zpL (G:=G) (a:=[(1,0),(0,1),(0,0)]) (b:=[(1,0),(0,1),(0,0)])).args (args':=[zU 6 pc (([(1,0),(0,1),(0,0)]:List V2).map uV),zU 6 id (([(1,0),(0,1),(0,0)]:List V2).map yy)]) ⟨fun _ _ h=>zmk h,fun _ _ h=>sl_map h,trivial⟩
 rwa [decide_eq_true rfl] at h
theorem zry:xQ 1 (uV (1,1)):=zb1 ⟨bq1,bq1⟩
theorem zhD [Tab G] [Tab10 G] [MaxLen G]:zp Tryz.prog G 5 [] (zm true):=by
 refine zs Tryz.func5 ?_;refine zg ?_;refine zf zcp ?_;refine zo (ze rfl rfl (zae (n:=1) (m:=1) (p:=1) (q:=1) (by decide) (by decide) (by decide) (by decide) rfl rfl)) ?_
 refine zo ((show OpOK _ _ _ _ _ (zl (XV (v0,[],[]))) from ze rfl rfl (by have h:=zgd (G:=G) (pb:=uV (1,1)) zoH zry (by decide) (by decide);rw [zoG] at h;exact h))) ?_
 refine xg fun b1=>?_;refine zg ?_;refine zf zcp ?_;refine zo ((show OpOK _ _ _ _ _ (zl (Yn (([(1,0),(0,1),(0,0)]:List V2).map uV,[],[]))) from ze rfl rfl (by have h:=qJ (G:=G) (k0:=1) zoH (by decide);rw [show YA (v0.map uV,[],[]) 1=_ from by unfold YA;rw [zpM]] at h;exact h))) ?_;refine xg fun b2=>?_;refine zg ?_;refine zS 27 (by kernel_rfl) ?_;refine zf zcp ?_;refine zo (ze rfl rfl (zd9 (xs:=v0.map uV) (k:=1) (by decide) (by decide) zmi (by decide))) ?_;refine zo ((Yd rfl rfl rfl rfl).sub (yx (c:=true) (by rw [zrx];decide +kernel))) ?_;refine zg ?_;refine zf zmh ?_;refine zo ((ze rfl rfl WI).sub (yx (c:=true) (by simp))) ?_;refine zg ?_;refine zo (ze rfl rfl (zae (n:=1) (m:=0) (p:=1) (q:=0) (by decide) (by decide) (by decide) (by decide) rfl rfl)) ?_;refine zo (ze rfl rfl (zae (n:=0) (m:=1) (p:=0) (q:=1) (by decide) (by decide) (by decide) (by decide) rfl rfl)) ?_;refine zo (ze rfl rfl (zae (n:=0) (m:=0) (p:=0) (q:=0) (by decide) (by decide) (by decide) (by decide) rfl rfl)) ?_;refine zo (zB rfl rfl (by decide) rfl (by simp) (by kernel_rfl) (by kernel_rfl)) ?_;refine zf zq0 ?_;refine zg ?_;refine zo (zB rfl rfl (by decide) rfl (by simp) rfl rfl) ?_;refine zf zrv ?_;refine zg ?_;refine zo (zB rfl rfl (by decide) rfl (by simp) rfl rfl) ?_;refine zf zrw ?_;refine zg ?_
 exact zj zt
end Go.Proofs
namespace Go.Proofs
open Go Go.Sv Num
variable {G:Imm}
theorem zoa {u v:V2} {k j:Nat} (h:Bp u k) (h':Bp v j) (hs:128*(k+j)+23000≤131072):zp Tryz.prog G 119 [zl (yy u),zl (yy v)] (zl (zR (u.1*v.2-u.2*v.1))):=by
 have:=h.x;have:=h.y;have:=h'.x;have:=h'.y
 exact Uu (by omega)
theorem zhE {p q:yE} (hp:UK p) (hq:UK q):Bp (VQ (pv p) (pv q)) (XB p+XB q+3):=by
 have i1:=(YI (b:=p.1.1) hp.1.1 hp.1.2).bq
 have i2:=(YI (b:=p.2.1) hp.2.1 hp.2.2).bq
 have i3:=(YI (b:=q.1.1) hq.1.1 hq.1.2).bq
 have i4:=(YI (b:=q.2.1) hq.2.1 hq.2.2).bq
 unfold XB
 exact⟨uU (bq_sub (hp:=i1) (hq:=i3)) (by omega),uU (bq_sub (hp:=i2) (hq:=i4)) (by omega)⟩
theorem zoI {p q:yE} (hp:UK p) (hq:UK q) (hs:64*(XB p+XB q+4)+23000≤65536):zp Tryz.prog G 120 [zl (pc p),zl (pc q)] (zl (yy (VQ (pv p) (pv q)))):=by
 have i1:=YI (b:=p.1.1) hp.1.1 hp.1.2
 have i2:=YI (b:=p.2.1) hp.2.1 hp.2.2
 have i3:=YI (b:=q.1.1) hq.1.1 hq.1.2
 have i4:=YI (b:=q.2.1) hq.2.1 hq.2.2
 exact VL (hx1:=i1) (hy1:=i2) (hx2:=i3) (hy2:=i4) (by unfold XB at hs;omega)
theorem zgo {a b p:yE} (ha:UK a) (hb:UK b) (hp:UK p) (hs:128*(XB a+XB b+XB p+XB a+6)+23000≤65536):zp Tryz.prog G 80 [zl (pc a),zl (pc b),zl (pc p)] (intS .i64 (ue (cr (pv a) (pv b) (pv p)) 0)):=by
 have b1:=zhE hb ha
 have b2:=zhE hp ha
 have b3:=UG b1 b2
 refine zs Tryz.func80 ?_;refine zg ?_;refine zS 9 (by kernel_rfl) ?_;refine zg ?_;refine zo (ze rfl rfl (zoI hb ha (by omega))) ?_;refine zg ?_;refine zo (ze rfl rfl (zoI hp ha (by omega))) ?_;refine zo (ze rfl rfl (zoa b1 b2 (by omega))) ?_;refine zo (ze rfl rfl (show zp _ _ _ _ (intS .i64 (ue (cr (pv a) (pv b) (pv p)) 0)) from Wv (by omega))) ?_;refine zg ?_
 exact zj zt
end Go.Proofs
