/- strata.Walls without pieces: both walls have the ends of the frame. -/
import Derived.Test.YthhamejdmpjjlaaGreatDoorSph
namespace Go.Proofs
open Go Go.Sv Num
variable {G:Imm}
abbrev qR (l:List Rat):List SV:=[zU 3 zR l]
def xu:List Rat:=[-1,1]
def XN:List (List Rat):=[[-1,1],[-1,1]]
def wy (g:Nat):List Rat:=if g=0 then [-1,1] else [-1,1,-1,1]
def d4:Array Rat:= #[-1,1,-1,1]
theorem zlV:∀ q∈d4.toList,Bq q 1:=fun q h=>by
 have h:q∈[(-1:Rat),1,-1,1]:=h
 rcases List.mem_cons.1 h with rfl | h
 ·exact bqm
 rcases List.mem_cons.1 h with rfl | h
 ·exact bq1
 rcases List.mem_cons.1 h with rfl | h
 ·exact bqm
 ·rw [List.mem_singleton.1 h];exact bq1
theorem zpu:Sort.insertionSort (fun p q:Rat=>decide (p<q)) d4 0 4= #[-1,-1,1,1]:=by decide +kernel
theorem zqB:dd (#[-1,-1,1,1]:Array Rat).toList=[-1,1]:=by decide +kernel
theorem zqC:∀ q∈(#[-1,-1,1,1]:Array Rat).toList,Bq q 1:=fun q h=>zlV q (by
 have h:q∈[(-1:Rat),-1,1,1]:=h
 show q∈[(-1:Rat),1,-1,1]
 simp only [List.mem_cons,List.not_mem_nil,or_false] at h ⊢
 rcases h with h | h | h | h <;> simp [h])
theorem zlW {d:Array Rat} {k:Nat}:d.setIfInBounds k d[k]! =d:=by
 by_cases h:k<d.size
 ·apply Array.ext
  ·simp
  ·intro i h1 h2
   rw [Array.getElem_setIfInBounds (by simpa using h1)]
   split
   ·rename_i e;subst e;rw [getElem!_pos d k h]
   ·rfl
 ·rw [Array.setIfInBounds,dif_neg h]
theorem zpv [Tab G]:zp Tryz.prog G 216 [xC,zl (bxC ((-1,-1),(1,1))),zU 3 zR xu,zU 1 lvR [ui]] (zU 1 qR XN):=by
 refine zs Tryz.func216 ?_;refine zr ?_;(iterate 2 refine zz ?_);refine zJ ?_;refine zP (yL 124 1) ?_;refine zr ?_;refine zz ?_;refine zJ ?_;refine zh ?_;refine zr ?_;refine zz ?_;refine zo ((xh rfl rfl).sub (zD (n:=((2:Nat):Int)) rfl)) ?_;refine zg ?_;refine yX (fun (g:Nat) (q:Option (Nat×Nat))=>⟨_,[(22,intS .i64 (g:Nat)),(21,intS .i64 ((2:Nat):Int)),(20,zU 3 zR xu),(9,eqS (rowV q g)),(5,zT (bxC ((-1,-1),(1,1)))),(3,zU 1 lvR [ui]),(2,zU 3 zR xu),(0,xC)],[rowE q 124 1 g ((XN.take g).flatMap qR)],[],(0,false)⟩) (fun g q=>g≤2∧yu q g) (fun g _=>2-g) 0 none ⟨Nat.zero_le _,rfl⟩ (zL zk rfl) ?_
 rintro g q ⟨hg,hq⟩
 refine zr ?_;refine zz ?_;refine zJ ?_;refine zh ?_;refine zd (fun _ k23=>?_) fun _ k23=>?_
 ·obtain⟨x,hx⟩:∃ x,xu[g]? =some x:=⟨_,List.getElem?_eq_getElem (show g<2 by omega)⟩
  have hW:XN.take (g+1)=XN.take g++[xu]:=by
   rcases (show g=0∨g=1 by omega) with rfl | rfl <;> rfl
  refine zE ?_;refine zh ?_;refine zg ?_;refine zo (zi rfl rfl rfl (by omega) (y:=x) (hx)) ?_;refine zz ?_;refine xg fun b11=>?_;refine zg ?_;refine Run.buildRow rfl rfl rfl rfl rfl rfl (by decide) rfl (.inr (by simp)) rfl (by kernel_rfl) fun b33 hb33=>?_;refine zz ?_;refine zJ ?_;refine xS (K:=fun S1=>∃ q12,yu q12 (wy g).length∧Ent S1 ⟨118,[(12,eqS (rowV q12 (wy g).length)),(10,intS .i64 (g:Nat)),(22,intS .i64 (g:Nat)),(21,intS .i64 ((2:Nat):Int)),(20,zU 3 zR xu),(9,eqS (rowV q g)),(5,zT (bxC ((-1,-1),(1,1)))),(3,zU 1 lvR [ui]),(2,zU 3 zR xu),(0,xC)],[rowE q12 39 3 (wy g).length ((wy g).flatMap zR),rowE q 124 1 g ((XN.take g).flatMap qR)],[],(0,false)⟩) ?_ ?_
  ·refine xS (K:=fun S1=>∃ w:Bool,w=decide (0<g)∧Ent S1 ⟨118,[(42,zm w),(12,eqS (rowV (some (b33,2)) 2)),(10,intS .i64 (g:Nat)),(22,intS .i64 (g:Nat)),(21,intS .i64 ((2:Nat):Int)),(20,zU 3 zR xu),(9,eqS (rowV q g)),(5,zT (bxC ((-1,-1),(1,1)))),(3,zU 1 lvR [ui]),(2,zU 3 zR xu),(0,xC)],[rowE (some (b33,2)) 39 3 2 (xu.flatMap zR),rowE q 124 1 g ((XN.take g).flatMap qR)],[],(0,false)⟩) ?_ ?_
   ·refine zP (zY (List.Sublist.cons_cons _ (List.sublist_cons_self _ _))) ?_;refine zO ?_;refine zz ?_
    refine Run.oneB (zZ rfl rfl rfl rfl) rfl rfl rfl (fun h6_1=>?_) (fun h6_1=>?_)
    ·have k6_1:=of_decide_eq_true h6_1
     refine zg ?_;refine za ((g-1:Nat):Int) ?_;(iterate 2 refine zz ?_);refine zo ((zZ rfl rfl rfl rfl).sub (yx (c:=true) (decide_eq_true (by simp;omega)))) ?_;refine zg ?_
     exact⟨_,(decide_eq_true (by omega)).symm,zL zk rfl⟩
    ·have k6_1:=of_decide_eq_false h6_1
     refine zg ?_
     exact⟨_,(decide_eq_false (by omega)).symm,zL zk rfl⟩
   ·rintro S1 ⟨w,hw,hS1⟩
    refine wG hS1 ?_;refine wE (fun h42=>?_) fun h42=>?_
    ·obtain rfl:g=1:=by have:=of_decide_eq_true (hw.symm.trans h42);omega
     refine zg ?_;refine za ((0:Nat):Int) ?_;refine zo (zi rfl rfl rfl (by omega) (y:=ui) (rfl)) ?_;refine zz ?_;refine zo ((xh rfl rfl).sub (zD (n:=((2:Nat):Int)) rfl)) ?_;refine zg ?_;refine yX (fun (m:Nat) (q12:Option (Nat×Nat))=>⟨_,[(49,intS .i64 (m:Nat)),(48,intS .i64 ((2:Nat):Int)),(47,zU 6 Zq ui),(12,eqS (rowV q12 (2+m))),(10,intS .i64 (1:Nat)),(22,intS .i64 (1:Nat)),(21,intS .i64 ((2:Nat):Int)),(20,zU 3 zR xu),(9,eqS (rowV q 1)),(5,zT (bxC ((-1,-1),(1,1)))),(3,zU 1 lvR [ui]),(2,zU 3 zR xu),(0,xC)],[rowE q12 39 3 (2+m) ((xu++xu.take m).flatMap zR),rowE q 124 1 1 ((XN.take 1).flatMap qR)],[],(0,false)⟩) (fun m q12=>m≤2∧yu q12 (2+m)) (fun m _=>2-m) 0 (some (b33,2)) ⟨Nat.zero_le _,hb33⟩ (zL zk rfl) ?_
     rintro m q12 ⟨hm,hq12⟩
     refine zr ?_;refine zz ?_;refine zJ ?_;refine zh ?_;refine zd (fun _ k50=>?_) fun _ k50=>?_
     ·obtain⟨v,hv⟩:∃ v,ui[m]? =some v:=⟨_,List.getElem?_eq_getElem (show m<2 by omega)⟩
      have hms:xu.take (m+1)=xu.take m++[v.2]:=by
       rcases (show m=0∨m=1 by omega) with rfl | rfl <;> (cases hv;rfl)
      have hel:(xu.take m).length=m:=by rw [List.length_take,show xu.length=2 from rfl];omega
      refine zE ?_;refine zh ?_;refine zg ?_;refine zo (zi rfl rfl rfl (by omega) (y:=v) (hv)) ?_;refine zz ?_;refine xg fun b14=>?_;refine zg ?_;refine zo (zB rfl rfl (by decide) rfl (by simp) rfl rfl) ?_;refine Run.append 1 rfl rfl rfl rfl rfl rfl rfl rfl hq12 (by rw [vu (st:=3) (fun _=>rfl),List.length_append,hel];rfl) (fun z hz=>by rw [List.mem_singleton.1 hz];rfl) (by unfold yP;simp;omega) (by unfold yP;simp;omega) fun q57 hq57=>?_;refine zz ?_;refine zJ ?_;refine zP (zY (List.sublist_cons_self _ _)) ?_;refine zO ?_;refine za ((m+1:Nat):Int) ?_;refine zg ?_
      exact⟨m+1,q57,⟨by omega,hq57⟩,by omega,zL (zb rfl (zb rfl (zb rfl (zb rfl (zb rfl (zb rfl (zb rfl (zb rfl (zb rfl (zb rfl (zb rfl (zb rfl (zb rfl (trivial)))))))))))))) (by rw [hms,←List.append_assoc,List.flatMap_append (xs:=xu++xu.take m) (ys:=[v.2])];rfl)⟩
     ·obtain rfl:m=2:=by omega
      refine zI ?_
      exact⟨q12,hq12,zL zk rfl⟩
    ·obtain rfl:g=0:=by have:=of_decide_eq_false (hw.symm.trans h42);omega
     refine zE ?_
     exact⟨_,hb33,zL zk rfl⟩
  ·rintro S1 ⟨q12,hq12,hS1⟩
   refine wG hS1 ?_;refine xS (K:=fun S1=>∃ q12,yu q12 4∧Ent S1 ⟨118,[(12,eqS (rowV q12 4)),(10,intS .i64 (g:Nat)),(22,intS .i64 (g:Nat)),(21,intS .i64 ((2:Nat):Int)),(20,zU 3 zR xu),(9,eqS (rowV q g)),(5,zT (bxC ((-1,-1),(1,1)))),(3,zU 1 lvR [ui]),(2,zU 3 zR xu),(0,xC)],[rowE q12 39 3 4 (d4.toList.flatMap zR),rowE q 124 1 g ((XN.take g).flatMap qR)],[],(0,false)⟩) ?_ ?_
   ·refine zr ?_;(iterate 2 refine zz ?_);refine zo ((xh rfl rfl).sub (zD (n:=((1:Nat):Int)) rfl)) ?_;refine zg ?_;refine zd (fun _ k62=>?_) fun _ k62=>?_
    ·obtain rfl:g=0:=by omega
     have hq12:yu q12 2:=hq12
     refine zg ?_;refine zo (zi rfl rfl rfl (by omega) (y:=ui) (rfl)) ?_;refine zz ?_;refine zo ((xh rfl rfl).sub (zD (n:=((2:Nat):Int)) rfl)) ?_;refine zg ?_;refine yX (fun (m:Nat) (q12:Option (Nat×Nat))=>⟨_,[(68,intS .i64 (m:Nat)),(67,intS .i64 ((2:Nat):Int)),(66,zU 6 Zq ui),(12,eqS (rowV q12 (2+m))),(10,intS .i64 (0:Nat)),(22,intS .i64 (0:Nat)),(21,intS .i64 ((2:Nat):Int)),(20,zU 3 zR xu),(9,eqS (rowV q 0)),(5,zT (bxC ((-1,-1),(1,1)))),(3,zU 1 lvR [ui]),(2,zU 3 zR xu),(0,xC)],[rowE q12 39 3 (2+m) ((xu++xu.take m).flatMap zR),rowE q 124 1 0 ((XN.take 0).flatMap qR)],[],(0,false)⟩) (fun m q12=>m≤2∧yu q12 (2+m)) (fun m _=>2-m) 0 q12 ⟨Nat.zero_le _,hq12⟩ (zL zk rfl) ?_
     rintro m q12 ⟨hm,hq12⟩
     refine zr ?_;refine zz ?_;refine zJ ?_;refine zh ?_;refine zd (fun _ k69=>?_) fun _ k69=>?_
     ·obtain⟨v,hv⟩:∃ v,ui[m]? =some v:=⟨_,List.getElem?_eq_getElem (show m<2 by omega)⟩
      have hms:xu.take (m+1)=xu.take m++[v.1]:=by
       rcases (show m=0∨m=1 by omega) with rfl | rfl <;> (cases hv;rfl)
      have hel:(xu.take m).length=m:=by rw [List.length_take,show xu.length=2 from rfl];omega
      refine zE ?_;refine zh ?_;refine zg ?_;refine zo (zi rfl rfl rfl (by omega) (y:=v) (hv)) ?_;refine zz ?_;refine xg fun b16=>?_;refine zg ?_;refine zo (zB rfl rfl (by decide) rfl (by simp) rfl rfl) ?_;refine Run.append 1 rfl rfl rfl rfl rfl rfl rfl rfl hq12 (by rw [vu (st:=3) (fun _=>rfl),List.length_append,hel];rfl) (fun z hz=>by rw [List.mem_singleton.1 hz];rfl) (by unfold yP;simp;omega) (by unfold yP;simp;omega) fun q76 hq76=>?_;refine zz ?_;refine zJ ?_;refine zP (zY (List.sublist_cons_self _ _)) ?_;refine zO ?_;refine za ((m+1:Nat):Int) ?_;refine zg ?_
      exact⟨m+1,q76,⟨by omega,hq76⟩,by omega,zL (zb rfl (zb rfl (zb rfl (zb rfl (zb rfl (zb rfl (zb rfl (zb rfl (zb rfl (zb rfl (zb rfl (zb rfl (zb rfl (trivial)))))))))))))) (by rw [hms,←List.append_assoc,List.flatMap_append (xs:=xu++xu.take m) (ys:=[v.1])];rfl)⟩
     ·obtain rfl:m=2:=by omega
      refine zI ?_
      exact⟨q12,hq12,zL zk rfl⟩
    ·obtain rfl:g=1:=by omega
     have hq12:yu q12 4:=hq12
     refine zE ?_
     exact⟨_,hq12,zL zk rfl⟩
   ·rintro S1 ⟨q12,hq12,hS1⟩
    refine wG hS1 ?_
    obtain⟨b12,c12,rfl⟩:=zcj hq12 (by decide)
    refine zh ?_;refine zg ?_;refine zf zhs ?_;refine zg ?_;refine wR ?_;refine zr ?_;refine zz ?_;refine zJ ?_;refine zh ?_;refine zd (fun h82 k82=>?_) fun _ k82=>?_
    ·exact (by simp at h82)
    ·refine zI ?_;refine zh ?_;refine zg ?_;refine zo (xK rfl rfl hq12) ?_;refine zg ?_;refine yK (γ:=Nat) (fun k=>⟨_,[(97,intS .i64 (k:Nat)),(96,intS .i64 ((4:Nat):Int)),(12,eqS (rowV (some (b12,c12)) 4)),(10,intS .i64 (g:Nat)),(22,intS .i64 (g:Nat)),(21,intS .i64 ((2:Nat):Int)),(20,zU 3 zR xu),(9,eqS (rowV q g)),(5,zT (bxC ((-1,-1),(1,1)))),(3,zU 1 lvR [ui]),(2,zU 3 zR xu),(0,xC)],[rowE (some (b12,c12)) 39 3 4 (vZ zR d4),rowE q 124 1 g ((XN.take g).flatMap qR)],[],(0,false)⟩) (fun k=>k≤4) (fun k=>4-k) 0 (Nat.zero_le _) (zL zk rfl) ?_
     intro k hk
     refine zr ?_;refine zz ?_;refine zJ ?_;refine zh ?_;refine zd (fun _ k98=>?_) fun _ k98=>?_
     ·have hkd:k<d4.size:=by show k<4;omega
      have hbk:=xO zlV hkd
      refine zE ?_;refine zh ?_;refine zg ?_;refine zo ((yG k rfl rfl rfl rfl (by omega))) ?_;refine zo ((yO 0 (f:=zR) (fun _=>rfl) (d:=d4) (i:=k) hkd rfl rfl rfl)) ?_;refine zo (ze rfl rfl (vh (q:=d4[k]!) (k:=1) (by decide))) ?_;refine zo ((yG k rfl rfl rfl rfl (by omega))) ?_;refine Run.storeE 0 (fun _=>rfl) (d:=d4) (f:=zR) (i:=k) hkd d4[k]! rfl rfl rfl rfl rfl rfl rfl ?_;refine zg ?_;refine za ((k+1:Nat):Int) ?_;refine zg ?_
      exact⟨k+1,(by omega:k+1≤4),by omega,zL (zb rfl (zb rfl (zb rfl (zb rfl (zb rfl (zb rfl (zb rfl (zb rfl (zb rfl (zb rfl (zb rfl (zb rfl (trivial))))))))))))) (by rw [zlW];rfl)⟩
     ·refine zI ?_;refine zg ?_;refine Run.callH [] [_] [_] rfl rfl rfl rfl (zed (d:=d4) (k:=1) hq12 rfl (by decide) zlV (by decide) zpu) rfl rfl rfl ?_
      rintro s110 H110 ⟨rfl,rfl⟩
      refine zg ?_;refine Run.callH [] [_] [_] rfl rfl rfl rfl (zht (d:= #[-1,-1,1,1]) (k:=1) hq12 rfl (by decide) zqC (zrm (by decide)) zqB rfl) rfl rfl rfl ?_
      rintro s113 H113 ⟨rfl,rfl⟩
      refine Run.ghost _ rfl (yU 0 113 rfl rfl (show yu (some (b12,c12)) 2 from ⟨by have:=hq12.1;omega,hq12.2⟩) (l:=xu) (f:=zR) rfl rfl (fun _ _=>rfl) (by decide)) ?_;refine zo (zB rfl rfl (by decide) rfl (by simp) rfl rfl) ?_;refine Run.append 0 rfl rfl rfl rfl rfl rfl rfl rfl hq (by rw [vu (st:=1) (fun _=>rfl),List.length_take,show XN.length=2 from rfl];omega) (fun z hz=>by rw [List.mem_singleton.1 hz];rfl) (by unfold yP;simp;omega) (by unfold yP;simp;omega) fun q115 hq115=>?_;refine zg ?_;refine za ((g+1:Nat):Int) ?_;refine zg ?_
      exact⟨g+1,q115,⟨by omega,hq115⟩,by omega,zL (zb rfl (zb rfl (zb rfl (zb rfl (zb rfl (zb rfl (zb rfl (zb rfl (trivial))))))))) (by rw [hW,List.flatMap_append];rfl)⟩
 ·obtain rfl:g=2:=by omega
  refine zI ?_;refine zP (yU 0 9 rfl rfl hq (l:=XN) (f:=qR) rfl rfl (fun _ _=>rfl) (by decide)) ?_;refine zg ?_
  exact zj zt
end Go.Proofs
namespace Go.Proofs
open Go Go.Sv Num
variable {G:Imm}
abbrev Ce:=Int×Int×Int×V2
abbrev XO (c:Ce):List SV:=intS .i8 c.1::intS .i64 c.2.1::intS .i64 c.2.2.1::yy c.2.2.2
def ceX (l:List Ce):List (List SV):=l.map fun c=>[zl (XO c)]
theorem znW (l:List Ce):(ceX l).length=l.length:=List.length_map _
theorem zpx {l:List Ce} {ss:List SV} (h:ss∈ceX l):ss.length=1:=by
 obtain⟨x,_,rfl⟩:=List.mem_map.1 h;rfl
theorem znX {l:List Ce} {i:Nat} {ss:List SV} (h:(ceX l)[i]? =some ss):∃ c,l[i]? =some c∧ss=[zl (XO c)]:=by
 unfold ceX at h;rw [List.getElem?_map] at h
 cases hx:l[i]? with
 | none=>rw [hx] at h;simp at h
 | some x=>rw [hx] at h;exact⟨x,rfl,(Option.some.inj h).symm⟩
def zgh (one two at1:Int) (x:Rat):List Ce:=[(one,at1,0,(x,-1)),(two,at1,0,(x,0)),(one,at1,1,(x,1))]
def xv:List Ce:=zgh 0 1 0 (-1)++(zgh 2 3 0 0++zgh 0 1 1 1)
abbrev mdC (s:SV):List SV:=bxC ((-1,-1),(1,1))++[zU 3 zR xu,zU 1 lvR [ui],zU 1 qR XN,s]
theorem zhu {p q:Rat} (h:p=q) (I:Imm) (v:Value) (hv:(zl (zR p)).den I v):(zl (zR q)).den I v:=h▸hv
theorem znY:Bq (1/2) 1:=⟨by decide +kernel,by decide +kernel⟩
theorem zqD [Tab G]:zp Tryz.prog G 353 [zl (zR (-1)),zl (zR 1)] (xn [zl (zR 0),zm true]):=by
 refine zs Tryz.func353 ?_;refine zg ?_;refine xg fun b4=>?_;refine zz ?_;refine zJ ?_;refine ut ?_;refine zh ?_;refine zg ?_;refine zo ((ze rfl rfl (wt (p:= -1) (q:=1) (by decide))).sub (zD (n:= -1) (by decide +kernel))) ?_;refine zg ?_;refine zd (fun h13 k13=>?_) fun _ k13=>?_
 ·exact (by simp at h13)
 ·refine zE ?_;refine zh ?_;refine zg ?_;refine zo ((ze rfl rfl (Xz (q:=1) (by decide))).sub (zD (n:=1) (by decide +kernel))) ?_;refine zg ?_;refine zd (fun h17 k17=>?_) fun _ k17=>?_
  ·exact (by simp at h17)
  ·refine zE ?_;refine zh ?_;refine zg ?_;refine zo ((ze rfl rfl (Xz (q:= -1) (by decide))).sub (zD (n:= -1) (by decide +kernel))) ?_;refine zg ?_;refine zd (fun _ k31=>?_) fun h31 k31=>?_
   ·refine zr ?_;refine zo ((ze rfl rfl (Zo (n:=0) (q:=0) (by decide) (by decide)))) ?_;refine zg ?_
    exact zj zt
   ·exact (by simp at h31)
theorem zlX [Tab G]:zp Tryz.prog G 288 [zl (zR (-1)),zl (zR 1)] (zl (zR 0)):=by
 refine zs Tryz.func288 ?_;refine zg ?_;refine xg fun b4=>?_;refine zJ ?_;refine zh ?_;refine zg ?_;refine zf zqD ?_;refine zg ?_;refine xg fun b5=>?_;refine zg ?_;refine wE (fun h13=>?_) fun h13=>?_
 ·refine zg ?_
  exact zj zt
 ·exact (by simp at h13)
theorem zpy [Tab G]:zp Tryz.prog G 354 [zl (zR (-1)),zl (zR 1),zl (zR 0)] (xn [zl (zR (1/2)),zm true]):=by
 refine zs Tryz.func354 ?_;refine zg ?_;refine xg fun b6=>?_;refine zz ?_;refine zJ ?_;refine zh ?_;refine zg ?_;refine zo ((ze rfl rfl (wt (p:= -1) (q:=1) (by decide))).sub (zD (n:= -1) (by decide +kernel))) ?_;refine zg ?_;refine zd (fun h13 k13=>?_) fun _ k13=>?_
 ·exact (by simp at h13)
 ·refine zE ?_;refine Yc 10 (by kernel_rfl) rfl rfl ?_;refine RunE.lat ((show OpOK _ _ _ _ _ (zl (zR (0))) from zF rfl rfl rfl rfl)) rfl rfl rfl ?_;refine RunE.lat ((show OpOK _ _ _ _ _ (zl (zR (-1))) from zF rfl rfl rfl rfl)) rfl rfl rfl ?_;refine RunE.lat ((ze rfl rfl (uL (p:=0) (q:= -1) (by decide))).sub (zhu (q:=1) (by decide +kernel))) rfl rfl rfl ?_;refine RunE.lat ((show OpOK _ _ _ _ _ (zl (zR (1))) from zF rfl rfl rfl rfl)) rfl rfl rfl ?_;refine RunE.lat ((show OpOK _ _ _ _ _ (zl (zR (-1))) from zF rfl rfl rfl rfl)) rfl rfl rfl ?_;refine RunE.lat ((ze rfl rfl (uL (p:=1) (q:= -1) (by decide))).sub (zhu (q:=2) (by decide +kernel))) rfl rfl rfl ?_;refine RunE.lat (ze rfl rfl (zaX (p:=1) (q:=2) (by decide))) rfl rfl rfl ?_;refine RunE.lat (zG rfl rfl) rfl rfl rfl ?_;(iterate 2 refine RunE.lat (xo rfl rfl rfl) rfl rfl rfl ?_);refine RunE.nil ?_;refine EffAA.mk1 rfl rfl rfl rfl rfl rfl rfl rfl (by intro h;cases h) rfl rfl rfl fun b8=>?_;refine zg ?_
  exact zj zt
theorem zrp [Tab G] {v:Rat×Rat} {t:Rat} (hv:Bl 1 v) (ht:Bq t 1):zp Tryz.prog G 355 [zl (Zq v),zl (zR t)] (zl (zR (v.1+t*(v.2-v.1)))):=by
 have h1:=hv.1
 have h2:=hv.2
 refine zs Tryz.func355 ?_;refine zg ?_;refine xg fun b4=>?_;refine zJ ?_;refine zS 12 (by kernel_rfl) ?_;refine zg ?_;refine zo (ze rfl rfl (uL (p:=v.2) (q:=v.1) (by decide))) ?_;refine zo (zB rfl rfl (by decide) rfl (by simp) rfl rfl) ?_;refine zo (ze rfl rfl (Yi (p:=t) (q:=v.2-v.1) (by decide))) ?_;refine zo (zB rfl rfl (by decide) rfl (by simp) rfl rfl) ?_;refine zo (ze rfl rfl (uD (p:=v.1) (q:=t*(v.2-v.1)) (by decide))) ?_;refine zg ?_
 exact zj zt
theorem zqE [Tab G]:zp Tryz.prog G 289 [zl (zR (-1)),zl (zR 1),zl (zR 0),zU 6 Zq ui] (zU 3 zR xu):=by
 refine zs Tryz.func289 ?_;refine zg ?_;refine zf zpy ?_;refine zg ?_;refine xg fun b9=>?_;refine zw ?_;refine zz ?_;refine zJ ?_;refine zh ?_;refine zg ?_;refine wE (fun h21=>?_) fun h21=>?_
 ·exact (by simp at h21)
 ·refine zE ?_;refine zh ?_;refine zP (yL 39 3) ?_;refine zr ?_;refine zz ?_;refine zo ((xh rfl rfl).sub (zD (n:=((2:Nat):Int)) rfl)) ?_;refine zg ?_;refine yX (fun (m:Nat) (q:Option (Nat×Nat))=>⟨_,[(24,intS .i64 (m:Nat)),(23,intS .i64 ((2:Nat):Int)),(22,zU 6 Zq ui),(9,eqS (.pointer (some ⟨b9,0,none⟩))),(8,eqS (rowV q m))],[rowE q 39 3 m ((xu.take m).flatMap zR),⟨some b9,39,zR (1/2),0⟩],[],(0,false)⟩) (fun m q=>m≤2∧yu q m) (fun m _=>2-m) 0 none ⟨Nat.zero_le _,rfl⟩ (zL zk rfl) ?_
  rintro m q ⟨hm,hq⟩
  refine zr ?_;refine zz ?_;refine zJ ?_;refine zh ?_;refine zd (fun _ k25=>?_) fun _ k25=>?_
  ·obtain⟨v,hv⟩:∃ v,ui[m]? =some v:=⟨_,List.getElem?_eq_getElem (show m<2 by omega)⟩
   have hbl:Bl 1 v:=zck v (List.mem_of_getElem? hv)
   have hvv:v.1+1/2*(v.2-v.1)=v.1:=by
    rcases (show m=0∨m=1 by omega) with rfl | rfl <;> (cases hv;decide +kernel)
   have hms:xu.take (m+1)=xu.take m++[v.1]:=by
    rcases (show m=0∨m=1 by omega) with rfl | rfl <;> (cases hv;rfl)
   have hel:(xu.take m).length=m:=by rw [List.length_take,show xu.length=2 from rfl];omega
   refine zE ?_;refine zh ?_;refine zg ?_;refine zo (zi rfl rfl rfl (by omega) (y:=v) (hv)) ?_;refine zz ?_;refine xg fun b12=>?_;refine zg ?_;refine zo ((ze rfl rfl (zrp hbl znY)).sub (zhu hvv)) ?_;refine zo (zB rfl rfl (by decide) rfl (by simp) rfl rfl) ?_;refine Run.append 1 rfl rfl rfl rfl rfl rfl rfl rfl hq (by rw [vu (st:=3) (fun _=>rfl),hel]) (fun z hz=>by rw [List.mem_singleton.1 hz];rfl) (by unfold yP;simp;omega) (by unfold yP;simp;omega) fun q33 hq33=>?_;refine zz ?_;refine zJ ?_;refine zP (zY (List.sublist_cons_self _ _)) ?_;refine zO ?_;refine za ((m+1:Nat):Int) ?_;refine zg ?_
   exact⟨m+1,q33,⟨by omega,hq33⟩,by omega,zL (zb rfl (zb rfl (zb rfl (zb rfl (zb rfl (trivial)))))) (by rw [hms,List.flatMap_append];rfl)⟩
  ·obtain rfl:m=2:=by omega
   refine zI ?_;refine zP (yU 0 8 rfl rfl hq (l:=xu) (f:=zR) rfl rfl (fun _ _=>rfl) (by decide)) ?_;refine zg ?_
   exact zj zt
theorem zoB [Tab G] {kd row at1:Int} {x h:Rat} (hx:Bq x 1) (hh:Bq h 1):zp Tryz.prog G 352 [intS .i8 kd,intS .i64 row,zl (zR h),zT [intS .i64 at1],zT (zR x)] (zl (XO (kd,at1,row,(x,h)))):=by
 refine zs Tryz.func352 ?_;refine zg ?_;refine xg fun b8=>?_;refine zJ ?_;refine zS 9 (by kernel_rfl) ?_;refine zg ?_;refine zo (ze rfl rfl (vh (q:=x) (k:=1) (by decide))) ?_;refine zz ?_;refine zo (ze rfl rfl (vh (q:=h) (k:=1) (by decide))) ?_;refine zg ?_
 exact zj zt
theorem zqF [Tab G] {one two at1:Int} {x:Rat} (hx:Bq x 1):IterSpec Tryz.prog G 351 [zT [intS .i64 at1],zT (zR x),zT [zU 3 zR xu],zT [intS .i8 one],zT [intS .i8 two]] (ceX (zgh one two at1 x)):=by
 refine xH Tryz.func351 rfl rfl rfl rfl fun l E hy=>?_;refine zr ?_;(iterate 2 refine zz ?_);refine zx ?_;refine zz ?_;refine zo ((xh rfl rfl).sub (zD (n:=((2:Nat):Int)) rfl)) ?_;refine zg ?_;refine yK (γ:=Nat) (fun g=>⟨_,[(13,intS .i64 (g:Nat)),(12,intS .i64 ((2:Nat):Int)),(11,zU 3 zR xu),(7,wp 352 [zT [intS .i64 at1],zT (zR x)]),(0,yieldS l),(1,zT [intS .i64 at1]),(2,zT (zR x)),(3,zT [zU 3 zR xu]),(4,zT [intS .i8 one]),(5,zT [intS .i8 two])],[],[],(if g=2 then 3 else 2*g,false)⟩) (fun g=>g≤2) (fun g=>2-g) 0 (Nat.zero_le _) (yo zk) ?_
 intro g hg
 refine zr ?_;refine zz ?_;refine zJ ?_;refine zh ?_;refine zd (fun _ k14=>?_) fun _ k14=>?_
 ·obtain⟨y,hyy⟩:∃ y,xu[g]? =some y:=⟨_,List.getElem?_eq_getElem (show g<2 by omega)⟩
  have hby:Bq y 1:=Vh y (List.mem_of_getElem? hyy)
  have hg2:(if g=2 then 3 else 2*g)=2*g:=if_neg (by omega)
  rw [hg2]
  have hc1:(ceX (zgh one two at1 x))[2*g]? =some [zl (XO (one,at1,(g:Nat),(x,y)))]:=by
   rcases (show g=0∨g=1 by omega) with rfl | rfl <;> (cases hyy;rfl)
  refine zE ?_;refine zh ?_;refine zg ?_;refine zo (zi rfl rfl rfl (by omega) (y:=y) (hyy)) ?_;refine zz ?_;refine xg fun b9=>?_;refine zz ?_;refine zw ?_;refine zJ ?_;refine zh ?_;refine zg ?_;refine zo (yI rfl rfl rfl (zoB hx hby)) ?_;refine Run.yield rfl hy rfl rfl rfl hc1 (xi _) rfl rfl rfl fun y1=>?_;refine zg ?_;refine wE (fun h25=>?_) fun h25=>?_
  ·refine zj ?_
   exact⟨.inl rfl,.inr h25⟩
  ·obtain rfl:y1=true:=by simpa using h25
   refine zE ?_;refine zS 18 (by kernel_rfl) ?_;refine zz ?_;refine za ((g+1:Nat):Int) ?_;refine zz ?_;refine zo ((xh rfl rfl).sub (zD (n:=((2:Nat):Int)) rfl)) ?_
   refine Run.oneB (zZ rfl rfl rfl rfl) rfl rfl rfl (fun h5_4=>?_) (fun h5_4=>?_)
   ·have k5_4:=of_decide_eq_true h5_4
    obtain rfl:g=0:=by omega
    cases hyy
    refine zg ?_;refine za ((1:Nat):Int) ?_;refine zo (zi rfl rfl rfl (by omega) (y:=1) (rfl)) ?_;refine zz ?_;refine zf zlX ?_;refine zo (yI rfl rfl rfl (zoB hx bq0)) ?_;refine zJ ?_;refine Run.yield rfl hy rfl rfl rfl (show _=some [zl (XO (two,at1,0,(x,0)))] from rfl) (xi _) (gB rfl rfl rfl rfl) rfl rfl fun y2=>?_;refine zg ?_;refine wE (fun h46=>?_) fun h46=>?_
    ·refine zj ?_
     exact⟨.inl rfl,.inr h46⟩
    ·obtain rfl:y2=true:=by simpa using h46
     refine zE ?_;refine zP (zY (List.nil_sublist _)) ?_;refine zO ?_;refine za ((1:Nat):Int) ?_;refine zg ?_
     exact⟨1,(by omega:1≤2),by omega,yo zk⟩
   ·have k5_4:=of_decide_eq_false h5_4
    obtain rfl:g=1:=by omega
    refine zg ?_;refine yM rfl rfl ?_;refine zE ?_;refine zP (zY (List.nil_sublist _)) ?_;refine zO ?_;refine za ((2:Nat):Int) ?_;refine zg ?_
    exact⟨2,(by omega:2≤2),by omega,yo zk⟩
 ·obtain rfl:g=2:=by omega
  refine zI ?_
  exact⟨.inr rfl,.inl rfl⟩
theorem zqG {one two at1:Int} {x:Rat}:zp Tryz.prog G 287 [intS .i8 one,intS .i8 two,intS .i64 at1,zl (zR x),zU 3 zR xu] (wp 351 [zT [intS .i64 at1],zT (zR x),zT [zU 3 zR xu],zT [intS .i8 one],zT [intS .i8 two]]):=by
 refine zs Tryz.func287 ?_;refine zg ?_
 exact zj zt
theorem zqH {f:FuncId} {caps:List SV} {l xs:List Ce} {n:Nat} {q0:Option (Nat×Nat)} (hit:IterSpec Tryz.prog G f caps (ceX xs)) (hq0:yu q0 n) (hl:l.length=n) (hs:n+xs.length≤1000000):CallSpec Tryz.prog G 286 [eqS (rowV q0 n),wp f caps] [rowE q0 287 9 n (l.flatMap XO)] (fun v H1=>∃ q,yu q (n+xs.length)∧v=eqS (rowV q (n+xs.length))∧H1=[rowE q 287 9 (n+xs.length) ((l++xs).flatMap XO)]):=by
 refine zs Tryz.func286 ?_;refine zr ?_;refine Run.box rfl rfl rfl rfl rfl rfl fun b2=>?_;refine zz ?_;refine zJ ?_;refine zh ?_;refine zg ?_
 refine ul rfl rfl hit (fun ss h=>zpx h) (by decide) rfl
  (fun k h i=>i=(0,false)∧k≤xs.length∧∃ q,yu q (n+k)∧h=[⟨some b2,169,[eqS (rowV q (n+k))],0⟩,rowE q 287 9 (n+k) ((l++xs.take k).flatMap XO)])
  (fun _ _ _=>False) ⟨rfl,Nat.zero_le _,q0,hq0,by rw [List.take_zero,List.append_nil];rfl⟩ ?_ ?_ ?_
 ·rintro l1 k' ss h i hk' ⟨rfl,hkl,q,hq,rfl⟩
  obtain⟨x,hx,rfl⟩:=znX hk'
  have hlt:=yt hx
  have hms:=wo hx
  refine zO ?_;refine xg fun b5=>?_;refine zw ?_;refine zJ ?_
  refine⟨rfl,?_⟩
  refine zg ?_;refine zo (zB rfl rfl (by decide) rfl (by simp) (by kernel_rfl) (by kernel_rfl)) ?_;refine Run.append 2 rfl rfl rfl rfl rfl rfl rfl rfl hq (by rw [vu (st:=9) (fun _=>rfl),List.length_append,List.length_take,hl];omega) (fun z hz=>by rw [List.mem_singleton.1 hz];rfl) (by unfold yP;simp;omega) (by unfold yP;simp;omega) fun q11 hq11=>?_;refine zw ?_;refine Run.ghost _ rfl (zY (List.sublist_cons_self _ _)) ?_;refine zJ ?_
  refine⟨rfl,by omega,q11,hq11,?_⟩
  rw [hms,←List.append_assoc,List.flatMap_append (xs:=l++xs.take k') (ys:=[x])];rfl
 ·rintro h i D ⟨rfl,_,q,hq,rfl⟩
  rw [znW] at hq ⊢
  rw [List.take_length]
  refine zg ?_;refine zj ?_
  exact⟨_,[_],.one (.tmp rfl),List.sublist_cons_self _ _,q,hq,rfl,rfl⟩
 ·intro h i D e c hc hInv;exact hInv.elim
end Go.Proofs
namespace Go.Proofs
open Go Go.Sv Num
variable {G:Imm}
theorem zpz [Tab G] {s:SV} [One s]:zp Tryz.prog G 217 [zl (mdC s)] (zU 9 XO xv):=by
 refine zs Tryz.func217 ?_;refine zr ?_;(iterate 2 refine zz ?_);refine zJ ?_;refine zh ?_;refine zP (yL 287 9) ?_;refine zr ?_;refine zz ?_;refine zz ?_;refine zo ((xh rfl rfl).sub (zD (n:=((2:Nat):Int)) rfl)) ?_;refine zg ?_;refine yX (fun (g:Nat) (q:Option (Nat×Nat))=>⟨_,[(9,intS .i64 (g:Nat)),(8,intS .i64 ((2:Nat):Int)),(7,zU 3 zR xu),(2,eqS (rowV q (xv.take (6*g)).length)),(1,zT (mdC s))],[rowE q 287 9 (xv.take (6*g)).length ((xv.take (6*g)).flatMap XO)],[],(0,false)⟩) (fun g q=>g≤2∧yu q (xv.take (6*g)).length) (fun g _=>2-g) 0 none ⟨Nat.zero_le _,rfl⟩ (zL zk rfl) ?_
 rintro g q ⟨hg,hq⟩
 refine zr ?_;refine zz ?_;refine zJ ?_;refine zh ?_;refine zd (fun _ k10=>?_) fun _ k10=>?_
 ·obtain⟨x,hx⟩:∃ x,xu[g]? =some x:=⟨_,List.getElem?_eq_getElem (show g<2 by omega)⟩
  have hbx:Bq x 1:=Vh x (List.mem_of_getElem? hx)
  have hW:XN[g]? =some xu:=by
   rcases (show g=0∨g=1 by omega) with rfl | rfl <;> rfl
  have hle:(xv.take (6*g)).length≤9:=by
   rw [List.length_take];exact Nat.min_le_right _ 9
  refine zE ?_;refine zh ?_;refine zg ?_;refine zo (zi rfl rfl rfl (by omega) (y:=x) (hx)) ?_;refine zz ?_;refine xg fun b4=>?_;refine zz ?_;refine zw ?_;refine zJ ?_;refine zh ?_;refine zr ?_;(iterate 2 refine zz ?_);refine zz ?_;refine zo ((xh rfl rfl).sub (zD (n:=((2:Nat):Int)) rfl)) ?_;refine zg ?_;refine zd (fun _ k18=>?_) fun h18 k18=>?_
  ·refine vj 10 [9] _ (by kernel_rfl) (.cons_cons _ (.cons _ .slnil)) ?_;(iterate 2 refine RunE.one (zG rfl rfl) rfl rfl rfl (by kernel_rfl) ?_);refine RunE.one ((show OpOK _ _ _ _ _ (zl (zR (x))) from zC 0 rfl rfl rfl (by kernel_rfl) rfl)) rfl rfl rfl (by kernel_rfl) ?_;refine RunE.one (zX rfl rfl rfl) rfl rfl rfl (by kernel_rfl) ?_;refine RunE.one ((show OpOK _ _ _ _ _ (zU 1 qR XN) from yN rfl rfl)) rfl rfl rfl (by kernel_rfl) ?_;refine RunE.one (zG rfl rfl) rfl rfl rfl (by kernel_rfl) ?_;refine RunE.one (zi rfl rfl rfl (by omega) (y:=xu) (hW)) rfl rfl rfl (by kernel_rfl) ?_;refine RunE.one ((show OpOK _ _ _ _ _ (zU 3 zR xu) from yN rfl rfl)) rfl rfl rfl (by kernel_rfl) ?_;refine RunE.one (ze rfl rfl zqG) rfl rfl rfl (by kernel_rfl) ?_
   refine RunE.nil ⟨_,rfl,?_⟩
   refine .loc1 1 (Xk rfl rfl (zqH (l:=(xv.take (6*g))) (zqF hbx) hq rfl (by show _+3≤_;omega))) rfl rfl rfl rfl ?_
   rintro s28 H28 ⟨q28,hq28,rfl,rfl⟩
   refine⟨(.cons_cons _ (.cons _ .slnil)),?_⟩
   refine RunE.nil ?_;refine zz ?_;refine zx ?_;(iterate 2 refine zz ?_);refine zz ?_;refine zo ((xh rfl rfl).sub (zD (n:=((1:Nat):Int)) rfl)) ?_
   refine Run.oneB (zZ rfl rfl rfl rfl) rfl rfl rfl (fun h6_4=>?_) (fun h6_4=>?_)
   ·have k6_4:=of_decide_eq_true h6_4
    obtain rfl:g=0:=by omega
    cases hx
    refine zg ?_;refine za ((1:Nat):Int) ?_;refine zz ?_;refine zz ?_;refine zo ((xh rfl rfl).sub (zD (n:=((2:Nat):Int)) rfl)) ?_;refine zo ((zZ rfl rfl rfl rfl).sub (yx (c:=true) (by decide))) ?_;refine zg ?_;refine xt rfl rfl ?_;refine Yc 8 (by kernel_rfl) rfl rfl ?_;refine RunE.lat ((show OpOK _ _ _ _ _ (zl (zR (-1))) from zC 0 rfl rfl rfl (by kernel_rfl) rfl)) rfl rfl rfl ?_;refine RunE.lat (zX rfl rfl rfl) rfl rfl rfl ?_;refine RunE.lat ((show OpOK _ _ _ _ _ (zU 3 zR xu) from yN rfl rfl)) rfl rfl rfl ?_;refine RunE.lat (zG rfl rfl) rfl rfl rfl ?_;refine RunE.lat (yA (z:=((1:Nat):Int)) rfl rfl rfl (congrArg some (by omega)) (wrap_i64 (by omega) (by omega))) rfl rfl rfl ?_;refine RunE.lat (zi rfl rfl rfl (by omega) (y:=1) (rfl)) rfl rfl rfl ?_;refine RunE.lat ((show OpOK _ _ _ _ _ (zl (zR (1))) from zF rfl rfl rfl rfl)) rfl rfl rfl ?_;refine RunE.lat (ze rfl rfl zlX) rfl rfl rfl ?_;refine RunE.nil ?_;refine EffAA.mk1 rfl rfl rfl rfl rfl rfl rfl rfl (by intro h;cases h) rfl rfl rfl fun b5=>?_;refine zJ ?_;refine vj 19 [18] _ (by kernel_rfl) (.cons_cons _ (.cons_cons _ (.cons _ .slnil))) ?_;(iterate 2 refine RunE.one (zG rfl rfl) rfl rfl rfl (by kernel_rfl) ?_);refine RunE.one ((show OpOK _ _ _ _ _ (zl (zR (0))) from zC 0 rfl rfl rfl (by kernel_rfl) rfl)) rfl rfl rfl (by kernel_rfl) ?_;refine RunE.one ((show OpOK _ _ _ _ _ (zl (zR (-1))) from zC 1 rfl rfl rfl (by kernel_rfl) rfl)) rfl rfl rfl (by kernel_rfl) ?_;refine RunE.one (zX rfl rfl rfl) rfl rfl rfl (by kernel_rfl) ?_;refine RunE.one ((show OpOK _ _ _ _ _ (zU 3 zR xu) from yN rfl rfl)) rfl rfl rfl (by kernel_rfl) ?_;refine RunE.one (zG rfl rfl) rfl rfl rfl (by kernel_rfl) ?_;refine RunE.one (yA (z:=((1:Nat):Int)) rfl rfl rfl (congrArg some (by omega)) (wrap_i64 (by omega) (by omega))) rfl rfl rfl (by kernel_rfl) ?_;refine RunE.one (zi rfl rfl rfl (by omega) (y:=1) (rfl)) rfl rfl rfl (by kernel_rfl) ?_;refine RunE.one ((show OpOK _ _ _ _ _ (zl (zR (1))) from zF rfl rfl rfl rfl)) rfl rfl rfl (by kernel_rfl) ?_;refine RunE.one ((show OpOK _ _ _ _ _ (zl (zR (0))) from zC 0 rfl rfl rfl (by kernel_rfl) rfl)) rfl rfl rfl (by kernel_rfl) ?_;refine RunE.one (zX rfl rfl rfl) rfl rfl rfl (by kernel_rfl) ?_;refine RunE.one ((show OpOK _ _ _ _ _ (zU 1 lvR [ui]) from yN rfl rfl)) rfl rfl rfl (by kernel_rfl) ?_;refine RunE.one (zG rfl rfl) rfl rfl rfl (by kernel_rfl) ?_;refine RunE.one (zi rfl rfl rfl (by omega) (y:=ui) (rfl)) rfl rfl rfl (by kernel_rfl) ?_;refine RunE.one ((show OpOK _ _ _ _ _ (zU 6 Zq ui) from yN rfl rfl)) rfl rfl rfl (by kernel_rfl) ?_;refine RunE.one (ze rfl rfl zqE) rfl rfl rfl (by kernel_rfl) ?_;refine RunE.one (ze rfl rfl zqG) rfl rfl rfl (by kernel_rfl) ?_
    refine RunE.nil ⟨_,rfl,?_⟩
    refine .loc1 2 (Xk rfl rfl (zqH (l:=(xv.take (6*0))++zgh 0 1 0 (-1)) (zqF bq0) hq28 rfl (by decide))) rfl rfl rfl rfl ?_
    rintro s68 H68 ⟨q68,hq68,rfl,rfl⟩
    refine⟨(.cons_cons _ (.cons_cons _ (.cons _ .slnil))),?_⟩
    refine RunE.nil ?_;refine zz ?_;refine zJ ?_;refine zP (zY ((List.sublist_cons_self _ _).trans (List.sublist_cons_self _ _))) ?_;refine zO ?_;refine za ((1:Nat):Int) ?_;refine zg ?_
    exact⟨1,q68,⟨by omega,hq68⟩,by omega,zL zk rfl⟩
   ·have k6_4:=of_decide_eq_false h6_4
    obtain rfl:g=1:=by omega
    cases hx
    refine zg ?_;refine yM rfl rfl ?_;refine zE ?_;refine zP (zY (List.sublist_cons_self _ _)) ?_;refine zO ?_;refine za ((2:Nat):Int) ?_;refine zg ?_
    exact⟨2,q28,⟨by omega,hq28⟩,by omega,zL zk rfl⟩
  ·exact absurd (of_decide_eq_false h18) (by omega)
 ·obtain rfl:g=2:=by omega
  refine zI ?_;refine zP (yU 0 2 rfl rfl hq (l:=xv) (f:=XO) rfl rfl (fun _ _=>rfl) (by decide)) ?_;refine zg ?_
  exact zj zt
theorem zpA [Tab G]:zp Tryz.prog G 159 [xC] (zl (mdC (zU 9 XO xv))):=by
 refine zs Tryz.func159 ?_;refine zr ?_;refine xg fun b2=>?_;refine zg ?_;refine zf zpq ?_;refine zg ?_;refine zf zqw ?_;refine zg ?_;refine zf znV ?_;refine zg ?_;refine zf zpv ?_;refine zg ?_;refine zf (zpz (s:=xC)) ?_;refine zg ?_
 exact zj zt
end Go.Proofs
namespace Go.Sv
open Go Go.RowKit
section
variable {P:Program} {G:Imm} {E:Env} {r:Option Nat} {gd:Nat→Option Nat} {o:Oper} {ops:List Oper} {K:St→Prop} {g:List (Nat×SV)} {i0:Nat×Bool} {Q:SV→Nat×Bool→Prop}
structure CallE (P:Program) (G:Imm) (E:Env) (f:FuncId) (args:List SV) (i0:Nat×Bool) (Q:SV→Nat×Bool→Prop):Prop where
 enters:∀ args' w,(callFunc f args').run P w= .ok (.enter f args') w
 main:∀ (I:Imm) (F:Nat→Prop) (W:World) (vs:List Value),E.ok i0 I F W→XS F I W→Holds G I W→dens I args vs →
  Calls P f vs.toArray W fun e W'=>∃ v I' F' s i',e= .returned v∧Q s i'∧s.den I' v∧E.ok i' I' F' W'∧XS F' I' W'∧Holds G I' W'∧Fram F I W F' I' W'
theorem zlY {f:FuncId} {fn:Func} {c:Code} {args:List SV} (hf:P.funcs[f]? =some fn) (hname:(fn.name == "runtime.NumGoroutine")=false) (hb:fn.body=some c) (hn:Nat.ble args.length fn.ntmps=true)
  (hT:T P G E none c {n:=fn.ntmps,g:=params 0 args,h:=[],d:=[],i:=i0} (fun e S=>(e= .ret∨e= .normal)∧∃ s,Res P S.g S.h fn.results.toList s∧Q s S.i)):CallE P G E f args i0 Q:=by
 refine⟨fun args w=>?_,fun I F W vs he hF hm hd=>?_⟩
 ·have h1:fn.name ≠ "runtime.NumGoroutine" :=by simpa using hname
  simp [callFunc,hf,h1,hb]
 ·have h:=zbm (E:=E) (i0:=i0) (H:=[]) (args:=args) (vs:=vs) (I:=I) (F:=F) (W:=W) (Q:=fun s _ i=>Q s i) hf hb hn
   (XW hT fun e S ⟨h1,s,h2,h3⟩=>⟨h1,s,[],h2,List.nil_sublist _,h3⟩) hm ⟨by simp [bs],by simp⟩ hd he (fun b hb=>⟨(hF b hb).1,(hF b hb).2,by simp [bs]⟩)
  refine h.mono ?_
  rintro e W' ⟨v,I',F',s,H',i',h1,h2,h3,h4,_,h6,h7,h8⟩
  exact⟨v,I',F',s,i',h1,h2,h3,h6,fun b hb=>⟨(h7 b hb).1,(h7 b hb).2.1⟩,h4,h8.weaken (fun b hb=>hb.elim (fun h=>by simp [bs] at h) id) fun b hb=>.inl (.inr hb)⟩
theorem JM {x:Operand} {xs:Array Operand} {ts:Array TypeId} {f:FuncId} {args caps:List SV} (hop:o.op= .call {callee:=.value x,args:=xs,argTypes:=ts}) (hf:xd g x=some (wp f caps)) (ha:uJ g xs.toList=some args) (hs:CallE P G E f (args++caps) i0 Q):OpX P G E o g i0 Q:=by
 intro n r I F W a next Qx hm hr hE hF k
 obtain⟨cv,hv,hcd⟩:=hr.get (x:=x) (by simp [hop,Op.operands,Call.operands]) hf
 have hd:dens I args (xs.toList.map a.eval):=uA ha fun y hy s hs=>hr y (by simp [hop,Op.operands,Call.operands];exact .inr (by simpa using hy)) s hs
 have hrun:(execOp a.eval o).run P W= .ok (.enter f (xs.toList.map a.eval++cv).toArray) W:=by
  have e:Array.map a.eval xs++cv.toArray=(xs.toList.map a.eval++cv).toArray:=by apply Array.ext';simp
  simp only [execOp,hop,resolve,hv,Deferred.ofValue,Sem.run_bind,Sem.run_pure,Result.andThen_ok,invoke,Array.empty_append,e,hs.enters]
 refine xG (by simp [hop]) hrun ?_
 refine⟨fun h=>by simp [Fr,Fence.wide] at h,ZW r ((hs.main I F W _ hE hF hm (hd.append hcd)).mono ?_)⟩
 rintro e W' ⟨v,I',F',s,i',rfl,hQ,hsv,hE',hF',hm',hfr⟩
 exact k v I' F' W' s i' hQ hfr hm' hE' hF' hsv
theorem OpX.eff {S:St} {Kx:SV→Nat×Bool→Prop} (h:OpX P G E o S.g S.i Kx) (hd:dstOk o S.n=true):zag P G E r o S (fun S'=>∃ s i',Kx s i'∧S'=({S with i:=i'}).set o.dst s):=by
 intro n I F a W next Q hsat kk
 refine h n r I F W a next Q hsat.m (vz hsat o) hsat.e (fun b hb=>⟨(hsat.f b hb).1,(hsat.f b hb).2.1⟩) fun v I' F' W' s i' hk hf hm' hE hF' hv=>?_
 obtain⟨s1,f1⟩:=hsat.env (i':=i') hf hm' hE hF'
 refine kk _ I' F' _ W' (s1.put hv (vP hd)) ⟨s,i',hk,rfl⟩ ?_
 rw [Yp];exact f1
theorem Run.callE {n d0:Nat} {h:HL} {d:List Nat} {x:Operand} {xa:Array Operand} {ts:Array TypeId} {f:FuncId} {args caps:List SV} {p:Bool} (hp:p=false) (hop:o.op= .call {callee:=.value x,args:=xa,argTypes:=ts}) (hf:xd g x=some (wp f caps)) (ha:uJ g xa.toList=some args)
  (hs:CallE P G E f (args++caps) i0 Q) (hg:zH gd g o true) (ht:o.dst=some d0) (hd:Nat.blt d0 n=true) (hr:∀ s i',Q s i'→Run P G E r gd p ops ⟨n,(d0,s)::g,h,d,i'⟩ K):Run P G E r gd p (o::ops) ⟨n,g,h,d,i0⟩ K:=
 .eff _ hp ((JM hop hf ha hs).eff (S:=⟨n,g,h,d,i0⟩) (by simp [dstOk,ht];simpa [Nat.blt_eq] using hd)) hg fun S' ⟨s,i',hq,e⟩=>by subst e;have:=hr s i' hq;simpa only [St.set,ht] using this
end
end Go.Sv
namespace Go.Sv
open Go Go.RowKit
section
variable {P:Program} {G:Imm} {E:Env} {r:Option Nat} {S:St} {H:HL} {o:Oper} {g:List (Nat×SV)}
def zcl (l:List Oper) (N:Nat):Bool:=ua l&&(vm l&&(ub l&&Zr l (N+4)))
structure EffB (P:Program) (G:Imm) (E:Env) (r:Option Nat) (gd:Nat→Option Nat) (n:Nat) (h:HL) (d:List Nat) (ix:Nat×Bool) (o1 o2 oC oA:Oper) (rest:List Oper) (g:List (Nat×SV)) (K:St→Prop):Prop where
  e:∃ d1 d2 dc da t zs K1 K2,OpL P G o1 g [] K1∧o1.dst=some d1∧o1.guard=none∧Nat.blt d1 n=true∧(∀s1,OpL P G o2 ((d1,s1)::g) [] K2)∧o2.dst=some d2∧o2.guard=none∧Nat.blt d2 n=true ∧
    oC.dst=some dc∧oC.guard=none∧Nat.blt dc n=true∧Operand.tmp d1∈oC.op.operands.toList∧Operand.tmp d2∈oC.op.operands.toList∧IsZero P t zs∧oA.op= .alloc t∧oA.dst=some da∧oA.guard=none∧Nat.blt da n=true ∧
    ∀s1 H1 s2 H2,K1 s1 H1→K2 s2 H2→∃ sc,OpOK P G h oC ((d2,s2)::(d1,s1)::g) sc∧∀ b,Run P G E r gd false rest ⟨n,(da,eqS (.pointer (some ⟨b,0,none⟩)))::(dc,sc)::(d2,s2)::(d1,s1)::g,⟨some b,t,zs.map eqS,0⟩::(H2++(H1++h)),d,ix⟩ K
theorem zlZ (N:Nat) {l:List Oper} {o1 o2 oC oA:Oper} {Q:Exit→St→Prop} {n:Nat} {g:List (Nat×SV)} {h:HL} {d:List Nat} {i:Nat×Bool} (hok:zcl l N=true) (ho1:l[N]? =some o1) (ho2:l[N+1]? =some o2) (hoC:l[N+2]? =some oC) (hoA:l[N+3]? =some oA)
  (hr:RunE P G (xA l) n h h (fun _=>false) 0 (l.take N) g (fun g'=>EffB P G E r (xA l) n h d i o1 o2 oC oA (l.drop (N+4)) g' (fun S'=>Q .normal S'))):TA P G E r l ⟨n,g,h,d,i⟩ Q:=by
 simp only [zcl,Bool.and_eq_true] at hok
 obtain⟨hed,hnd,hrd,htail⟩:=hok
 obtain⟨sv,⟨d1,d2,dc,da,t,zs,K1,K2,h1op,h1d,h1g,h1n,h2op,h2d,h2g,h2n,hCd,hCg,hCn,hC1,hC2,hz,hAop,hAd,hAg,hAn,hK⟩,hst⟩:=ZY hr
 have hND:=yt hoA
 have hlen:(l.take N).length=N:=by simp;omega
 have hlen4:(l.take (N+4)).length=N+4:=by simp;omega
 rw [hlen] at h1op
 simp only [hlen] at hK h2op
 have e1:∀ (sv':Nat→SV) k,(∀j,j<N→sv' j=sv j)→k≤N→xT (l.take (N+4)) sv' g k=xT (l.take N) sv g k:=fun sv' k hsv hk=>by
  rw [vp hk,vp (by omega)];exact uc fun j hj=>hsv j (by omega)
 have e2:∀ (sv':Nat→SV),(∀j,j<N→sv' j=sv j)→xT (l.take (N+4)) sv' g (N+1)=(d1,sv' N)::xT (l.take N) sv g N:=fun sv' hsv=>by
  rw [vQ (o:=o1) (by rw [xJ (by omega)];exact ho1),h1d,e1 sv' N hsv (Nat.le_refl _)];rfl
 have e3:∀ (sv':Nat→SV),(∀j,j<N→sv' j=sv j)→xT (l.take (N+4)) sv' g (N+2)=(d2,sv' (N+1))::(d1,sv' N)::xT (l.take N) sv g N:=fun sv' hsv=>by
  rw [vQ (o:=o2) (by rw [xJ (by omega)];exact ho2),h2d,e2 sv' hsv];rfl
 have e4:∀ (sv':Nat→SV),(∀j,j<N→sv' j=sv j)→xT (l.take (N+4)) sv' g (N+3)=(dc,sv' (N+2))::(d2,sv' (N+1))::(d1,sv' N)::xT (l.take N) sv g N:=fun sv' hsv=>by
  rw [vQ (o:=oC) (by rw [xJ (by omega)];exact hoC),hCd,e3 sv' hsv];rfl
 have e5:∀ (sv':Nat→SV),(∀j,j<N→sv' j=sv j)→xT (l.take (N+4)) sv' g (l.take (N+4)).length=(da,sv' (N+3))::(dc,sv' (N+2))::(d2,sv' (N+1))::(d1,sv' N)::xT (l.take N) sv g N:=fun sv' hsv=>by
  rw [hlen4,vQ (o:=oA) (by rw [xJ (by omega)];exact hoA),hAd,e4 sv' hsv];rfl
 have rd:∀ (x:Nat) (k:Nat) (ok:Oper),k<N+2→l[k]? =some ok→ok.dst=some x→Operand.tmp x∈oC.op.operands.toList→Reach l (N+2) k:=fun x k ok hk hok hx hm=>by
  rcases vA hrd hoC (t:=x) (uH hm) hok hx with h1 | ⟨_,h1⟩ | ⟨h1,_⟩
  ·omega
  ·exact h1
  ·omega
 have hCB1:Reach l (N+2) N:=rd d1 N o1 (by omega) ho1 h1d hC1
 have hCB2:Reach l (N+2) (N+1):=rd d2 (N+1) o2 (by omega) ho2 h2d hC2
 -- what is known of the later ones once both rows stand
 let Z (x1 x2 xc:SV) (H1 H2:HL):Prop:=OpOK P G h oC ((d2,x2)::(d1,x1)::xT (l.take N) sv g N) xc∧∀ b,Run P G E r (xA l) false (l.drop (N+4)) ⟨n,(da,eqS (.pointer (some ⟨b,0,none⟩)))::(dc,xc)::(d2,x2)::(d1,x1)::xT (l.take N) sv g N,⟨some b,t,zs.map eqS,0⟩::(H2++(H1++h)),d,i⟩ (fun S'=>Q .normal S')
 let rowP (L:Nat→Prop) (k:Nat) (KK:SV→HL→Prop) (v:SV) (p:HL):Prop:=(¬L k∧p=[])∨(L k∧KK v p)
 let ptrP:SV→HL→Prop:=fun v p=>∃ b,v=eqS (.pointer (some ⟨b,0,none⟩))∧p=[⟨some b,t,zs.map eqS,0⟩]
 have oth:∀ {L:Nat→Prop} {k m:Nat} {KK:SV→HL→Prop} {v:SV} {p:HL},m≠k→rowP L k KK v p→rowP (fun j=>j=m∨L j) k KK v p:=fun hmk hp=>hp.imp (fun h1=>⟨fun h2=>h2.elim (fun e=>hmk e.symm) h1.1,h1.2⟩) fun h1=>⟨.inr h1.1,h1.2⟩
 let R (L:Nat→Prop) (sv':Nat→SV) (hc:HL) (ic:Nat×Bool):Prop:=ic=i∧(∀j,j<N→sv' j=sv j)∧(L (N+2)→L N∧L (N+1))∧∃ pA p2 p1,hc=pA++(p2++(p1++h))∧rowP L N K1 (sv' N) p1∧rowP L (N+1) K2 (sv' (N+1)) p2∧rowP L (N+3) ptrP (sv' (N+3)) pA∧(L N→L (N+1)→Z (sv' N) (sv' (N+1)) (sv' (N+2)) p1 p2)
 refine zeG (S:=⟨n,g,h,d,i⟩) (R:=R) hed hnd hrd htail (by omega) sv (fun k o hk hkN=>?_) (fun L sv' hc ic hR hall=>?_) fun L hLe=>⟨rfl,fun _ _=>rfl,fun h=>absurd h (hLe _),[],[],[],rfl,.inl ⟨hLe _,rfl⟩,.inl ⟨hLe _,rfl⟩,.inl ⟨hLe _,rfl⟩,fun h=>absurd h (hLe _)⟩
 ·intro L sv' hc ic hR hn hpre hcl
  obtain⟨rfl,hsv,hLc,pA,p2,p1,rfl,q1,q2,qA,hZ⟩:=hR
  by_cases hk1:k=N
  ·subst hk1
   rw [ho1] at hk;cases hk
   refine⟨fun u hu=>by rw [h1d] at hu;cases hu;exact Nat.le_of_ble_eq_true h1n,.inr (.inl ⟨by simp [zH,h1g],pA++p2,[],h,K1,?_,by rw [e1 sv' k hsv (Nat.le_refl _)];exact h1op,fun s H' hq=>?_⟩)⟩
   ·rcases q1 with ⟨_,rfl⟩ | ⟨h1,_⟩
    ·simp
    ·exact absurd h1 hn
   ·obtain⟨rfl⟩:p1=[]:=q1.elim (·.2) fun h1=>absurd h1.1 hn
    have hnc:¬ L (k+2):=fun h1=>hn (hLc h1).1
    have fin:∀ sv2:Nat→SV,(∀j,j≠k+2→sv2 j=VE sv' k s j)→(L (k+1)→Z s (sv' (k+1)) (sv2 (k+2)) H' p2)→(∀j,(j=k∨L j)→sv2 j=VE sv' k s j)∧R (fun j=>j=k∨L j) sv2 (pA++p2++H'++h) ic:=fun sv2 hs2 hz2=>
     ⟨fun j hj=>hs2 j (fun e=>by subst e;rcases hj with hj | hj;omega;exact hnc hj),rfl,fun j hj=>by rw [hs2 j (by omega),xw (by omega)];exact hsv j hj,fun h1=>absurd h1 (fun h2=>h2.elim (fun e=>by omega) hnc),pA,p2,H',by simp,
      .inr ⟨.inl rfl,by rw [hs2 k (by omega),uf];exact hq⟩,by rw [hs2 (k+1) (by omega),xw (by omega)];exact oth (by omega) q2,by rw [hs2 (k+3) (by omega),xw (by omega)];exact oth (by omega) qA,fun _ h2=>by rw [hs2 k (by omega),uf,hs2 (k+1) (by omega),xw (by omega)];exact hz2 (h2.elim (fun e=>by omega) id)⟩
    by_cases hL2:L (k+1)
    ·obtain⟨sc,z1,z2⟩:=hK s H' (sv' (k+1)) p2 hq (q2.elim (fun h1=>absurd hL2 h1.1) (·.2))
     exact⟨VE (VE sv' k s) (k+2) sc,fin _ (fun j hj=>xw hj) fun _=>by rw [uf];exact⟨z1,z2⟩⟩
    ·exact⟨VE sv' k s,fin _ (fun j _=>rfl) fun h1=>absurd h1 hL2⟩
  ·by_cases hk2:k=N+1
   ·subst hk2
    rw [ho2] at hk;cases hk
    refine⟨fun u hu=>by rw [h2d] at hu;cases hu;exact Nat.le_of_ble_eq_true h2n,.inr (.inl ⟨by simp [zH,h2g],pA,[],p1++h,K2,?_,by rw [e2 sv' hsv];exact h2op _,fun s H' hq=>?_⟩)⟩
    ·rcases q2 with ⟨_,rfl⟩ | ⟨h1,_⟩
     ·simp
     ·exact absurd h1 hn
    ·obtain⟨rfl⟩:p2=[]:=q2.elim (·.2) fun h1=>absurd h1.1 hn
     have hnc:¬ L (N+2):=fun h1=>hn (hLc h1).2
     have fin:∀ sv2:Nat→SV,(∀j,j≠N+2→sv2 j=VE sv' (N+1) s j)→(L N→Z (sv' N) s (sv2 (N+2)) p1 H')→(∀j,(j=N+1∨L j)→sv2 j=VE sv' (N+1) s j)∧R (fun j=>j=N+1∨L j) sv2 (pA++H'++(p1++h)) ic:=fun sv2 hs2 hz2=>
      ⟨fun j hj=>hs2 j (fun e=>by subst e;rcases hj with hj | hj;omega;exact hnc hj),rfl,fun j hj=>by rw [hs2 j (by omega),xw (by omega)];exact hsv j hj,fun h1=>absurd h1 (fun h2=>h2.elim (fun e=>by omega) hnc),pA,H',p1,by simp,
       by rw [hs2 N (by omega),xw (by omega)];exact oth (by omega) q1,.inr ⟨.inl rfl,by rw [hs2 (N+1) (by omega),uf];exact hq⟩,by rw [hs2 (N+3) (by omega),xw (by omega)];exact oth (by omega) qA,fun h2 _=>by rw [hs2 N (by omega),xw (by omega),hs2 (N+1) (by omega),uf];exact hz2 (h2.elim (fun e=>by omega) id)⟩
     by_cases hL1:L N
     ·obtain⟨sc,z1,z2⟩:=hK (sv' N) p1 s H' (q1.elim (fun h1=>absurd hL1 h1.1) (·.2)) hq
      exact⟨VE (VE sv' (N+1) s) (N+2) sc,fin _ (fun j hj=>xw hj) fun _=>by rw [uf];exact⟨z1,z2⟩⟩
     ·exact⟨VE sv' (N+1) s,fin _ (fun j _=>rfl) fun h1=>absurd h1 hL1⟩
   ·by_cases hkC:k=N+2
    ·subst hkC
     rw [hoC] at hk;cases hk
     have hL1:L N:=hCB1.listed (L:=L) hcl fun o' ho'=>by rw [hoC] at ho';cases ho';exact hpre
     have hL2:L (N+1):=hCB2.listed (L:=L) hcl fun o' ho'=>by rw [hoC] at ho';cases ho';exact hpre
     have hz1:=hZ hL1 hL2
     refine⟨fun u hu=>by rw [hCd] at hu;cases hu;exact Nat.le_of_ble_eq_true hCn,.inl ⟨.inl ⟨by rw [e3 sv' hsv];exact HoldsH.sub_ok ((List.sublist_append_right _ _).trans ((List.sublist_append_right _ _).trans (List.sublist_append_right _ _))) hz1.1,by simp [zH,hCg]⟩,?_⟩⟩
     exact⟨rfl,hsv,fun _=>⟨.inr hL1,.inr hL2⟩,pA,p2,p1,rfl,oth (by omega) q1,oth (by omega) q2,oth (by omega) qA,fun _ _=>hz1⟩
    ·by_cases hkA:k=N+3
     ·subst hkA
      rw [hoA] at hk;cases hk
      refine⟨fun u hu=>by rw [hAd] at hu;cases hu;exact Nat.le_of_ble_eq_true hAn,.inr (.inl ⟨by simp [zH,hAg],[],[],p2++(p1++h),_,?_,WM hAop,fun s H' hq=>⟨VE sv' (N+3) s,fun _ _=>rfl,?_⟩⟩)⟩
      ·rcases qA with ⟨_,rfl⟩ | ⟨h1,_⟩
       ·simp
       ·exact absurd h1 hn
      ·exact⟨rfl,fun j hj=>by rw [xw (by omega)];exact hsv j hj,fun h1=>h1.elim (fun e=>by omega) fun h2=>⟨.inr (hLc h2).1,.inr (hLc h2).2⟩,H',p2,p1,by simp,by rw [xw (by omega)];exact oth (by omega) q1,by rw [xw (by omega)];exact oth (by omega) q2,.inr ⟨.inl rfl,by rw [uf];exact hq⟩,fun h1 h2=>by rw [xw (by omega),xw (by omega),xw (by omega)];exact hZ (h1.elim (fun e=>by omega) id) (h2.elim (fun e=>by omega) id)⟩
     ·have hkN2:k<N:=by omega
      obtain⟨g1,g2⟩:=hst k o (by rw [xJ hkN2];exact hk)
      refine⟨g1,.inl ⟨?_,rfl,hsv,fun h1=>h1.elim (fun e=>by omega) fun h2=>⟨.inr (hLc h2).1,.inr (hLc h2).2⟩,pA,p2,p1,rfl,oth (by omega) q1,oth (by omega) q2,oth (by omega) qA,fun h1 h2=>hZ (h1.elim (fun e=>by omega) id) (h2.elim (fun e=>by omega) id)⟩⟩
      rw [e1 sv' k hsv (by omega),hsv k hkN2]
      rcases g2 with ⟨⟨h1,h2⟩ | h1,h3⟩ | h1
      ·cases h2
      ·exact .inl ⟨HoldsH.sub_ok ((List.sublist_append_right _ _).trans ((List.sublist_append_right _ _).trans (List.sublist_append_right _ _))) h1,h3⟩
      ·exact .inr h1
 ·obtain⟨rfl,hsv,_,pA,p2,p1,rfl,q1,q2,qA,hZ⟩:=hR
  have hz1:=hZ (hall N (by omega)) (hall (N+1) (by omega))
  rcases qA with ⟨h1,_⟩ | ⟨_,b,hb,rfl⟩
  ·exact absurd (hall (N+3) (by omega)) h1
  ·simp only [e5 sv' hsv,hb]
   exact hz1.2 b
theorem zjB [Mixed P] (p:List Nat) (N:Nat) {id:Nat} {l:List Oper} {o1 o2 oC oA:Oper} {y:Code} {Q:Exit→St→Prop} {n:Nat} {g:List (Nat×SV)} {h:HL} {d:List Nat} {i:Nat×Bool} (hp:Qb p l=true) (hok:zcl (xy p l) N=true) (ho1:(xy p l)[N]? =some o1) (ho2:(xy p l)[N+1]? =some o2) (hoC:(xy p l)[N+2]? =some oC) (hoA:(xy p l)[N+3]? =some oA)
  (hr:RunE P G (xA (xy p l)) n h h (fun _=>false) 0 ((xy p l).take N) g (fun g'=>EffB P G E r (xA (xy p l)) n h d i o1 o2 oC oA ((xy p l).drop (N+4)) g' (fun S'=>T P G E r y S' Q))):T P G E r (.seq (.region id l.toArray true) y) ⟨n,g,h,d,i⟩ Q:=
 zh (zbq p hp (zlZ N hok ho1 ho2 hoC hoA hr)).T
def zgi (t:Nat) (o:Oper):Bool:=o.op.operands.toList.any fun x=>match x with
 | .tmp u=>Nat.beq u t
 | _=>false
theorem qM {t:Nat} {o:Oper} (h:zgi t o=true):Operand.tmp t∈o.op.operands.toList:=by
 obtain⟨x,hx,he⟩:=List.any_eq_true.1 h
 cases x with
 | tmp u=>rw [Nat.eq_of_beq_eq_true he] at hx;exact hx
 | const _=>cases he
 | global _=>cases he
 | func _=>cases he
theorem EffB.mk2 {gd:Nat→Option Nat} {n:Nat} {h:HL} {d:List Nat} {ix:Nat×Bool} {o1 o2 oC oA:Oper} {rest:List Oper} {K:St→Prop} {t1 e1 st1 by1 t2 e2 st2 by2 t d1 d2 dc da m1 m2:Nat} {z1 z2 zt:List Value} {x1 y1 x2 y2:Operand} {k1 j1 k2 j2:IntKind} [IsSl P t1 e1 st1] [IsElem P e1 z1 by1] [IsSl P t2 e2 st2] [IsElem P e2 z2 by2] [IsZero P t zt]
  (h1:o1.op= .makeSlice t1 x1 y1) (h2:xd g x1=some (intS k1 m1)) (h3:xd g y1=some (intS j1 m1)) (h4:by1*m1≤281474976710656) (h5:m1≤yP) (h6:o1.dst=some d1) (h7:o1.guard=none) (h8:Nat.blt d1 n=true)
  (i1:o2.op= .makeSlice t2 x2 y2) (i2:∀ s,xd ((d1,s)::g) x2=some (intS k2 m2)) (i3:∀ s,xd ((d1,s)::g) y2=some (intS j2 m2)) (i4:by2*m2≤281474976710656) (i5:m2≤yP) (i6:o2.dst=some d2) (i7:o2.guard=none) (i8:Nat.blt d2 n=true)
  (c1:oC.dst=some dc) (c2:oC.guard=none) (c3:Nat.blt dc n=true) (c4:zgi d1 oC=true) (c5:zgi d2 oC=true) (a1:oA.op= .alloc t) (a2:oA.dst=some da) (a3:oA.guard=none) (a4:Nat.blt da n=true)
  (hr:∀ b1 b2,yu (some (b1,m1)) m1→yu (some (b2,m2)) m2→∃ sc,OpOK P G h oC ((d2,eqS (rowV (some (b2,m2)) m2))::(d1,eqS (rowV (some (b1,m1)) m1))::g) sc∧∀ b,Run P G E r gd false rest ⟨n,(da,eqS (.pointer (some ⟨b,0,none⟩)))::(dc,sc)::(d2,eqS (rowV (some (b2,m2)) m2))::(d1,eqS (rowV (some (b1,m1)) m1))::g,
   ⟨some b,t,zt.map eqS,0⟩::rowE (some (b2,m2)) e2 st2 m2 ((yB z2 (m2*st2)).map eqS)::rowE (some (b1,m1)) e1 st1 m1 ((yB z1 (m1*st1)).map eqS)::h,d,ix⟩ K):EffB P G E r gd n h d ix o1 o2 oC oA rest g K:=
 ⟨⟨d1,d2,dc,da,t,zt,_,_,zeB h1 h2 h3 (Nat.le_refl _) h4 h5,h6,h7,h8,fun s=>zeB i1 (i2 s) (i3 s) (Nat.le_refl _) i4 i5,i6,i7,i8,c1,c2,c3,qM c4,qM c5,inferInstance,a1,a2,a3,a4,
  fun s1 H1 s2 H2 ⟨b1,q1,r1,r2⟩ ⟨b2,q2,r3,r4⟩=>by subst r1;subst r2;subst r3;subst r4;exact hr b1 b2 q1 q2⟩⟩
end
end Go.Sv
