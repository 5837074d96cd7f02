/- cover without pieces: all cells are free; joins: where walls and slabs begin. -/
import Derived.Test.YthhamejdmpjjlaaGreatDoorSpl
namespace Go.Proofs
open Go Go.Sv Num
variable {G:Imm}
def coX (l:List Ce):List (List SV):=l.map fun c=>[zl (XO c),intS .i64 ((0:Nat):Int)]
theorem zhv (l:List Ce):(coX l).length=l.length:=List.length_map _
theorem zpC {l:List Ce} {ss:List SV} (h:ss∈coX l):ss.length=2:=by
 obtain⟨x,_,rfl⟩:=List.mem_map.1 h;rfl
theorem znZ {l:List Ce} {i:Nat} {c:Ce} (h:l[i]? =some c):(coX l)[i]? =some [zl (XO c),intS .i64 ((0:Nat):Int)]:=by unfold coX;rw [List.getElem?_map,h];rfl
theorem zn0 {l:List Ce} {i:Nat} {ss:List SV} (h:(coX l)[i]? =some ss):i<l.length∧∃ c,ss=[zl (XO c),intS .i64 ((0:Nat):Int)]:=by
 unfold coX at h;rw [List.getElem?_map] at h
 cases hx:l[i]? with
 | none=>rw [hx] at h;simp at h
 | some x=>rw [hx] at h;exact⟨yt hx,x,(Option.some.inj h).symm⟩
abbrev boR (b:Bool):List SV:=[zm b]
theorem zl0 {k:Nat}:List.replicate (k+1) true=List.replicate k true++[true]:=List.replicate_succ'
abbrev inR (z:Int):List SV:=[intS .i64 z]
def UO (a:List Int×List Int) (c:Ce×Nat):List Int×List Int:=if c.1.1=0∧c.1.2.2.1=0 then (a.1.set c.1.2.1.toNat c.2,a.2) else if c.1.1=2∧c.1.2.2.1=0 then (a.1,a.2.set c.1.2.1.toNat c.2) else a
def Xb (l:List Ce):List Int×List Int:=l.zipIdx.foldl UO ([0,0],[0])
theorem zjC (l:List Ce) (c:Ce):Xb (l++[c])=UO (Xb l) (c,l.length):=by
 unfold Xb;rw [List.zipIdx_append,List.foldl_append];simp
theorem zl1 {a:List Int×List Int} {c:Ce×Nat} (h:a.1.length=2∧a.2.length=1):(UO a c).1.length=2∧(UO a c).2.length=1:=by
 unfold UO;split
 ·exact⟨by rw [List.length_set];exact h.1,h.2⟩
 ·split
  ·exact⟨h.1,by rw [List.length_set];exact h.2⟩
  ·exact h
theorem zl2 (l:List Ce):(Xb l).1.length=2∧(Xb l).2.length=1:=by
 have:∀ (m:List (Ce×Nat)) (a:List Int×List Int),a.1.length=2∧a.2.length=1→(m.foldl UO a).1.length=2∧(m.foldl UO a).2.length=1:=by
  intro m
  induction m with
  | nil=>exact fun _ h=>h
  | cons c m ih=>exact fun a h=>ih _ (zl1 h)
 exact this _ _ ⟨rfl,rfl⟩
theorem zpD:∀ c∈xv,0≤c.2.1∧(c.1=0→c.2.1<2)∧(c.1=2→c.2.1<1):=by decide
theorem zn1:Xb xv=([0,6],[3]):=by decide
abbrev fsC (w v:SV):List SV:=mdC (zU 9 XO xv)++[w,v]
theorem zl3 {l:List Int} {i:Nat} {z:Int} (h:i<l.length):xM (l.flatMap inR) (i*1) [intS .i64 z]=(l.set i z).flatMap inR:=qF (f:=inR) (st:=1) (fun _=>rfl) z h
theorem zgk (l:List Int):(l.flatMap inR).length=l.length:=by rw [vu (st:=1) (fun _=>rfl),Nat.mul_one]
theorem zpE {p:V2}:zp Tryz.prog G 356 [xC,zl (yy p)] xC:=by
 refine zs Tryz.func356 ?_;refine zr ?_;(iterate 2 refine zz ?_);refine zJ ?_;refine zh ?_;refine zg ?_;refine zo (vk rfl rfl) ?_;refine zg ?_;refine wR ?_;refine zr ?_;refine zz ?_;refine zJ ?_;refine zh ?_;refine zd (fun h10 k10=>?_) fun _ k10=>?_
 ·exact (by simp at h10)
 ·refine zI ?_;refine zg ?_
  exact zj zt
theorem by0 {c:Ce}:zp Tryz.prog G 291 [xC,zl (XO c)] xC:=by
 refine zs Tryz.func291 ?_;refine zg ?_;refine zf zpE ?_;refine zg ?_
 exact zj zt
theorem zl4 {l:List Ce}:IterSpec Tryz.prog G 290 [zT [zU 9 XO l],zT [xC]] (coX l):=by
 refine xH Tryz.func290 rfl rfl rfl rfl fun l1 E hy=>?_;refine zr ?_;refine zz ?_;(iterate 2 refine zz ?_);refine zJ ?_;refine zQ ?_;refine wT 6 rfl fun la=>?_
 unfold yP at la
 refine yK (γ:=Nat) (fun g=>⟨_,[(8,intS .i64 (g:Nat)),(7,intS .i64 l.length),(6,zU 9 XO l),(0,yieldS l1),(1,zT [zU 9 XO l]),(2,zT [xC])],[],[],(g,false)⟩) (fun g=>g≤l.length) (fun g=>l.length-g) 0 (Nat.zero_le _) (yo zk) ?_
 intro g hg
 refine zr ?_;refine zz ?_;refine zJ ?_;refine zh ?_;refine zd (fun _ k9=>?_) fun _ k9=>?_
 ·obtain⟨c,hc⟩:∃ c,l[g]? =some c:=⟨_,List.getElem?_eq_getElem (by omega)⟩
  refine zE ?_;refine zh ?_;refine zg ?_;refine zo (zi rfl rfl rfl (by omega) (y:=c) (hc)) ?_;refine zz ?_;refine xg fun b5=>?_;refine zg ?_;refine zS 6 (by kernel_rfl) ?_;refine zg ?_;refine zf by0 ?_;refine zo (vk rfl rfl) ?_;refine zJ ?_;refine Run.yield rfl hy rfl rfl rfl (znZ hc) (xi _) rfl rfl rfl fun y1=>?_;refine zg ?_;refine wE (fun h19=>?_) fun h19=>?_
  ·refine zj ?_
   exact⟨.inl rfl,.inr h19⟩
  ·obtain rfl:y1=true:=by simpa using h19
   refine zE ?_;refine zP (zY (List.nil_sublist _)) ?_;refine zO ?_;refine za ((g+1:Nat):Int) ?_;refine zg ?_
   exact⟨g+1,(by omega:g+1≤l.length),by omega,yo zk⟩
 ·refine zI ?_
  exact⟨.inr rfl,.inl (by rw [zhv,show g=l.length by omega])⟩
theorem zl5 {l:List Ce}:zp Tryz.prog G 218 [xC,zU 9 XO l] (wp 290 [zT [zU 9 XO l],zT [xC]]):=by
 refine zs Tryz.func218 ?_;refine zg ?_
 exact zj zt
theorem zqI {l:List Ce} (hl:l.length≤1000000):zp Tryz.prog G 160 [xC,zU 9 XO l] (zU 1 boR (List.replicate l.length true)):=by
 refine zs Tryz.func160 ?_;refine zr ?_;refine xg fun b4=>?_;refine zJ ?_;refine zh ?_;refine zP (yL 4 1) ?_;refine zg ?_;refine zf zl5 ?_;refine zg ?_
 refine ul rfl rfl (zl4 (l:=l)) (fun ss h=>zpC h) (by decide) rfl
  (fun k h i=>i=(0,false)∧k≤l.length∧∃ q,yu q k∧h=[rowE q 4 1 k ((List.replicate k true).flatMap boR),⟨some b4,172,[eqS (rowV q k)],0⟩])
  (fun _ _ _=>False) ⟨rfl,Nat.zero_le _,none,rfl,rfl⟩ ?_ ?_ ?_
 ·rintro l1 k' ss h i hk' ⟨rfl,hkl,q,hq,rfl⟩
  obtain⟨hlt,c,rfl⟩:=zn0 hk'
  refine zO ?_;refine zz ?_;refine zJ ?_
  refine⟨rfl,?_⟩
  refine zQ ?_;refine zO ?_;(iterate 2 refine zz ?_);refine zo ((zZ rfl rfl rfl rfl).sub (yx (c:=true) rfl)) ?_;refine zo (zB rfl rfl (by decide) rfl (by simp) rfl rfl) ?_;refine Run.append 0 rfl rfl rfl rfl rfl rfl rfl rfl hq (by rw [vu (st:=1) (fun _=>rfl),List.length_replicate]) (fun z hz=>by rw [List.mem_singleton.1 hz];rfl) (by unfold yP;simp;omega) (by unfold yP;simp;omega) fun q16 hq16=>?_;refine zw ?_;refine zJ ?_
  refine⟨rfl,by omega,q16,hq16,?_⟩
  rw [zl0,List.flatMap_append];rfl
 ·rintro h i D ⟨rfl,_,q,hq,rfl⟩
  rw [zhv] at hq ⊢
  refine zP (uZ [] [] [] hq (l:=List.replicate l.length true) (f:=boR) (List.length_replicate ..) rfl (fun _ _=>rfl) (by unfold yP;omega)) ?_;refine zg ?_
  exact zj zt
 ·intro h i D e c hc hInv;exact hInv.elim
theorem zrq:zp Tryz.prog G 220 [zl (mdC (zU 9 XO xv))] (zl (fsC (zU 1 inR [0,6]) (zU 1 inR [3]))):=by
 refine zs Tryz.func220 ?_;refine zg ?_;refine xg fun b2=>?_;refine zJ ?_;refine zjB [0,1,2,3,5,6,7,4,8,9,10,11] 7 (by kernel_rfl) (by kernel_rfl) rfl rfl rfl rfl ?_;refine RunE.lat (show OpOK _ _ _ _ _ (zl (mdC (zU 9 XO xv))) from zF rfl rfl rfl rfl) rfl rfl rfl ?_;refine RunE.lat (zX rfl rfl rfl) rfl rfl rfl ?_;refine RunE.lat (show OpOK _ _ _ _ _ (zU 1 qR XN) from yN rfl rfl) rfl rfl rfl ?_;refine RunE.lat ((xh rfl rfl).sub (zD (n:=((2:Nat):Int)) rfl)) rfl rfl rfl ?_;refine RunE.lat (zX rfl rfl rfl) rfl rfl rfl ?_;refine RunE.lat (show OpOK _ _ _ _ _ (zU 1 lvR [ui]) from yN rfl rfl) rfl rfl rfl ?_;refine RunE.lat ((xh rfl rfl).sub (zD (n:=((1:Nat):Int)) rfl)) rfl rfl rfl ?_;refine RunE.nil ?_
 refine EffB.mk2 rfl rfl rfl (by decide) (by decide) rfl rfl rfl rfl (fun _=>rfl) (fun _=>rfl) (by decide) (by decide) rfl rfl rfl rfl rfl rfl rfl rfl rfl rfl rfl rfl fun b10 b14 hb10 hb14=>⟨zl (fsC (eqS (rowV (some (b10,2)) 2)) (eqS (rowV (some (b14,1)) 1))),yW rfl rfl (by kernel_rfl),fun b3=>?_⟩
 refine Run.store 0 rfl rfl rfl rfl rfl rfl (by kernel_rfl) rfl rfl ?_;refine zJ ?_;refine zh ?_;refine zr ?_;refine zz ?_;refine zz ?_;refine zo ((xh rfl rfl).sub (zD (n:=((9:Nat):Int)) rfl)) ?_;refine zg ?_;refine yK (γ:=Nat) (fun n=>⟨_,[(19,intS .i64 (n:Nat)),(18,intS .i64 ((9:Nat):Int)),(17,zU 9 XO xv),(3,eqS (.pointer (some ⟨b3,0,none⟩))),(2,eqS (.pointer (some ⟨b2,0,none⟩)))],[⟨some b3,291,fsC (eqS (rowV (some (b10,2)) 2)) (eqS (rowV (some (b14,1)) 1)),0⟩,rowE (some (b14,1)) 3 1 1 ((Xb (xv.take n)).2.flatMap inR),rowE (some (b10,2)) 3 1 2 ((Xb (xv.take n)).1.flatMap inR),⟨some b2,291,(((List.replicate 4 [Value.bool false,.slice none 0 0,.slice none 0 0]).flatten++List.replicate 6 (Value.slice none 0 0)).map eqS),0⟩],[],(0,false)⟩) (fun n=>n≤9) (fun n=>9-n) 0 (Nat.zero_le _) (zL zk rfl) ?_
 intro n hn
 refine zr ?_;refine zz ?_;refine zJ ?_;refine zh ?_;refine zd (fun _ k20=>?_) fun _ k20=>?_
 ·obtain⟨c,hc⟩:∃ c,xv[n]? =some c:=⟨_,List.getElem?_eq_getElem (show n<9 by omega)⟩
  obtain⟨hc0,hc1,hc2⟩:=zpD c (List.mem_of_getElem? hc)
  have hms:=wo hc
  have hln:(xv.take n).length=n:=by rw [List.length_take,show xv.length=9 from rfl];omega
  have hl:=zl2 (xv.take n)
  have hst:Xb (xv.take (n+1))=UO (Xb (xv.take n)) (c,n):=by rw [hms,zjC,hln]
  refine zE ?_;refine zh ?_;refine zg ?_;refine zo (zi rfl rfl rfl (by omega) (y:=c) (hc)) ?_;refine zz ?_;refine xg fun b5=>?_;refine zz ?_;refine zw ?_;refine zJ ?_;refine zQ ?_;refine zr ?_;refine zz ?_;refine zz ?_
  refine Run.oneB (zZ rfl rfl rfl rfl) rfl rfl rfl (fun h5_2=>?_) (fun h5_2=>?_)
  ·have k5_2:=beq_iff_eq.1 h5_2
   refine zg ?_;refine zd (fun _ k24=>?_) fun _ k24=>?_
   ·have hlt:=hc1 k5_2
    refine zg ?_;refine zo ((yG c.2.1.toNat rfl rfl rfl (by omega) (by omega))) ?_;refine Run.store 3 rfl rfl rfl rfl rfl rfl (by rw [Nat.ble_eq,zgk,hl.1];simp;omega) rfl rfl ?_;refine zJ ?_;refine zP (zY (List.sublist_cons_self _ _)) ?_;refine zO ?_;refine za ((n+1:Nat):Int) ?_;refine zg ?_
    exact⟨n+1,(by omega:n+1≤9),by omega,zL (zb rfl (zb rfl (zb rfl (zb rfl (zb rfl (trivial)))))) (by rw [hst,show UO (Xb (xv.take n)) (c,n)=_ from if_pos ⟨k5_2,k24⟩,←zl3 (by show c.2.1.toNat<_;rw [hl.1];omega)];rfl)⟩
   ·refine zr ?_;refine zz ?_;refine zz ?_
    refine Run.oneB (zZ rfl rfl rfl rfl) rfl rfl rfl (fun h7_2=>?_) (fun h7_2=>?_)
    ·have k7_2:=beq_iff_eq.1 h7_2
     refine zg ?_;refine zd (fun _ k39=>?_) fun _ k39=>?_
     ·have hlt:=hc2 k7_2
      refine zg ?_;refine zo ((yG c.2.1.toNat rfl rfl rfl (by omega) (by omega))) ?_;refine Run.store 2 rfl rfl rfl rfl rfl rfl (by rw [Nat.ble_eq,zgk,hl.2];simp;omega) rfl rfl ?_;refine zJ ?_;refine zP (zY (List.sublist_cons_self _ _)) ?_;refine zO ?_;refine za ((n+1:Nat):Int) ?_;refine zg ?_
      exact⟨n+1,(by omega:n+1≤9),by omega,zL (zb rfl (zb rfl (zb rfl (zb rfl (zb rfl (trivial)))))) (by exact absurd k39 k24)⟩
     ·refine zE ?_;refine zP (zY (List.sublist_cons_self _ _)) ?_;refine zO ?_;refine za ((n+1:Nat):Int) ?_;refine zg ?_
      exact⟨n+1,(by omega:n+1≤9),by omega,zL (zb rfl (zb rfl (zb rfl (zb rfl (zb rfl (trivial)))))) (by rw [hst,show UO (Xb (xv.take n)) (c,n)=Xb (xv.take n) from (if_neg (fun h=>k24 h.2)).trans (if_neg (fun h=>k24 h.2))];rfl)⟩
    ·have k7_2:=beq_eq_false_iff_ne.1 h7_2
     refine zg ?_;refine yM rfl rfl ?_;refine zE ?_;refine zP (zY (List.sublist_cons_self _ _)) ?_;refine zO ?_;refine za ((n+1:Nat):Int) ?_;refine zg ?_
     exact⟨n+1,(by omega:n+1≤9),by omega,zL (zb rfl (zb rfl (zb rfl (zb rfl (zb rfl (trivial)))))) (by rw [hst,show UO (Xb (xv.take n)) (c,n)=Xb (xv.take n) from (if_neg (fun h=>k24 h.2)).trans (if_neg (fun h=>k24 h.2))];rfl)⟩
  ·have k5_2:=beq_eq_false_iff_ne.1 h5_2
   refine zg ?_;refine yM rfl rfl ?_;refine zr ?_;refine zz ?_;refine zz ?_
   refine Run.oneB (zZ rfl rfl rfl rfl) rfl rfl rfl (fun h7_2=>?_) (fun h7_2=>?_)
   ·have k7_2:=beq_iff_eq.1 h7_2
    refine zg ?_;refine zd (fun _ k39=>?_) fun _ k39=>?_
    ·have hlt:=hc2 k7_2
     refine zg ?_;refine zo ((yG c.2.1.toNat rfl rfl rfl (by omega) (by omega))) ?_;refine Run.store 2 rfl rfl rfl rfl rfl rfl (by rw [Nat.ble_eq,zgk,hl.2];simp;omega) rfl rfl ?_;refine zJ ?_;refine zP (zY (List.sublist_cons_self _ _)) ?_;refine zO ?_;refine za ((n+1:Nat):Int) ?_;refine zg ?_
     exact⟨n+1,(by omega:n+1≤9),by omega,zL (zb rfl (zb rfl (zb rfl (zb rfl (zb rfl (trivial)))))) (by rw [hst,show UO (Xb (xv.take n)) (c,n)=_ from (if_neg (fun h=>k5_2 h.1)).trans (if_pos ⟨k7_2,k39⟩),←zl3 (by show c.2.1.toNat<_;rw [hl.2];omega)];rfl)⟩
    ·refine zE ?_;refine zP (zY (List.sublist_cons_self _ _)) ?_;refine zO ?_;refine za ((n+1:Nat):Int) ?_;refine zg ?_
     exact⟨n+1,(by omega:n+1≤9),by omega,zL (zb rfl (zb rfl (zb rfl (zb rfl (zb rfl (trivial)))))) (by rw [hst,show UO (Xb (xv.take n)) (c,n)=Xb (xv.take n) from (if_neg (fun h=>k5_2 h.1)).trans (if_neg (fun h=>k39 h.2))];rfl)⟩
   ·have k7_2:=beq_eq_false_iff_ne.1 h7_2
    refine zg ?_;refine yM rfl rfl ?_;refine zE ?_;refine zP (zY (List.sublist_cons_self _ _)) ?_;refine zO ?_;refine za ((n+1:Nat):Int) ?_;refine zg ?_
    exact⟨n+1,(by omega:n+1≤9),by omega,zL (zb rfl (zb rfl (zb rfl (zb rfl (zb rfl (trivial)))))) (by rw [hst,show UO (Xb (xv.take n)) (c,n)=Xb (xv.take n) from (if_neg (fun h=>k5_2 h.1)).trans (if_neg (fun h=>k7_2 h.1))];rfl)⟩
 ·obtain rfl:n=9:=by omega
  rw [show xv.take 9=xv from rfl,zn1]
  refine zI ?_;refine zP (Zd (h':=[rowE (some (b14,1)) 3 1 1 ([3].flatMap inR),rowE (some (b10,2)) 3 1 2 ([0,6].flatMap inR),⟨some b3,291,fsC (eqS (rowV (some (b10,2)) 2)) (eqS (rowV (some (b14,1)) 1)),0⟩,⟨some b2,291,(((List.replicate 4 [Value.bool false,.slice none 0 0,.slice none 0 0]).flatten++List.replicate 6 (Value.slice none 0 0)).map eqS),0⟩]) ((List.Perm.swap _ _ _).trans ((List.Perm.swap _ _ _).cons _))) ?_;refine zP (wN (mdC (zU 9 XO xv)++[eqS (rowV (some (b10,2)) 2)]) [] [] [_] [_] hb14 (l:=[3]) (f:=inR) rfl rfl (fun _ _=>rfl) (by decide)) ?_;refine zP (wN (mdC (zU 9 XO xv)) [zU 1 inR [3]] [] [] [_] hb10 (l:=[0,6]) (f:=inR) rfl rfl (fun _ _=>rfl) (by decide)) ?_;refine zg ?_
  exact zj zt
end Go.Proofs
namespace Go.Proofs
open Go Go.Sv Num
variable {G:Imm}
abbrev Jp:=Int×Int
def jnX (l:List Jp):List (List SV):=l.map fun p=>[intS .i64 p.1,intS .i64 p.2]
theorem zhw (l:List Jp):(jnX l).length=l.length:=List.length_map _
theorem zl7 {l:List Jp} {ss:List SV} (h:ss∈jnX l):ss.length=2:=by
 obtain⟨x,_,rfl⟩:=List.mem_map.1 h;rfl
theorem Vi {l:List Jp} {i:Nat} {p:Jp} (h:l[i]? =some p):(jnX l)[i]? =some [intS .i64 p.1,intS .i64 p.2]:=by unfold jnX;rw [List.getElem?_map,h];rfl
theorem zhx {l:List Jp} {i:Nat} {ss:List SV} (h:(jnX l)[i]? =some ss):∃ p,l[i]? =some p∧ss=[intS .i64 p.1,intS .i64 p.2]:=by
 unfold jnX at h;rw [List.getElem?_map] at h
 cases hx:l[i]? with
 | none=>rw [hx] at h;simp at h
 | some x=>rw [hx] at h;exact⟨x,rfl,(Option.some.inj h).symm⟩
def alF (a:Int):List Jp:=[(a,a+1),(a+1,a+1+1)]
def acF (a:Int):List Jp:=[(a,3),(a,4),(a+1,4),(a+2,4),(a+2,5)]
def WH:List Jp:=alF 0++(alF 6++(alF 3++(acF 0++acF 6)))
abbrev wlS:SV:=zU 1 inR [0,6]
abbrev sbS:SV:=zU 1 inR [3]
def ax (k r:Nat):Nat:=if k=0 then (if r=0 then 0 else 3) else (if r=0 then 3 else 4)
def ay (k:Nat):Nat:=if k=0 then 0 else if k=1 then 3 else 5
theorem zl8 {r k:Nat} {e h:Rat} (he:xu[r]? =some e) (hh:xu[k]? =some h):ue e h=(r:Int)-k:=by
 have hr:r<2:=yt he
 have hk:k<2:=yt hh
 rcases (show r=0∨r=1 by omega) with rfl | rfl <;> rcases (show k=0∨k=1 by omega) with rfl | rfl <;> (cases he;cases hh;decide +kernel)
theorem zl9 {a:Int} (h0:0≤a) (h1:a≤100):IterSpec Tryz.prog G 357 [zT [intS .i64 2],zT [intS .i64 a]] (jnX (alF a)):=by
 refine xH Tryz.func357 rfl rfl rfl rfl fun l E hy=>?_;refine zg ?_;refine zo (yA (z:=4) rfl rfl rfl (congrArg some (by omega)) (wrap_i64 (by omega) (by omega))) ?_;refine zo (yA (z:=2) rfl rfl rfl (congrArg some (by omega)) (wrap_i64 (by omega) (by omega))) ?_;refine zo ((YC rfl rfl rfl).sub (zD (n:=((2:Nat):Int)) (by decide))) ?_;refine zg ?_;refine yK (γ:=Nat) (fun g=>⟨_,[(9,intS .i64 (g:Nat)),(8,intS .i64 ((2:Nat):Int)),(0,yieldS l),(1,zT [intS .i64 2]),(2,zT [intS .i64 a])],[],[],(g,false)⟩) (fun g=>g≤2) (fun g=>2-g) 0 (Nat.zero_le _) (yo zk) ?_
 intro g hg
 refine zr ?_;refine zz ?_;refine zJ ?_;refine zh ?_;refine zd (fun _ k10=>?_) fun _ k10=>?_
 ·have hg1:(alF a)[g]? =some (a+g,a+g+1):=by
   rcases (show g=0∨g=1 by omega) with rfl | rfl
   ·simp [alF]
   ·rfl
  refine zE ?_;refine zh ?_;refine zg ?_;refine zo (yA (z:=a+g) rfl rfl rfl (congrArg some (by omega)) (wrap_i64 (by omega) (by omega))) ?_;refine zg ?_;refine zo (yA (z:=a+g) rfl rfl rfl (congrArg some (by omega)) (wrap_i64 (by omega) (by omega))) ?_;refine zo (yA (z:=a+g+1) rfl rfl rfl (congrArg some (by omega)) (wrap_i64 (by omega) (by omega))) ?_;refine Run.yield rfl hy rfl rfl rfl (Vi hg1) (xi _) rfl rfl rfl fun y1=>?_;refine zg ?_;refine wE (fun h21=>?_) fun h21=>?_
  ·refine zj ?_
   exact⟨.inl rfl,.inr h21⟩
  ·obtain rfl:y1=true:=by simpa using h21
   refine zg ?_;refine za ((g+1:Nat):Int) ?_;refine zg ?_
   exact⟨g+1,(by omega:g+1≤2),by omega,yo zk⟩
 ·refine zI ?_
  exact⟨.inr rfl,.inl (by rw [show g=2 by omega];rfl)⟩
theorem zma {a m:Int}:zp Tryz.prog G 294 [intS .i64 a,intS .i64 m] (wp 357 [zT [intS .i64 m],zT [intS .i64 a]]):=by
 refine zs Tryz.func294 ?_;refine zg ?_
 exact zj zt
theorem zoC {b:Bool}:zp Tryz.prog G 296 [zU 6 Zq ui,zm b] (zU 3 zR xu):=by
 refine zs Tryz.func296 ?_;refine zr ?_;refine zz ?_;refine zJ ?_;refine zh ?_;refine zP (yL 39 3) ?_;refine zr ?_;refine zz ?_;refine zo ((xh rfl rfl).sub (zD (n:=((2:Nat):Int)) rfl)) ?_;refine zg ?_;refine yX (fun (m:Nat) (q:Option (Nat×Nat))=>⟨_,[(9,intS .i64 (m:Nat)),(8,intS .i64 ((2:Nat):Int)),(7,zU 6 Zq ui),(4,eqS (rowV q m)),(1,zm b)],[rowE q 39 3 m ((xu.take m).flatMap zR)],[],(0,false)⟩) (fun m q=>m≤2∧yu q m) (fun m _=>2-m) 0 none ⟨Nat.zero_le _,rfl⟩ (zL zk rfl) ?_
 rintro m q ⟨hm,hq⟩
 refine zr ?_;refine zz ?_;refine zJ ?_;refine zh ?_;refine zd (fun _ k10=>?_) fun _ k10=>?_
 ·obtain⟨v,hv⟩:∃ v,ui[m]? =some v:=⟨_,List.getElem?_eq_getElem (show m<2 by omega)⟩
  have hms1:xu.take (m+1)=xu.take m++[v.1]:=by
   rcases (show m=0∨m=1 by omega) with rfl | rfl <;> (cases hv;rfl)
  have hms2:xu.take (m+1)=xu.take m++[v.2]:=by
   rcases (show m=0∨m=1 by omega) with rfl | rfl <;> (cases hv;rfl)
  have hel:(xu.take m).length=m:=by rw [List.length_take,show xu.length=2 from rfl];omega
  refine zE ?_;refine zh ?_;refine zg ?_;refine zo (zi rfl rfl rfl (by omega) (y:=v) (hv)) ?_;refine zz ?_;refine xg fun b6=>?_;refine zw ?_;refine zJ ?_;refine zh ?_;refine zg ?_;refine wE (fun h13=>?_) fun h13=>?_
  ·refine zg ?_;refine zo (zB rfl rfl (by decide) rfl (by simp) rfl rfl) ?_;refine Run.append 1 rfl rfl rfl rfl rfl rfl rfl rfl hq (by rw [vu (st:=3) (fun _=>rfl),hel]) (fun z hz=>by rw [List.mem_singleton.1 hz];rfl) (by unfold yP;simp;omega) (by unfold yP;simp;omega) fun q18 hq18=>?_;refine zg ?_;refine zI ?_;refine zP (zY (List.sublist_cons_self _ _)) ?_;refine zO ?_;refine za ((m+1:Nat):Int) ?_;refine zg ?_
   exact⟨m+1,q18,⟨by omega,hq18⟩,by omega,zL (zb rfl (zb rfl (zb rfl (zb rfl (zb rfl (trivial)))))) (by rw [hms2,List.flatMap_append];rfl)⟩
  ·refine zg ?_;refine zo (zB rfl rfl (by decide) rfl (by simp) rfl rfl) ?_;refine Run.append 1 rfl rfl rfl rfl rfl rfl rfl rfl hq (by rw [vu (st:=3) (fun _=>rfl),hel]) (fun z hz=>by rw [List.mem_singleton.1 hz];rfl) (by unfold yP;simp;omega) (by unfold yP;simp;omega) fun q23 hq23=>?_;refine zz ?_;refine zJ ?_;refine zP (zY (List.sublist_cons_self _ _)) ?_;refine zO ?_;refine za ((m+1:Nat):Int) ?_;refine zg ?_
   exact⟨m+1,q23,⟨by omega,hq23⟩,by omega,zL (zb rfl (zb rfl (zb rfl (zb rfl (zb rfl (trivial)))))) (by rw [hms1,List.flatMap_append];rfl)⟩
 ·obtain rfl:m=2:=by omega
  refine zI ?_;refine zP (yU 0 4 rfl rfl hq (l:=xu) (f:=zR) rfl rfl (fun _ _=>rfl) (by decide)) ?_;refine zg ?_
  exact zj zt
theorem zhy [Tab G] {wl:Nat} {wb:Int} (hW:XN[wl]? =some xu) (hwb:[0,6][wl]? =some wb) (h0:0≤wb) (h1:wb≤100):IterSpec Tryz.prog G 358 [zT (fsC wlS sbS),zT [intS .i64 (wl:Nat)],zT [zU 3 zR xu],zT [intS .i64 0]] (jnX (acF wb)):=by
 refine xH Tryz.func358 rfl rfl rfl rfl fun l E hy=>?_;refine ut ?_;refine zg ?_;refine zo (zi rfl rfl rfl (by omega) (y:=xu) (hW)) ?_;refine zz ?_;refine zz ?_;refine zJ ?_;refine zh ?_;refine us ?_;refine zr ?_;refine zz ?_;refine zo ((xh rfl rfl).sub (zD (n:=((2:Nat):Int)) rfl)) ?_;refine zg ?_;refine yK (γ:=Nat) (fun k=>⟨_,[(22,intS .i64 (k:Nat)),(21,intS .i64 ((2:Nat):Int)),(20,zU 3 zR xu),(6,zU 3 zR xu),(0,yieldS l),(1,zT (fsC wlS sbS)),(2,zT [intS .i64 (wl:Nat)]),(3,zT [zU 3 zR xu]),(4,zT [intS .i64 0])],[],[],(ay k,false)⟩) (fun k=>k≤2) (fun k=>2-k) 0 (Nat.zero_le _) (yo zk) ?_
 intro k hk
 refine zr ?_;refine zz ?_;refine zJ ?_;refine zh ?_;refine zd (fun _ k23=>?_) fun _ k23=>?_
 ·obtain⟨hh,hx⟩:∃ h,xu[k]? =some h:=⟨_,List.getElem?_eq_getElem (show k<2 by omega)⟩
  have hbh:Bq hh 1:=Vh hh (List.mem_of_getElem? hx)
  refine zE ?_;refine zh ?_;refine zg ?_;refine zo (zi rfl rfl rfl (by omega) (y:=hh) (hx)) ?_;refine zz ?_;refine xg fun b8=>?_;refine zz ?_;refine zw ?_;refine zx ?_;refine zz ?_;refine zo ((xh rfl rfl).sub (zD (n:=((2:Nat):Int)) rfl)) ?_;refine zg ?_
  refine yK (γ:=Nat) (fun r=>⟨_,[(29,intS .i64 (r:Nat)),(28,intS .i64 ((2:Nat):Int)),(27,zU 3 zR xu),(8,eqS (.pointer (some ⟨b8,0,none⟩))),(7,intS .i64 (k:Nat)),(22,intS .i64 (k:Nat)),(21,intS .i64 ((2:Nat):Int)),(20,zU 3 zR xu),(6,zU 3 zR xu),(0,yieldS l),(1,zT (fsC wlS sbS)),(2,zT [intS .i64 (wl:Nat)]),(3,zT [zU 3 zR xu]),(4,zT [intS .i64 0])],[⟨some b8,39,zR hh,0⟩],[],(ax k r,false)⟩) (fun r=>r≤1) (fun r=>1-r) 0 (Nat.zero_le _) (by rcases (show k=0∨k=1 by omega) with rfl | rfl <;> exact zL (zb rfl (zb rfl (zb rfl (zb rfl (zb rfl (zb rfl (zb rfl (zb rfl (zb rfl (zb rfl (zb rfl (zb rfl (zb rfl (zb rfl (trivial))))))))))))))) rfl) ?_
  intro r hr
  refine zr ?_;refine zz ?_;refine zJ ?_;refine zh ?_;refine zd (fun _ k30=>?_) fun h30 k30=>?_
  ·obtain⟨e,he⟩:∃ e,xu[r]? =some e:=⟨_,List.getElem?_eq_getElem (show r<2 by omega)⟩
   have hbe:Bq e 1:=Vh e (List.mem_of_getElem? he)
   refine zE ?_;refine zh ?_;refine zg ?_;refine zo (zi rfl rfl rfl (by omega) (y:=e) (he)) ?_;refine zz ?_;refine xg fun b10=>?_;refine zg ?_;refine zo (zi rfl rfl rfl (by omega) (y:=3) (rfl)) ?_;refine zg ?_;refine zo (yA (z:=2*(r:Int)) rfl rfl rfl (congrArg some (by omega)) (wrap_i64 (by omega) (by omega))) ?_;refine zo (yA (z:=3+2*(r:Int)) rfl rfl rfl (congrArg some (by omega)) (wrap_i64 (by omega) (by omega))) ?_;refine zg ?_;refine zo ((ze rfl rfl (wt (p:=e) (q:=hh) (by decide))).sub (zD (n:=(r:Int)-k) (zl8 he hx))) ?_;refine zz ?_;refine zJ ?_;refine zh ?_;refine zr ?_;refine zz ?_
   refine Run.oneB (zZ rfl rfl rfl rfl) rfl rfl rfl (fun h9_1=>?_) (fun h9_1=>?_)
   ·have k9_1:=beq_iff_eq.1 h9_1
    obtain rfl:r=k:=by omega
    have hk1:(acF wb)[ax r r]? =some (wb+2*(r:Int),3+2*(r:Int)):=by
     rcases (show r=0∨r=1 by omega) with rfl | rfl
     ·simp [acF,ax]
     ·rfl
    refine zg ?_;refine zo (zi rfl rfl rfl (by omega) (y:=wb) (hwb)) ?_;refine zg ?_;refine zo (yA (z:=2*(r:Int)) rfl rfl rfl (congrArg some (by omega)) (wrap_i64 (by omega) (by omega))) ?_;refine zo (yA (z:=wb+2*(r:Int)) rfl rfl rfl (congrArg some (by omega)) (wrap_i64 (by omega) (by omega))) ?_;refine zz ?_;refine Run.yield rfl hy rfl rfl rfl (Vi hk1) (xi _) (gB rfl rfl rfl rfl) rfl rfl fun y1=>?_;refine zg ?_;refine wE (fun h60=>?_) fun h60=>?_
    ·refine zj ?_
     exact⟨.inl rfl,.inr h60⟩
    ·obtain rfl:y1=true:=by simpa using h60
     refine zE ?_;refine zh ?_;refine zg ?_;refine za ((r+1:Nat):Int) ?_;refine zz ?_;refine zo ((xh rfl rfl).sub (zD (n:=((2:Nat):Int)) rfl)) ?_;refine zg ?_;refine zd (fun _ k65=>?_) fun _ k65=>?_
     ·obtain rfl:r=1:=by omega
      refine zI ?_;refine zP (zY (List.nil_sublist _)) ?_;refine zO ?_;refine za ((2:Nat):Int) ?_;refine zg ?_
      exact⟨2,(by omega:2≤2),by omega,yo zk⟩
     ·obtain rfl:r=0:=by omega
      cases hx
      refine zE ?_;refine zS 8 (by kernel_rfl) ?_;refine zg ?_;refine zo (yA (z:=1) rfl rfl rfl (congrArg some (by omega)) (wrap_i64 (by omega) (by omega))) ?_;refine zo (zi rfl rfl rfl (by omega) (y:=1) (rfl)) ?_;refine zg ?_;refine zo ((ze rfl rfl (wt (p:=1) (q:= -1) (by decide))).sub (zD (n:=1) (by decide +kernel))) ?_;refine zz ?_;(iterate 2 refine zJ ?_);refine zh ?_;refine zr ?_;refine zz ?_;refine zo ((zZ rfl rfl rfl rfl).sub (yx (c:=true) (by decide))) ?_;(iterate 2 refine zz ?_);refine zo ((zZ rfl rfl rfl rfl).sub (yx (c:=true) (by decide))) ?_;refine zg ?_;refine zo (zi rfl rfl rfl (by omega) (y:=wb) (hwb)) ?_;refine zg ?_;refine zo (yA (z:=0) rfl rfl rfl (congrArg some (by omega)) (wrap_i64 (by omega) (by omega))) ?_;refine zo (yA (z:=wb) rfl rfl rfl (congrArg some (by omega)) (wrap_i64 (by omega) (by omega))) ?_;refine zz ?_;refine zo (yA (z:=4) rfl rfl rfl (congrArg some (by omega)) (wrap_i64 (by omega) (by omega))) ?_;refine Run.yield rfl hy rfl rfl rfl (Vi (show (acF wb)[1]? =some (wb,4) from rfl)) (xi _) (gB rfl rfl rfl rfl) rfl rfl fun y2=>?_;refine zg ?_;refine wE (fun h93=>?_) fun h93=>?_
      ·refine zj ?_
       exact⟨.inl rfl,.inr h93⟩
      ·obtain rfl:y2=true:=by simpa using h93
       refine zE ?_;refine zr ?_;refine zz ?_;refine zo ((zZ rfl rfl rfl rfl).sub (yx (c:=true) (by decide))) ?_;(iterate 2 refine zz ?_);refine zo ((zZ rfl rfl rfl rfl).sub (yx (c:=true) (by decide))) ?_;refine zg ?_;refine zo (yA (z:=1) rfl rfl rfl (congrArg some (by omega)) (wrap_i64 (by omega) (by omega))) ?_;refine zz ?_;refine zo ((xh rfl rfl).sub (zD (n:=((2:Nat):Int)) rfl)) ?_;refine zo ((zZ rfl rfl rfl rfl).sub (yx (c:=true) (by decide))) ?_;refine zg ?_;refine zo (zi rfl rfl rfl (by omega) (y:=wb) (hwb)) ?_;refine zg ?_;refine zo (yA (z:=0) rfl rfl rfl (congrArg some (by omega)) (wrap_i64 (by omega) (by omega))) ?_;refine zo (yA (z:=wb) rfl rfl rfl (congrArg some (by omega)) (wrap_i64 (by omega) (by omega))) ?_;refine zo (yA (z:=wb+1) rfl rfl rfl (congrArg some (by omega)) (wrap_i64 (by omega) (by omega))) ?_;refine zz ?_;refine zo (yA (z:=4) rfl rfl rfl (congrArg some (by omega)) (wrap_i64 (by omega) (by omega))) ?_;refine Run.yield rfl hy rfl rfl rfl (Vi (show (acF wb)[2]? =some (wb+1,4) from rfl)) (xi _) (gB rfl rfl rfl rfl) rfl rfl fun y3=>?_;refine zg ?_;refine wE (fun h122=>?_) fun h122=>?_
       ·refine zj ?_
        exact⟨.inl rfl,.inr h122⟩
       ·obtain rfl:y3=true:=by simpa using h122
        refine zE ?_;refine zP (zY (List.sublist_cons_self _ _)) ?_;refine zO ?_;refine za ((1:Nat):Int) ?_;refine zg ?_
        exact⟨1,(by omega:1≤1),by omega,zL zk rfl⟩
   ·have k9_1:=beq_eq_false_iff_ne.1 h9_1
    refine zg ?_;refine yM rfl rfl ?_;refine zE ?_;refine zh ?_;refine zg ?_;refine za ((r+1:Nat):Int) ?_;refine zz ?_;refine zo ((xh rfl rfl).sub (zD (n:=((2:Nat):Int)) rfl)) ?_;refine zg ?_;refine zd (fun _ k65=>?_) fun _ k65=>?_
    ·obtain rfl:r=1:=by omega
     obtain rfl:k=0:=by omega
     refine zI ?_;refine zP (zY (List.nil_sublist _)) ?_;refine zO ?_;refine za ((1:Nat):Int) ?_;refine zg ?_
     exact⟨1,(by omega:1≤2),by omega,yo zk⟩
    ·obtain rfl:r=0:=by omega
     obtain rfl:k=1:=by omega
     cases hx
     refine zE ?_;refine zS 8 (by kernel_rfl) ?_;refine zg ?_;refine zo (yA (z:=1) rfl rfl rfl (congrArg some (by omega)) (wrap_i64 (by omega) (by omega))) ?_;refine zo (zi rfl rfl rfl (by omega) (y:=1) (rfl)) ?_;refine zg ?_;refine zo ((ze rfl rfl (wt (p:=1) (q:=1) (by decide))).sub (zD (n:=0) (by decide +kernel))) ?_;refine zz ?_;(iterate 2 refine zJ ?_);refine zh ?_;refine zr ?_;refine zz ?_;refine zo ((zZ rfl rfl rfl rfl).sub (yx (c:=true) (by decide))) ?_;(iterate 2 refine zz ?_);refine zo ((zZ rfl rfl rfl rfl).sub (yx (c:=true) (by decide))) ?_;refine zg ?_;refine zo (zi rfl rfl rfl (by omega) (y:=wb) (hwb)) ?_;refine zg ?_;refine zo (yA (z:=2) rfl rfl rfl (congrArg some (by omega)) (wrap_i64 (by omega) (by omega))) ?_;refine zo (yA (z:=wb+2) rfl rfl rfl (congrArg some (by omega)) (wrap_i64 (by omega) (by omega))) ?_;refine zz ?_;refine zo (yA (z:=4) rfl rfl rfl (congrArg some (by omega)) (wrap_i64 (by omega) (by omega))) ?_;refine Run.yield rfl hy rfl rfl rfl (Vi (show (acF wb)[3]? =some (wb+2,4) from rfl)) (xi _) (gB rfl rfl rfl rfl) rfl rfl fun y2=>?_;refine zg ?_;refine wE (fun h93=>?_) fun h93=>?_
     ·refine zj ?_
      exact⟨.inl rfl,.inr h93⟩
     ·obtain rfl:y2=true:=by simpa using h93
      refine zE ?_;refine zr ?_;refine zz ?_;refine zo ((zZ rfl rfl rfl rfl).sub (yx (c:=true) (by decide))) ?_;(iterate 2 refine zz ?_);refine zo ((zZ rfl rfl rfl rfl).sub (yx (c:=false) (by decide))) ?_;refine zg ?_;refine yM rfl rfl ?_;refine zE ?_;refine zP (zY (List.sublist_cons_self _ _)) ?_;refine zO ?_;refine za ((1:Nat):Int) ?_;refine zg ?_
      exact⟨1,(by omega:1≤1),by omega,zL zk rfl⟩
  ·exact absurd (of_decide_eq_false h30) (by omega)
 ·obtain rfl:k=2:=by omega
  refine zI ?_
  exact⟨.inr rfl,.inl rfl⟩
end Go.Proofs
namespace Go.Proofs
open Go Go.Sv Num
variable {G:Imm}
theorem zoD {k:Nat} {wb:Int} (h:WH[k]? =some (wb,wb+1)) (h2:WH[k+1]? =some (wb+1,wb+1+1)):∀ j<(alF wb).length,WH[k+j]? =(alF wb)[j]? :=fun j hj=>by
 have hj:j<2:=hj
 rcases (show j=0∨j=1 by omega) with rfl | rfl
 ·exact h
 ·exact h2
theorem zoE {k:Nat} {xs:List Jp} (h:(WH.drop k).take xs.length=xs):∀ j<xs.length,WH[k+j]? =xs[j]? :=fun j hj=>by
 have e:((WH.drop k).take xs.length)[j]? =xs[j]? :=by rw [h]
 rw [List.getElem?_take,if_pos hj,List.getElem?_drop] at e;exact e
theorem zhz {wl:Nat}:zp Tryz.prog G 295 [zl (fsC wlS sbS),intS .i64 0,intS .i64 (wl:Nat),zU 3 zR xu] (wp 358 [zT (fsC wlS sbS),zT [intS .i64 (wl:Nat)],zT [zU 3 zR xu],zT [intS .i64 0]]):=by
 refine zs Tryz.func295 ?_;refine zg ?_
 exact zj zt
theorem Vj {E:Env} {l k:Nat} {f:FuncId} {caps:List SV} {al xs:List Jp} (hy:Zz Tryz.prog G E l (jnX al)) (hit:IterSpec Tryz.prog G f caps (jnX xs)) (hsub:∀ j<xs.length,al[k+j]? =xs[j]?):CallE Tryz.prog G E 293 [wp f caps,zT [yieldS l]] (k,false) (fun s i=>∃ b,s=zm b∧(b=true→i=(k+xs.length,false))∧(b=false→i.2=true)):=by
 refine zlY Tryz.func293 rfl rfl rfl ?_;refine zr ?_;refine xg fun b3=>?_;refine zJ ?_;refine zh ?_;refine zg ?_
 refine ul rfl rfl hit (fun ss h=>zl7 h) (by decide) rfl
  (fun j h i=>i=(k+j,false)∧j≤xs.length∧h=[⟨some b3,4,[eqS (.bool false)],0⟩])
  (fun e h i=>e= .ret∧i.2=true∧h=[⟨some b3,4,[zm false],0⟩]) ⟨rfl,Nat.zero_le _,rfl⟩ ?_ ?_ ?_
 ·rintro l1 j ss h i hj ⟨rfl,hjl,rfl⟩
  obtain⟨p,hp,rfl⟩:=zhx hj
  have hlt:=yt hp
  refine zr ?_;refine zz ?_;refine zJ ?_;refine zO ?_;refine zz ?_;refine zJ ?_
  refine⟨rfl,?_⟩
  refine zg ?_;refine Run.yield rfl hy rfl rfl rfl (Vi (p:=p) ((hsub j hlt).trans hp)) (xi _) rfl rfl rfl fun y1=>?_;refine zg ?_;refine wE (fun h13=>?_) fun h13=>?_
  ·refine zg ?_;refine zj ?_
   exact⟨rfl,h13,rfl⟩
  ·obtain rfl:y1=true:=by simpa using h13
   refine zE ?_
   exact⟨rfl,by omega,rfl⟩
 ·rintro h i D ⟨rfl,_,rfl⟩
  rw [zhw]
  refine zg ?_;refine zj ?_
  exact⟨.inl rfl,_,.one (.own 0 inferInstance rfl rfl rfl),true,rfl,fun _=>rfl,fun h=>by cases h⟩
 ·rintro h i D e c hc ⟨rfl,hi,rfl⟩;exact⟨.inl rfl,_,.one (.own 0 inferInstance rfl rfl rfl),false,rfl,(fun h=>by cases h),fun _=>hi⟩
theorem zrr [Tab G]:IterSpec Tryz.prog G 292 [zT (fsC wlS sbS)] (jnX WH):=by
 refine xH Tryz.func292 rfl rfl rfl rfl fun l E hy=>?_;refine zr ?_;refine zz ?_;refine zx ?_;(iterate 2 refine zz ?_);refine zJ ?_;refine zh ?_;refine zr ?_;(iterate 2 refine zz ?_);refine zz ?_;refine zo ((xh rfl rfl).sub (zD (n:=((2:Nat):Int)) rfl)) ?_;refine zg ?_;refine yK (γ:=Nat) (fun g=>⟨_,[(13,intS .i64 (g:Nat)),(12,intS .i64 ((2:Nat):Int)),(11,zU 1 qR XN),(3,wp 293 [zT [yieldS l]]),(0,yieldS l),(1,zT (fsC wlS sbS))],[],[],(2*g,false)⟩) (fun g=>g≤2) (fun g=>2-g) 0 (Nat.zero_le _) (yo zk) ?_
 intro g hg
 refine zr ?_;refine zz ?_;refine zJ ?_;refine zh ?_;refine zd (fun _ k14=>?_) fun _ k14=>?_
 ·obtain⟨wb,hwb⟩:∃ wb,([0,6]:List Int)[g]? =some wb:=⟨_,List.getElem?_eq_getElem (show g<2 by omega)⟩
  have hW:XN[g]? =some xu:=by
   rcases (show g=0∨g=1 by omega) with rfl | rfl <;> rfl
  have hb:0≤wb∧wb≤100∧WH[2*g]? =some (wb,wb+1)∧WH[2*g+1]? =some (wb+1,wb+1+1):=by
   rcases (show g=0∨g=1 by omega) with rfl | rfl <;> (cases hwb;exact⟨by decide,by decide,rfl,rfl⟩)
  refine zE ?_;refine zh ?_;refine zg ?_;refine zo (zi rfl rfl rfl (by omega) (y:=xu) (hW)) ?_;refine zg ?_;refine zo (zi rfl rfl rfl (by omega) (y:=wb) (hwb)) ?_;refine zz ?_;refine zz ?_;refine zo ((xh rfl rfl).sub (zD (n:=2) rfl)) ?_;refine zf zma ?_;refine Run.callE rfl rfl rfl rfl (Vj (k:=2*g) (xs:=alF wb) hy (zl9 hb.1 hb.2.1) (zoD hb.2.2.1 hb.2.2.2)) rfl rfl rfl ?_
  rintro s27 i27 ⟨b27,rfl,hT27,hF27⟩
  refine zg ?_;refine wE (fun h28=>?_) fun h28=>?_
  ·refine zj ?_
   exact⟨.inl rfl,.inr (hF27 (by simpa using h28))⟩
  ·obtain rfl:b27=true:=by simpa using h28
   obtain rfl:=hT27 rfl
   refine zg ?_;refine za ((g+1:Nat):Int) ?_;refine zg ?_
   exact⟨g+1,(by omega:g+1≤2),by omega,yo zk⟩
 ·obtain rfl:g=2:=by omega
  refine zI ?_;refine zr ?_;(iterate 2 refine zz ?_);refine zz ?_;refine zo ((xh rfl rfl).sub (zD (n:=((1:Nat):Int)) rfl)) ?_;refine zg ?_;refine yK (γ:=Nat) (fun g=>⟨_,[(34,intS .i64 (g:Nat)),(33,intS .i64 ((1:Nat):Int)),(32,zU 1 lvR [ui]),(3,wp 293 [zT [yieldS l]]),(0,yieldS l),(1,zT (fsC wlS sbS))],[],[],(4+12*g,false)⟩) (fun g=>g≤1) (fun g=>1-g) 0 (Nat.zero_le _) (yo zk) ?_
  intro g hg
  refine zr ?_;refine zz ?_;refine zJ ?_;refine zh ?_;refine zd (fun _ k35=>?_) fun _ k35=>?_
  ·obtain rfl:g=0:=by omega
   refine zE ?_;refine zh ?_;refine zg ?_;refine zo (zi rfl rfl rfl (by omega) (y:=ui) (rfl)) ?_;refine zg ?_;refine wH 32 [9,19,31] _ (by kernel_rfl) .slnil ?_;refine RunE.one (zG rfl rfl) rfl rfl rfl (by kernel_rfl) ?_;refine RunE.one (zX rfl rfl rfl) rfl rfl rfl (by kernel_rfl) ?_;refine RunE.one ((show OpOK _ _ _ _ _ (sbS) from yN rfl rfl)) rfl rfl rfl (by kernel_rfl) ?_;refine RunE.one (zG rfl rfl) rfl rfl rfl (by kernel_rfl) ?_;refine RunE.one (zi rfl rfl rfl (by omega) (y:=3) (rfl)) rfl rfl rfl (by kernel_rfl) ?_;refine RunE.one ((show OpOK _ _ _ _ _ (intS .i64 3) from yN rfl rfl)) rfl rfl rfl (by kernel_rfl) ?_;refine RunE.one (zG rfl rfl) rfl rfl rfl (by kernel_rfl) ?_;refine RunE.one ((xh rfl rfl).sub (zD (n:=2) rfl)) rfl rfl rfl (by kernel_rfl) ?_;refine RunE.one (ze rfl rfl zma) rfl rfl rfl (by kernel_rfl) ?_
   refine RunE.nil ⟨_,rfl,?_⟩
   refine .env (JM rfl rfl rfl (Vj (k:=4) (xs:=alF 3) hy (zl9 (by decide) (by decide)) (zoD rfl rfl))) .slnil rfl rfl rfl ?_
   rintro s48 i48 ⟨b48,rfl,hT48,hF48⟩
   refine RunE.oneB (ZU rfl rfl) rfl rfl rfl (by kernel_rfl) (fun h10_10=>?_) (fun h10_10=>?_)
   ·refine RunE.one (zG rfl rfl) rfl rfl rfl (by kernel_rfl) ?_;(iterate 7 refine RunE.no (gB rfl rfl rfl rfl) rfl rfl ?_)
    refine RunE.nil ⟨_,rfl,?_⟩
    refine .no .slnil (gB rfl rfl rfl rfl) rfl rfl ?_;refine RunE.no (gB rfl rfl rfl rfl) rfl rfl ?_;refine RunE.one (wg rfl rfl rfl) rfl rfl rfl (by kernel_rfl) ?_;refine RunE.one (zG rfl rfl) rfl rfl rfl (by kernel_rfl) ?_;(iterate 8 refine RunE.no (gB rfl rfl rfl rfl) rfl rfl ?_)
    refine RunE.nil ⟨_,rfl,?_⟩
    refine .no .slnil (gB rfl rfl rfl rfl) rfl rfl ?_;refine RunE.nil ?_;refine zg ?_;refine xt rfl rfl ?_;refine zj ?_
    exact⟨.inl rfl,.inr (hF48 (by simpa using h10_10))⟩
   ·obtain rfl:b48=true:=by simpa using h10_10
    obtain rfl:=hT48 rfl
    refine RunE.one (zG rfl rfl) rfl rfl rfl (by kernel_rfl) ?_;refine RunE.one (zG rfl rfl) (gB rfl rfl rfl rfl) rfl rfl (by kernel_rfl) ?_;refine RunE.one ((show OpOK _ _ _ _ _ (zl (fsC wlS sbS)) from zF rfl rfl rfl rfl)) (gB rfl rfl rfl rfl) rfl rfl (by kernel_rfl) ?_;(iterate 3 refine RunE.one (zG rfl rfl) (gB rfl rfl rfl rfl) rfl rfl (by kernel_rfl) ?_);refine RunE.one (ze rfl rfl zoC) (gB rfl rfl rfl rfl) rfl rfl (by kernel_rfl) ?_;refine RunE.one (ze rfl rfl (zhz (wl:=0))) (gB rfl rfl rfl rfl) rfl rfl (by kernel_rfl) ?_
    refine RunE.nil ⟨_,rfl,?_⟩
    refine .env (JM rfl rfl rfl (Vj (k:=6) (xs:=acF 0) hy (zhy (wl:=0) rfl rfl (by decide) (by decide)) (zoE (by decide)))) .slnil (gB rfl rfl rfl rfl) rfl rfl ?_
    rintro s58 i58 ⟨b58,rfl,hT58,hF58⟩
    refine RunE.one (ZU rfl rfl) (gB rfl rfl rfl rfl) rfl rfl (by kernel_rfl) ?_
    refine RunE.oneB (wg rfl rfl rfl) rfl rfl rfl (by kernel_rfl) (fun h10_21=>?_) (fun h10_21=>?_)
    ·refine RunE.one (zG rfl rfl) rfl rfl rfl (by kernel_rfl) ?_;(iterate 8 refine RunE.no (gB rfl rfl rfl rfl) rfl rfl ?_)
     refine RunE.nil ⟨_,rfl,?_⟩
     refine .no .slnil (gB rfl rfl rfl rfl) rfl rfl ?_;refine RunE.nil ?_;refine zg ?_;refine xt rfl rfl ?_;refine zj ?_
     exact⟨.inl rfl,.inr (hF58 (by simpa using h10_21))⟩
    ·obtain rfl:b58=true:=by simpa using h10_21
     obtain rfl:=hT58 rfl
     refine RunE.one (zG rfl rfl) rfl rfl rfl (by kernel_rfl) ?_;refine RunE.one (zG rfl rfl) (gB rfl rfl rfl rfl) rfl rfl (by kernel_rfl) ?_;refine RunE.one ((show OpOK _ _ _ _ _ (zl (fsC wlS sbS)) from zF rfl rfl rfl rfl)) (gB rfl rfl rfl rfl) rfl rfl (by kernel_rfl) ?_;(iterate 2 refine RunE.one (zG rfl rfl) (gB rfl rfl rfl rfl) rfl rfl (by kernel_rfl) ?_);refine RunE.one (yA (z:=((1:Nat):Int)) rfl rfl rfl (congrArg some (by omega)) (wrap_i64 (by omega) (by omega))) (gB rfl rfl rfl rfl) rfl rfl (by kernel_rfl) ?_;refine RunE.one (zG rfl rfl) (gB rfl rfl rfl rfl) rfl rfl (by kernel_rfl) ?_;refine RunE.one (ze rfl rfl zoC) (gB rfl rfl rfl rfl) rfl rfl (by kernel_rfl) ?_;refine RunE.one (ze rfl rfl (zhz (wl:=1))) (gB rfl rfl rfl rfl) rfl rfl (by kernel_rfl) ?_
     refine RunE.nil ⟨_,rfl,?_⟩
     refine .env (JM rfl rfl rfl (Vj (k:=11) (xs:=acF 6) hy (zhy (wl:=1) rfl rfl (by decide) (by decide)) (zoE (by decide)))) .slnil (gB rfl rfl rfl rfl) rfl rfl ?_
     rintro s70 i70 ⟨b70,rfl,hT70,hF70⟩
     refine RunE.nil ?_;refine zg ?_;refine wE (fun h72=>?_) fun h72=>?_
     ·refine zj ?_
      exact⟨.inl rfl,.inr (hF70 (by simpa using h72))⟩
     ·obtain rfl:b70=true:=by simpa using h72
      obtain rfl:=hT70 rfl
      refine zg ?_;refine za ((1:Nat):Int) ?_;refine zg ?_
      exact⟨1,(by omega:1≤1),by omega,yo zk⟩
  ·obtain rfl:g=1:=by omega
   refine zI ?_
   exact⟨.inr rfl,.inl rfl⟩
theorem zrs:zp Tryz.prog G 221 [zl (fsC wlS sbS)] (wp 292 [zT (fsC wlS sbS)]):=by
 refine zs Tryz.func221 ?_;refine zg ?_
 exact zj zt
end Go.Proofs
namespace Go.Proofs
open Go Go.Sv Num
variable {G:Imm}
abbrev vl (j:Jp):List SV:=[intS .i64 j.1,intS .i64 j.2]
def zcm (a b:Jp):Bool:=decide (a.1<b.1∨(a.1=b.1∧a.2<b.2))
def joZ (a b:Jp):Int:=if ue a.1 b.1≠0 then ue a.1 b.1 else ue a.2 b.2
theorem zeg {a b:Int}:ue a b<0↔a<b:=by unfold ue;split <;> (try split) <;> omega
theorem zba {a b:Int}:ue a b=0↔a=b:=by unfold ue;split <;> (try split) <;> omega
theorem zn2 {a b:Jp}:decide (joZ a b<0)=zcm a b:=by
 unfold zcm joZ
 rw [decide_eq_decide]
 split
 ·rename_i h
  rw [zeg];have:=mt zba.2 h;omega
 ·rename_i h
  have h0:=zba.1 (Decidable.not_not.1 h)
  rw [zeg];omega
theorem zqJ {a:Int}:zp Tryz.prog G 299 [intS .i64 a] (zm false):=by
 refine zs Tryz.func299 ?_;refine zr ?_;refine zz ?_;refine zx ?_;(iterate 2 refine zz ?_);refine zo ((zZ rfl rfl rfl rfl).sub (yx (c:=false) (by simp))) ?_;refine zg ?_
 exact zj zt
theorem zqK {a b:Int}:zp Tryz.prog G 225 [intS .i64 a,intS .i64 b] (intS .i64 (ue a b)):=by
 refine zs Tryz.func225 ?_;refine zg ?_;refine zf zqJ ?_;refine zg ?_;refine zf zqJ ?_;refine zz ?_;refine zJ ?_;refine zh ?_;refine zg ?_;refine yM rfl rfl ?_;refine zE ?_;refine zh ?_;refine zg ?_;refine yM rfl rfl ?_;refine zE ?_;refine zh ?_;refine zg ?_;refine zd (fun _ k16=>?_) fun _ k16=>?_
 ·refine zg ?_
  exact zj (zu (e:=congrArg (intS .i64) (by unfold ue;rw [if_pos k16])))
 ·refine zE ?_;refine zh ?_;refine zg ?_;refine zd (fun _ k19=>?_) fun _ k19=>?_
  ·refine zg ?_
   exact zj (zu (e:=congrArg (intS .i64) (by unfold ue;rw [if_neg k16,if_pos k19])))
  ·refine zg ?_
   exact zj (zu (e:=congrArg (intS .i64) (by unfold ue;rw [if_neg k16,if_neg k19])))
theorem orI {x y:Int}:zp Tryz.prog G 224 [zU 1 id [[intS .i64 x],[intS .i64 y]]] (intS .i64 (if x≠0 then x else y)):=by
 refine zs Tryz.func224 ?_;refine zr ?_;refine zz ?_;refine zx ?_;refine zz ?_;refine zJ ?_;refine zh ?_;refine zr ?_;refine zz ?_;refine zo ((xh rfl rfl).sub (zD (n:=((2:Nat):Int)) rfl)) ?_;refine zg ?_
 refine yK (γ:=Nat) (fun g=>⟨_,[(8,intS .i64 (g:Nat)),(7,intS .i64 ((2:Nat):Int)),(6,zU 1 id [[intS .i64 x],[intS .i64 y]]),(3,intS .i64 0)],[],[],(0,false)⟩) (fun g=>g≤2∧(0<g→x=0)∧(1<g→y=0)) (fun g=>2-g) 0 ⟨Nat.zero_le _,by omega,by omega⟩ (yo zk) ?_
 rintro g ⟨hg,hg1,hg2⟩
 refine zr ?_;refine zz ?_;refine zJ ?_;refine zh ?_;refine zd (fun _ k9=>?_) fun _ k9=>?_
 ·obtain⟨v,hv⟩:∃ v,[x,y][g]? =some v:=⟨_,List.getElem?_eq_getElem (show g<2 by omega)⟩
  have hvv:([[intS .i64 x],[intS .i64 y]]:List (List SV))[g]? =some [intS .i64 v]:=by
   rcases (show g=0∨g=1 by omega) with rfl | rfl <;> (cases hv;rfl)
  have hxy:(g=0∧v=x)∨(g=1∧v=y):=by
   rcases (show g=0∨g=1 by omega) with rfl | rfl <;> (cases hv;simp)
  refine zE ?_;refine zh ?_;refine zg ?_;refine zo (zi rfl rfl rfl (by omega) (y:=[intS .i64 v]) (hvv)) ?_;refine zg ?_;refine zd (fun _ k14=>?_) fun _ k14=>?_
  ·refine zg ?_
   exact zj (zu (e:=congrArg (intS .i64) (by rcases hxy with ⟨e1,rfl⟩ | ⟨e1,rfl⟩;rw [if_pos k14];rw [if_neg (fun h=>h (hg1 (by omega)))])))
  ·refine zg ?_;refine za ((g+1:Nat):Int) ?_;refine zg ?_
   exact⟨g+1,⟨by omega,fun h=>by rcases hxy with ⟨e1,rfl⟩ | ⟨e1,rfl⟩ <;> omega,fun h=>by rcases hxy with ⟨e1,rfl⟩ | ⟨e1,rfl⟩ <;> omega⟩,by omega,yo (zb rfl (zb rfl (zb rfl (zb rfl (trivial)))))⟩
 ·refine zI ?_;refine zg ?_
  exact zj (zu (e:=congrArg (intS .i64) (by have h1:=hg1 (by omega);have h2:=hg2 (by omega);rw [h1,h2];rfl)))
theorem zru {a b:Jp}:zp Tryz.prog G 223 [zl (vl a),zl (vl b)] (intS .i64 (joZ a b)):=by
 refine zs Tryz.func223 ?_;refine zg ?_;refine zS 13 (by kernel_rfl) ?_;refine zg ?_;refine zf zqK ?_;refine zg ?_;refine zf zqK ?_;refine zo (zB rfl rfl (by decide) rfl (by simp) rfl rfl) ?_;refine zf orI ?_;refine zg ?_
 exact zj zt
theorem zcn:uF Tryz.prog G vl (fun _=>True) zcm 223 []:=fun _ _ _ _=>⟨_,zru,zn2⟩
theorem isF {n:Int} (h0:0≤n) (h1:n<9):zp Tryz.prog G 219 [intS .i64 n,zT [zU 1 boR (List.replicate 9 true)]] (zm true):=by
 refine zs Tryz.func219 ?_;refine zr ?_;refine zz ?_;refine zx ?_;refine zz ?_;refine zz ?_;refine zo ((xh rfl rfl).sub (zD (n:=((9:Nat):Int)) rfl)) ?_;refine zo ((zZ rfl rfl rfl rfl).sub (yx (c:=true) (decide_eq_true (by omega)))) ?_;refine zg ?_;refine zo (zi rfl rfl rfl (by omega) (y:=true) (by rw [List.getElem?_replicate,if_pos (by omega)])) ?_;refine zg ?_
 exact zj zt
theorem zbb {d:Array (Jp)} {bb cc n:Nat} {fl:FuncId} {caps:List SV} {lt:Jp→Jp→Bool} {p:Jp→Prop} (hd:d.size=n) (hn:n≤1000000) (hp:∀ x∈d.toList,p x) (hlt:uF Tryz.prog G vl p lt fl caps) {a b:Nat} (hab:a≤b) (hb:b≤n):CallSpec Tryz.prog G 359 [eqS (rowV (some (bb,cc)) n),intS .i64 (a:Nat),intS .i64 (b:Nat),wp fl caps] [rowE (some (bb,cc)) 295 2 n (vZ vl d)] (fun v H'=>v=xn []∧H'=[rowE (some (bb,cc)) 295 2 n (vZ vl (Sort.insertionSort lt d a b))]):=by
 refine zs Tryz.func359 ?_;refine zg ?_;refine za ((a+1:Nat):Int) ?_;refine zg ?_
 refine yX (fun (i:Nat) (D:Array (Jp))=>⟨_,[(8,intS .i64 (i:Nat)),(0,eqS (rowV (some (bb,cc)) n)),(1,intS .i64 (a:Nat)),(2,intS .i64 (b:Nat)),(3,wp fl caps)],[rowE (some (bb,cc)) 295 2 n (vZ vl D)],[],(0,false)⟩) (fun i D=>D.size=n∧a<i∧i≤n+1∧(∀x∈D.toList,p x)∧Sort.insOuter lt a b i D=Sort.insertionSort lt d a b) (fun i _=>b-i) (a+1) d ⟨hd,by omega,by omega,hp,rfl⟩ (zL zk rfl) ?_
 rintro i D ⟨hD,hai,hin,hDp,hDo⟩
 refine zh ?_;refine zg ?_;refine zd (fun _ k14=>?_) fun _ k14=>?_
 ·refine zE ?_;refine zh ?_;refine zg ?_
  refine yX (fun (j:Nat) (E:Array (Jp))=>⟨_,[(9,intS .i64 (j:Nat)),(8,intS .i64 (i:Nat)),(0,eqS (rowV (some (bb,cc)) n)),(1,intS .i64 (a:Nat)),(2,intS .i64 (b:Nat)),(3,wp fl caps)],[rowE (some (bb,cc)) 295 2 n (vZ vl E)],[],(0,false)⟩) (fun j E=>E.size=n∧j<n∧(∀x∈E.toList,p x)∧Sort.insInner lt a j E=Sort.insInner lt a i D) (fun j _=>j) i D ⟨hD,by omega,hDp,rfl⟩ (zL zk rfl) ?_
  rintro j E ⟨hE,hj,hEp,hEi⟩
  refine zh ?_;refine zS 17 (by kernel_rfl) ?_;(iterate 2 refine zz ?_)
  refine Run.oneB (zZ rfl rfl rfl rfl) rfl rfl rfl (fun h4_2=>?_) (fun h4_2=>?_)
  ·have k4_2:=of_decide_eq_true h4_2
   obtain⟨z,hz1,hz2⟩:=hlt _ _ (xO hEp (i:=j) (by omega)) (xO hEp (i:=j-1) (by omega))
   refine zg ?_;refine zo ((yG (j) rfl rfl rfl rfl (by omega))) ?_;refine zo ((yO 0 (f:=vl) (fun _=>rfl) (d:=E) (i:=j) (by omega) rfl rfl rfl)) ?_;refine zg ?_;refine za ((j-1:Nat):Int) ?_;refine zo ((yG (j-1) rfl rfl rfl rfl (by omega))) ?_;refine zo ((yO 0 (f:=vl) (fun _=>rfl) (d:=E) (i:=j-1) (by omega) rfl rfl rfl)) ?_;refine zo ((yI rfl rfl rfl hz1)) ?_;refine zg ?_;refine zd (fun h34 k34=>?_) fun h34 k34=>?_
   ·have hl:lt E[j]! E[j-1]! =true:=hz2▸h34
    have hs1:(E.setIfInBounds j E[j-1]!).size=n:=by rw [Array.size_setIfInBounds];exact hE
    refine zE ?_;refine zh ?_;refine zQ ?_;refine vj 18 [15,17] _ (by kernel_rfl) (.cons _ .slnil) ?_;(iterate 2 refine RunE.one (zG rfl rfl) rfl rfl rfl (by kernel_rfl) ?_);(iterate 2 refine RunE.lat (zG rfl rfl) rfl rfl rfl ?_);refine RunE.lat (yA (z:=((j-1:Nat):Int)) rfl rfl rfl (congrArg some (by omega)) (wrap_i64 (by omega) (by omega))) rfl rfl rfl ?_;(iterate 2 refine RunE.one (zG rfl rfl) rfl rfl rfl (by kernel_rfl) ?_);refine RunE.one (yA (z:=((j-1:Nat):Int)) rfl rfl rfl (congrArg some (by omega)) (wrap_i64 (by omega) (by omega))) rfl rfl rfl (by kernel_rfl) ?_;refine RunE.one ((yG (j-1) rfl rfl rfl rfl (by omega))) rfl rfl rfl (by kernel_rfl) ?_;refine RunE.one ((yO 0 (f:=vl) (fun _=>rfl) (d:=E) (i:=j-1) (by omega) rfl rfl rfl)) rfl rfl rfl (by kernel_rfl) ?_;(iterate 2 refine RunE.one (zG rfl rfl) rfl rfl rfl (by kernel_rfl) ?_);refine RunE.one ((yG (j) rfl rfl rfl rfl (by omega))) rfl rfl rfl (by kernel_rfl) ?_;refine RunE.one ((yO 0 (f:=vl) (fun _=>rfl) (d:=E) (i:=j) (by omega) rfl rfl rfl)) rfl rfl rfl (by kernel_rfl) ?_;refine RunE.one ((yG (j) rfl rfl rfl rfl (by omega))) rfl rfl rfl (by kernel_rfl) ?_
    refine RunE.nil ⟨_,rfl,?_⟩
    refine .loc1n 0 (wC (f:=vl) (fun _=>rfl) (d:=E) (i:=j) (by omega) E[j-1]! rfl rfl rfl) rfl rfl rfl ?_
    rintro s1 H1 ⟨rfl,rfl⟩
    refine⟨(.cons _ .slnil),?_⟩
    refine RunE.one ((yG (j-1) rfl rfl rfl rfl (by omega))) rfl rfl rfl (by kernel_rfl) ?_
    refine RunE.nil ⟨_,rfl,?_⟩
    refine .loc1n 0 (wC (f:=vl) (fun _=>rfl) (d:=E.setIfInBounds j E[j-1]!) (i:=j-1) (by omega) E[j]! rfl rfl rfl) rfl rfl rfl ?_
    rintro s2 H2 ⟨rfl,rfl⟩
    refine⟨(.cons _ .slnil),?_⟩
    refine RunE.nil ?_;refine zg ?_;refine za ((j-1:Nat):Int) ?_;refine zg ?_
    exact⟨j-1,Sort.swp E j (j-1),⟨by rw [Sort.swp_size];exact hE,by omega,Vg hEp (by omega) (by omega),by rw [←qK lt (by omega) hl];exact hEi⟩,by omega,zL (zb rfl (zb rfl (zb rfl (zb rfl (zb rfl (zb rfl (trivial))))))) rfl⟩
   ·have hst:Sort.insInner lt a i D=E:=hEi.symm.trans (Zf lt (.inr (hz2▸h34)))
    refine zI ?_;refine zg ?_;refine za ((i+1:Nat):Int) ?_;refine zg ?_
    exact⟨i+1,E,⟨hE,by omega,by omega,hEp,by rw [←hst,←ZS lt (by omega)];exact hDo⟩,by omega,zL (zb rfl (zb rfl (zb rfl (zb rfl (zb rfl (trivial)))))) rfl⟩
  ·have k4_2:=of_decide_eq_false h4_2
   have hst:Sort.insInner lt a i D=E:=hEi.symm.trans (Zf lt (.inl (by omega)))
   refine zg ?_;refine yM rfl rfl ?_;refine zI ?_;refine zg ?_;refine za ((i+1:Nat):Int) ?_;refine zg ?_
   exact⟨i+1,E,⟨hE,by omega,by omega,hEp,by rw [←hst,←ZS lt (by omega)];exact hDo⟩,by omega,zL (zb rfl (zb rfl (zb rfl (zb rfl (zb rfl (trivial)))))) rfl⟩
 ·have hst:Sort.insertionSort lt d a b=D:=hDo.symm.trans (WF lt (by omega))
  refine zI ?_
  exact⟨_,[_],.none,List.Sublist.refl _,rfl,by rw [hst]⟩
end Go.Proofs
namespace Go.Proofs
open Go Go.Sv Num
variable {G:Imm}
theorem qN {α:Type} [Inhabited α] {lt:α→α→Bool} {d:Array α} {a b s n:Nat} (ha:a<n) (hb:b<n):(Sort.order2 lt d a b s).1<n∧(Sort.order2 lt d a b s).2.1<n∧(Sort.order2 lt d a b s).2.2≤s+1:=by
 unfold Sort.order2;split
 ·exact⟨hb,ha,Nat.le_refl _⟩
 ·exact⟨ha,hb,Nat.le_succ _⟩
def hI (s:Nat):Int:=if s=0 then 1 else if s=12 then 2 else 0
theorem zpF {α:Type} [Inhabited α] {lt:α→α→Bool} {d:Array α} {a b c s n:Nat} (ha:a<n) (hb:b<n) (hc:c<n):(Sort.median lt d a b c s).1<n∧(Sort.median lt d a b c s).2≤s+3:=by
 have l1:=qN (lt:=lt) (d:=d) (s:=s) ha hb
 have l2:=qN (lt:=lt) (d:=d) (s:=(Sort.order2 lt d a b s).2.2) l1.2.1 hc
 have l3:=qN (lt:=lt) (d:=d) (s:=(Sort.order2 lt d (Sort.order2 lt d a b s).2.1 c (Sort.order2 lt d a b s).2.2).2.2) l1.1 l2.1
 exact⟨l3.2.1,show (Sort.order2 lt d (Sort.order2 lt d a b s).1 (Sort.order2 lt d (Sort.order2 lt d a b s).2.1 c (Sort.order2 lt d a b s).2.2).1 (Sort.order2 lt d (Sort.order2 lt d a b s).2.1 c (Sort.order2 lt d a b s).2.2).2.2).2.2≤s+3 by omega⟩
theorem zco {d:Array Jp} {bb cc n:Nat} {fl:FuncId} {caps:List SV} {lt:Jp→Jp→Bool} {p:Jp→Prop} (hd:d.size=n) (hn:n≤1000000) (hp:∀ x∈d.toList,p x) (hlt:uF Tryz.prog G vl p lt fl caps) {bs a b s:Nat} (ha:a<n) (hb:b<n) (hs:s≤1000):CallSpec Tryz.prog G 476 [eqS (rowV (some (bb,cc)) n),intS .i64 (a:Nat),intS .i64 (b:Nat),eqS (.pointer (some ⟨bs,0,none⟩)),wp fl caps] [⟨some bs,3,[intS .i64 (s:Nat)],0⟩,rowE (some (bb,cc)) 295 2 n (vZ vl d)] (fun v H1=>v=xn [intS .i64 ((Sort.order2 lt d a b s).1:Nat),intS .i64 ((Sort.order2 lt d a b s).2.1:Nat)]∧H1=[⟨some bs,3,[intS .i64 ((Sort.order2 lt d a b s).2.2:Nat)],0⟩,rowE (some (bb,cc)) 295 2 n (vZ vl d)]):=by
 refine zs Tryz.func476 ?_;refine zr ?_;(iterate 2 refine zz ?_);refine zJ ?_;refine zh ?_
 obtain⟨z,hz1,hz2⟩:=hlt _ _ (xO hp (i:=b) (by omega)) (xO hp (i:=a) (by omega))
 refine zS 11 (by kernel_rfl) ?_;refine zg ?_;refine zo ((yG (b) rfl rfl rfl rfl (by omega))) ?_;refine zo ((yO 1 (f:=vl) (fun _=>rfl) (d:=d) (i:=b) (by omega) rfl rfl rfl)) ?_;refine zg ?_;refine zo ((yG (a) rfl rfl rfl rfl (by omega))) ?_;refine zo ((yO 1 (f:=vl) (fun _=>rfl) (d:=d) (i:=a) (by omega) rfl rfl rfl)) ?_;refine zo ((yI rfl rfl rfl hz1)) ?_;refine zg ?_;refine zd (fun h22 k22=>?_) fun h22 k22=>?_
 ·have ho:Sort.order2 lt d a b s=(b,a,s+1):=if_pos (hz2▸h22)
  rw [ho]
  refine zg ?_;refine za ((s+1:Nat):Int) ?_;refine zg ?_;refine zj ?_
  exact⟨_,[_,_],.many (.cons (.tmp rfl) (.cons (.tmp rfl) .nil)),List.Sublist.refl _,rfl,rfl⟩
 ·have ho:Sort.order2 lt d a b s=(a,b,s):=if_neg (by rw [←hz2,h22];exact Bool.false_ne_true)
  rw [ho]
  refine zg ?_;refine zj ?_
  exact⟨_,[_,_],.many (.cons (.tmp rfl) (.cons (.tmp rfl) .nil)),List.Sublist.refl _,rfl,rfl⟩
theorem zn3 {d:Array Jp} {bb cc n:Nat} {fl:FuncId} {caps:List SV} {lt:Jp→Jp→Bool} {p:Jp→Prop} (hd:d.size=n) (hn:n≤1000000) (hp:∀ x∈d.toList,p x) (hlt:uF Tryz.prog G vl p lt fl caps) {bs a b c s:Nat} (ha:a<n) (hb:b<n) (hc:c<n) (hs:s≤900):CallSpec Tryz.prog G 431 [eqS (rowV (some (bb,cc)) n),intS .i64 (a:Nat),intS .i64 (b:Nat),intS .i64 (c:Nat),eqS (.pointer (some ⟨bs,0,none⟩)),wp fl caps] [⟨some bs,3,[intS .i64 (s:Nat)],0⟩,rowE (some (bb,cc)) 295 2 n (vZ vl d)] (fun v H1=>v=intS .i64 ((Sort.median lt d a b c s).1:Nat)∧H1=[⟨some bs,3,[intS .i64 ((Sort.median lt d a b c s).2:Nat)],0⟩,rowE (some (bb,cc)) 295 2 n (vZ vl d)]):=by
 obtain⟨r1,hr1⟩:∃ r,r=(Sort.order2 lt d a b s):=⟨_,rfl⟩
 have l1:=qN (lt:=lt) (d:=d) (s:=s) ha hb
 rw [←hr1] at l1
 obtain⟨r2,hr2⟩:∃ r,r=Sort.order2 lt d r1.2.1 c r1.2.2:=⟨_,rfl⟩
 have l2:=qN (lt:=lt) (d:=d) (s:=r1.2.2) l1.2.1 hc
 rw [←hr2] at l2
 obtain⟨r3,hr3⟩:∃ r,r=Sort.order2 lt d r1.1 r2.1 r2.2.2:=⟨_,rfl⟩
 have hm:Sort.median lt d a b c s=(r3.2.1,r3.2.2):=by rw [hr3,hr2,hr1];rfl
 rw [hm]
 refine zs Tryz.func431 ?_;refine zg ?_;refine Run.callH [] [_,_] [] rfl rfl rfl rfl (zco hd hn hp hlt (a:=a) (b:=b) (s:=s) (by omega) (by omega) (by omega)) rfl rfl rfl ?_
 rintro s19 H19 ⟨rfl,rfl⟩
 rw [←hr1]
 refine zg ?_;refine Run.callH [] [_,_] [] rfl rfl rfl rfl (zco hd hn hp hlt (a:=r1.2.1) (b:=c) (s:=r1.2.2) (by omega) (by omega) (by omega)) rfl rfl rfl ?_
 rintro s28 H28 ⟨rfl,rfl⟩
 rw [←hr2]
 refine zg ?_;refine Run.callH [] [_,_] [] rfl rfl rfl rfl (zco hd hn hp hlt (a:=r1.1) (b:=r2.1) (s:=r2.2.2) (by omega) (by omega) (by omega)) rfl rfl rfl ?_
 rintro s37 H37 ⟨rfl,rfl⟩
 rw [←hr3]
 refine zg ?_;refine zj ?_
 exact⟨_,[_,_],.one (.tmp rfl),List.Sublist.refl _,rfl,rfl⟩
theorem zpG {d:Array Jp} {bb cc n:Nat} {fl:FuncId} {caps:List SV} {lt:Jp→Jp→Bool} {p:Jp→Prop} (hd:d.size=n) (hn:n≤1000000) (hp:∀ x∈d.toList,p x) (hlt:uF Tryz.prog G vl p lt fl caps) {a b:Nat} (h8:a+8≤b) (h50:b<a+50) (hb:b≤n):CallSpec Tryz.prog G 362 [eqS (rowV (some (bb,cc)) n),intS .i64 (a:Nat),intS .i64 (b:Nat),wp fl caps] [rowE (some (bb,cc)) 295 2 n (vZ vl d)] (fun v H1=>v=xn [intS .i64 ((Sort.median lt d (a+(b-a)/4*1) (a+(b-a)/4*2) (a+(b-a)/4*3) 0).1:Nat),intS .i64 (hI (Sort.median lt d (a+(b-a)/4*1) (a+(b-a)/4*2) (a+(b-a)/4*3) 0).2)]∧H1=[rowE (some (bb,cc)) 295 2 n (vZ vl d)]):=by
 obtain⟨m,hm⟩:∃ m,m=(b-a)/4:=⟨_,rfl⟩
 rw [←hm]
 obtain⟨r,hr⟩:∃ r,r=Sort.median lt d (a+m*1) (a+m*2) (a+m*3) 0:=⟨_,rfl⟩
 rw [←hr]
 have hlr:=zpF (lt:=lt) (d:=d) (a:=a+m*1) (b:=a+m*2) (c:=a+m*3) (s:=0) (n:=n) (by omega) (by omega) (by omega)
 rw [←hr] at hlr
 refine zs Tryz.func362 ?_;refine zg ?_;refine za ((b-a:Nat):Int) ?_;refine zg ?_;refine xg fun b11=>?_;refine zg ?_;refine zo ((wU rfl rfl rfl (by omega) (by omega) (wrap_i64 (by omega) (by omega))).sub (zD (n:=((m:Nat):Int)) (by omega))) ?_;refine za ((m*1:Nat):Int) ?_;refine za ((a+m*1:Nat):Int) ?_;refine zg ?_;refine zo ((wU rfl rfl rfl (by omega) (by omega) (wrap_i64 (by omega) (by omega))).sub (zD (n:=((m:Nat):Int)) (by omega))) ?_;refine za ((m*2:Nat):Int) ?_;refine za ((a+m*2:Nat):Int) ?_;refine zg ?_;refine zo ((wU rfl rfl rfl (by omega) (by omega) (wrap_i64 (by omega) (by omega))).sub (zD (n:=((m:Nat):Int)) (by omega))) ?_;refine za ((m*3:Nat):Int) ?_;refine za ((a+m*3:Nat):Int) ?_;refine zz ?_;refine zJ ?_;refine zh ?_;refine zg ?_;refine zd (fun _ k34=>?_) fun h34 k34=>?_
 ·refine zh ?_;refine zg ?_;refine zd (fun h36 k36=>?_) fun _ k36=>?_
  ·exact absurd (of_decide_eq_true h36) (by omega)
  ·refine zg ?_;refine Run.callH [] [_,_] [] rfl rfl rfl rfl (zn3 hd hn hp hlt (bs:=b11) (s:=0) (by omega) (by omega) (by omega) (by omega)) rfl rfl rfl ?_
   rintro s54 H54 ⟨rfl,rfl⟩
   rw [←hr]
   refine zg ?_;refine zd (fun _ k57=>?_) fun _ k57=>?_
   ·refine zg ?_;refine zj ?_
    exact⟨_,[_],.many (.cons (.tmp rfl) (.cons (.tmp rfl) .nil)),List.sublist_cons_self _ _,by rw [show hI r.2=1 from if_pos (by omega)],rfl⟩
   ·refine zg ?_;refine zd (fun _ k60=>?_) fun _ k60=>?_
    ·refine zg ?_;refine zj ?_
     exact⟨_,[_],.many (.cons (.tmp rfl) (.cons (.tmp rfl) .nil)),List.sublist_cons_self _ _,by rw [show hI r.2=2 from (if_neg (by omega)).trans (if_pos (by omega))],rfl⟩
    ·refine zg ?_;refine zj ?_
     exact⟨_,[_],.many (.cons (.tmp rfl) (.cons (.tmp rfl) .nil)),List.sublist_cons_self _ _,by rw [show hI r.2=0 from (if_neg (by omega)).trans (if_neg (by omega))],rfl⟩
 ·exact absurd (of_decide_eq_false h34) (by omega)
end Go.Proofs
