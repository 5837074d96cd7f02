/- turn: a ring walked by steps, turned about, begun elsewhere, mirrored; Collect of points. -/
import Derived.Test.YthhamejdmpjjlaaGreatDoorSgf
import Derived.Test.YthhamejdmpjjlaaGreatDoorSv1
import Derived.Sort.AssemblyPlain
import Derived.Test.YthhamejdmpjjlaaGreatDoorSca
namespace Num
open Go Go.Proofs
def rgI (n:Nat) (a s:Int) (i:Nat):Nat:=((a+i*s)%(n:Nat)).toNat
theorem zlL {n:Nat} (h:0<n) (a s:Int) (i:Nat):rgI n a s i<n:=by
 unfold rgI
 have h1:=Int.emod_nonneg (a+i*s) (show (n:Int)≠0 by omega)
 have h2:=Int.emod_lt_of_pos (a+i*s) (show (0:Int)<n by omega)
 omega
def Yz {α:Type} [Inhabited α] (xs:List α) (a s:Int):List α:=(List.range xs.length).map fun i=>xs.getD (rgI xs.length a s i) default
theorem vt {α:Type} [Inhabited α] (xs:List α) (a s:Int):(Yz xs a s).length=xs.length:=by simp [Yz]
theorem zjl {α:Type} [Inhabited α] {xs:List α} {a s:Int} {x:α} (h:x∈Yz xs a s):x∈xs:=by
 simp only [Yz,List.mem_map,List.mem_range] at h
 obtain⟨i,hi,rfl⟩:=h
 have:=zlL (show 0<xs.length by omega) a s i
 rw [List.getD_eq_getElem?_getD,List.getElem?_eq_getElem this];exact List.getElem_mem _
theorem zjm {z:Int} {n:Nat} (h:0<n):(if z.tmod n<0 then z.tmod n+n else z.tmod n)=z%n:=by
 have e:=Int.tmod_eq_emod (a:=z) (b:=(n:Int))
 have h1:=Int.emod_nonneg z (show (n:Int)≠0 by omega)
 have h2:=Int.emod_lt_of_pos z (show (0:Int)<n by omega)
 split at e <;> split <;> simp at* <;> omega
theorem qE {α:Type} [Inhabited α] (xs:List α):Yz xs 0 (-1)=Wz xs:=by
  cases xs with
  | nil=>rfl
  | cons x r=>
    refine List.ext_getElem (by rw [vt,UN]) fun i h1 h2=>?_
    rw [vt] at h1
    simp only [Yz,List.getElem_map,List.getElem_range,Wz]
    cases i with
    | zero=>simp [rgI]
    | succ i=>
      rw [List.length_cons] at h1
      have e:rgI (x::r).length 0 (-1) (i+1)=r.length-1-i+1:=by
        unfold rgI
        rw [List.length_cons,show (0:Int)+((i+1:Nat):Int)* -1=((r.length-1-i+1:Nat):Int)+((r.length+1:Nat):Int)*(-1) by omega,Int.add_mul_emod_self_left,Int.emod_eq_of_lt (by omega) (by omega),Int.toNat_natCast]
      rw [e,List.getElem_cons_succ,List.getElem_reverse]
      rw [List.getD_eq_getElem?_getD,List.getElem?_cons_succ,List.getElem?_eq_getElem (by omega)];rfl
theorem zd0 {α:Type} [Inhabited α] {xs:List α} (k:Int):Yz xs (k.tmod xs.length) 1=vy xs k false:=by
 rcases Nat.eq_zero_or_pos xs.length with h | h
 ·rw [List.eq_nil_of_length_eq_zero h,Vf];rfl
 obtain⟨K,hK,e,_,_⟩:=zhg (z:=k) h
 unfold vy
 simp only [Bool.false_eq_true,if_false]
 rw [e,Int.toNat_natCast]
 have hl:(xs.drop K++xs.take K).length=xs.length:=by rw [List.length_append,List.length_drop,List.length_take];omega
 refine List.ext_getElem (by rw [vt,hl]) fun i h1 h2=>?_
 rw [vt] at h1
 simp only [Yz,List.getElem_map,List.getElem_range]
 have e2:rgI xs.length (k.tmod xs.length) 1 i=(K+i)%xs.length:=by
  unfold rgI
  have e3:(k.tmod xs.length+(i:Int)*1)%xs.length=(((K+i:Nat):Int))%xs.length:=by
   have:(k.tmod xs.length+xs.length)%(xs.length:Int)=K:=e
   rw [Int.mul_one,show (k.tmod xs.length+(i:Int))=(k.tmod xs.length+xs.length)+i+xs.length*(-1) by omega,Int.add_mul_emod_self_left,←Int.emod_add_emod,this];rfl
  rw [e3,←Int.natCast_emod,Int.toNat_natCast]
 rw [e2,List.getD_eq_getElem?_getD]
 by_cases hc:K+i<xs.length
 ·rw [Nat.mod_eq_of_lt hc,List.getElem_append_left (by rw [List.length_drop];omega),List.getElem_drop,List.getElem?_eq_getElem hc];rfl
 ·rw [Nat.mod_eq_sub_mod (by omega),Nat.mod_eq_of_lt (by omega),List.getElem_append_right (by rw [List.length_drop];omega),List.getElem_take,List.getElem?_eq_getElem (by omega)]
  simp only [List.length_drop,Option.getD_some];congr 1;omega
end Num
namespace Go.Proofs
open Go Go.Sv Num
variable {G:Imm}
def ptX (xs:List yE):List (List SV):=xs.map fun x=>[zl (pc x)]
theorem znB {xs:List yE} {i:Nat} {x:yE} (h:xs[i]? =some x):(ptX xs)[i]? =some [zl (pc x)]:=by unfold ptX;rw [List.getElem?_map,h];rfl
theorem zhl {xs:List yE} {i:Nat} {ss:List SV} (h:(ptX xs)[i]? =some ss):∃ x,xs[i]? =some x∧ss=[zl (pc x)]:=by
 unfold ptX at h;rw [List.getElem?_map] at h
 cases hx:xs[i]? with
 | none=>rw [hx] at h;simp at h
 | some x=>rw [hx] at h;exact⟨x,rfl,(Option.some.inj h).symm⟩
theorem zb8 (xs:List yE):(ptX xs).length=xs.length:=List.length_map _
theorem zlM {xs:List yE} {ss:List SV} (h:ss∈ptX xs):ss.length=1:=by
 obtain⟨x,_,rfl⟩:=List.mem_map.1 h;rfl
theorem zjn {xs:List yE} {a s:Int} {g:Nat} (h:g<xs.length):(Yz xs a s)[g]? =some (xs.getD (rgI xs.length a s g) default):=by unfold Yz;simp [h]
theorem WB {xs:List yE} {a s:Int} (ha: -(xs.length:Int)<a∨a=0) (ha2:a<xs.length∨a=0) (hs:s=1∨s= -1):IterSpec Tryz.prog G 76 [zT [zU 6 pc xs],zT [intS .i64 a],zT [intS .i64 s]] (ptX (Yz xs a s)):=by
 refine xH Tryz.func76 rfl rfl rfl rfl fun l E hy=>?_;refine zr ?_;(iterate 3 refine zz ?_);refine zJ ?_;refine zQ ?_;refine wT 7 rfl fun la=>?_
 unfold yP at la
 refine yK (γ:=Nat) (fun g=>⟨_,[(9,intS .i64 (g:Nat)),(8,intS .i64 xs.length),(7,zU 6 pc xs),(0,yieldS l),(1,zT [zU 6 pc xs]),(2,zT [intS .i64 a]),(3,zT [intS .i64 s])],[],[],(g,false)⟩) (fun g=>g≤xs.length) (fun g=>xs.length-g) 0 (Nat.zero_le _) (yo zk) ?_
 intro g hg
 refine zr ?_;refine zz ?_;refine zJ ?_;refine zh ?_;refine zd (fun _ k10=>?_) fun _ k10=>?_
 ·have hg1:g<xs.length:=by omega
  have hpos:0<xs.length:=by omega
  have hgs:(g:Int)*s≤g∧ -(g:Int)≤(g:Int)*s:=by rcases hs with rfl | rfl <;> omega
  have hrl:=zlL hpos a s g
  have hem:=zjm (z:=a+g*s) hpos
  have hrg:(a+g*s)%(xs.length:Int)=(rgI xs.length a s g:Nat):=by unfold rgI;rw [Int.toNat_of_nonneg (Int.emod_nonneg _ (by omega))]
  have hro:=zhg (z:=a+g*s) hpos
  refine zE ?_;refine zh ?_;refine zg ?_;refine zo (yA (z:=(g:Int)*s) rfl rfl rfl (congrArg some (by omega)) (wrap_i64 (by omega) (by omega))) ?_;refine zo (yA (z:=a+(g:Int)*s) rfl rfl rfl (congrArg some (by omega)) (wrap_i64 (by omega) (by omega))) ?_;refine zg ?_;refine zo ((zhf rfl rfl rfl (by omega))) ?_;refine zz ?_;refine zJ ?_;refine xS (K:=fun S1=>Ent S1 (⟨34,[(6,intS .i64 (rgI xs.length a s g:Nat)),(9,intS .i64 (g:Nat)),(8,intS .i64 xs.length),(7,zU 6 pc xs),(0,yieldS l),(1,zT [zU 6 pc xs]),(2,zT [intS .i64 a]),(3,zT [intS .i64 s])],[],[],(g,false)⟩)) ?_ ?_
  ·refine zg ?_;refine zd (fun _ k21=>?_) fun _ k21=>?_
   ·rw [if_pos k21] at hem
    refine zg ?_;refine zo (yA (z:=(a+(g:Int)*s).tmod xs.length+xs.length) rfl rfl rfl (congrArg some (by omega)) (wrap_i64 (by omega) (by omega))) ?_;refine zg ?_
    exact yo (xk rfl (congrArg (intS .i64) (by omega)) zk)
   ·rw [if_neg k21] at hem
    refine zE ?_
    exact yo (xk rfl (congrArg (intS .i64) (by omega)) zk)
  ·intro S1 hS1
   refine wG hS1 ?_;refine zg ?_;refine zo (zi rfl rfl rfl (by omega) (y:=xs.getD (rgI xs.length a s g) default) (wQ hrl)) ?_;refine zz ?_;refine Run.yield rfl hy rfl rfl rfl (znB (zjn hg1)) (xi _) rfl rfl rfl fun y=>?_;refine zg ?_;refine wE (fun h32=>?_) fun h32=>?_
   ·refine zj ?_
    exact⟨.inl rfl,.inr h32⟩
   ·refine zg ?_;refine za ((g+1:Nat):Int) ?_;refine zg ?_
    exact⟨g+1,(by omega:g+1≤xs.length),by omega,rfl,zb rfl (zb rfl (zb rfl (zb rfl (zb rfl (zb rfl (zb rfl (trivial))))))),xp _,rfl,by simp only;rw [h32]⟩
 ·refine zI ?_
  exact⟨.inr rfl,.inl (by rw [zb8,vt,show g=xs.length by omega])⟩
theorem VV {xs:List yE} {a s:Int}:zp Tryz.prog G 51 [zU 6 pc xs,intS .i64 a,intS .i64 s] (wp 76 [zT [zU 6 pc xs],zT [intS .i64 a],zT [intS .i64 s]]):=by
 refine zs Tryz.func51 ?_;refine zg ?_
 exact zj zt
theorem znC {f:FuncId} {caps:List SV} {xs:List yE} (hit:IterSpec Tryz.prog G f caps (ptX xs)) (hxl:xs.length≤2000000000):zp Tryz.prog G 79 [eqS (.slice none 0 0),wp f caps] (zU 6 pc xs):=by
 refine zs Tryz.func79 ?_;refine zr ?_;refine Run.box rfl rfl rfl rfl rfl rfl fun b2=>?_;refine zz ?_;refine zJ ?_;refine zh ?_;refine zP (yL 41 6) ?_;refine zg ?_
 refine ul rfl rfl hit (fun ss h=>zlM h) (by decide) rfl
  (fun k h i=>i=(0,false)∧k≤xs.length∧∃ q,yu q k∧h=[rowE q 41 6 k ((xs.take k).flatMap pc),⟨some b2,22,[eqS (rowV q k)],0⟩])
  (fun _ _ _=>False) ⟨rfl,Nat.zero_le _,none,rfl,rfl⟩ ?_ ?_ ?_
 ·rintro l k' ss h i hk' ⟨rfl,hkl,q,hq,rfl⟩
  obtain⟨x,hx,rfl⟩:=zhl hk'
  have hlt:=yt hx
  have hms:=wo hx
  refine zO ?_;refine xg fun b5=>?_;refine zw ?_;refine zJ ?_
  refine⟨rfl,?_⟩
  refine zg ?_;refine zo (zB rfl rfl (by decide) rfl (by simp) rfl rfl) ?_;refine Run.append 1 rfl rfl rfl rfl rfl rfl rfl rfl hq (by rw [zb6,List.length_take];omega) (fun z hz=>by rw [List.mem_singleton.1 hz];rfl) (by unfold yP;simp;omega) (by unfold yP;simp;omega) fun q11 hq11=>?_;refine zw ?_;refine Run.ghost _ rfl (zY (List.sublist_cons_self _ _)) ?_;refine zJ ?_
  refine⟨rfl,by omega,q11,hq11,?_⟩
  rw [hms,List.flatMap_append];rfl
 ·rintro h i D ⟨rfl,_,q,hq,rfl⟩
  rw [zb8] at hq ⊢
  rw [List.take_length]
  refine zP (uZ [] [] [] hq (l:=xs) (f:=pc) rfl rfl (fun _ _=>rfl) (by unfold yP;omega)) ?_;refine zg ?_
  exact zj zt
 ·intro h i D e c hc hInv;exact hInv.elim
theorem zox {f:FuncId} {caps:List SV} {xs:List yE} (hit:IterSpec Tryz.prog G f caps (ptX xs)) (hxl:xs.length≤2000000000):zp Tryz.prog G 56 [wp f caps] (zU 6 pc xs):=by
 refine zs Tryz.func56 ?_;refine zg ?_;refine zf (znC hit hxl) ?_;refine zg ?_
 exact zj zt
theorem zjo {xs:List yE} (hxl:xs.length≤2000000000):zp Tryz.prog G 32 [zU 6 pc xs] (zU 6 pc (Wz xs)):=by
 refine zs Tryz.func32 ?_;refine zg ?_;refine zf VV ?_;refine zo (ze rfl rfl (zox (WB (.inr rfl) (.inr rfl) (.inr rfl)) (by rw [vt];exact hxl))) ?_;refine zg ?_
 exact zj (zu (e:=by rw [qE]))
theorem Ji {xs:List yE} {k:Int} (hxl:xs.length≤2000000000):zp Tryz.prog G 29 [intS .i64 k,zU 6 pc xs] (zU 6 pc (vy xs k false)):=by
 refine zs Tryz.func29 ?_;refine zr ?_;refine zz ?_;refine zJ ?_;refine zh ?_;refine zg ?_;refine zd (fun _ k7=>?_) fun _ k7=>?_
 ·obtain rfl:xs=[]:=List.eq_nil_of_length_eq_zero (by omega)
  refine zr ?_;refine zo ((yS rfl rfl).sub (show ∀I v,(eqS (.slice none 0 0)).den I v→(zU 6 pc (vy ([]:List yE) k false)).den I v from fun I v h=>by rw [Vf,show v= .slice none 0 0 from h];exact Wi)) ?_;refine zJ ?_
  exact zj zt
 ·have hpos:0<xs.length:=by omega
  obtain⟨_,_,_,hr1,hr2⟩:=zhg (z:=k) hpos
  refine zg ?_;refine zo ((zhf rfl rfl rfl (by omega))) ?_;refine zf VV ?_;refine zo (ze rfl rfl (zox (WB (.inl hr1) (.inl hr2) (.inl rfl)) (by rw [vt];exact hxl))) ?_;refine zg ?_
  exact zj (zu (e:=by rw [zd0]))
theorem zjp [Tab G] {xs:List yE} {n:Nat} (hn:0<n) (hl:∀ p∈xs,xQ n p) (hs:2*n+11000≤cap) (hxl:xs.length≤2000000000):zp Tryz.prog G 23 [zU 6 pc xs] (zU 6 yy (uh (xs.map pv))):=by
 have hR:(Yz xs 0 (-1)).map (fun p=>wB (pv p))=uh (xs.map pv):=by
  rw [qE];unfold uh;rw [←qD,List.map_map];rfl
 refine zs Tryz.func23 ?_;refine zr ?_;refine xg fun b2=>?_;refine zJ ?_;refine zh ?_;refine zP (yL 41 6) ?_;refine zg ?_;refine zf VV ?_;refine zg ?_
 refine ul rfl rfl (WB (.inr rfl) (.inr rfl) (.inr rfl)) (fun ss h=>zlM h) (by decide) rfl
  (fun k h i=>i=(0,false)∧k≤xs.length∧∃ q,yu q k∧h=[rowE q 41 6 k ((((Yz xs 0 (-1)).take k).map fun p=>wB (pv p)).flatMap yy),⟨some b2,22,[eqS (rowV q k)],0⟩])
  (fun _ _ _=>False) ⟨rfl,Nat.zero_le _,none,rfl,rfl⟩ ?_ ?_ ?_
 ·rintro l k' ss h i hk' ⟨rfl,hkl,q,hq,rfl⟩
  obtain⟨⟨⟨b1,l1,d1⟩,⟨c1,m1,e1⟩⟩,hx,rfl⟩:=zhl hk'
  have hlt:=yt hx
  rw [vt] at hlt
  have ho:=hl _ (zjl (List.mem_of_getElem? hx))
  have i1:=yY (b:=b1) ho.1 hn
  have i2:=yY (b:=c1) ho.2 hn
  have hms:=zhi (fun p=>wB (pv p)) hx
  refine zO ?_;refine xg fun b3=>?_;refine zw ?_;refine zJ ?_
  refine⟨rfl,?_⟩
  refine zQ ?_;refine vj 11 [9,10] _ (by kernel_rfl) (.cons_cons _ (.cons _ (.cons _ .slnil))) ?_;refine RunE.one (yn 2 rfl rfl rfl rfl) rfl rfl rfl (by kernel_rfl) ?_;refine RunE.one (zN rfl rfl rfl) rfl rfl rfl (by kernel_rfl) ?_;refine RunE.one ((show OpOK _ _ _ _ _ (zl [zm b1,zy l1,zy d1]) from zC 0 rfl rfl rfl (by kernel_rfl) rfl)) rfl rfl rfl (by kernel_rfl) ?_;refine RunE.one (ze rfl rfl (Qm (h:=i1) (by omega))) rfl rfl rfl (by kernel_rfl) ?_;refine RunE.one (zN rfl rfl rfl) rfl rfl rfl (by kernel_rfl) ?_;refine RunE.one ((show OpOK _ _ _ _ _ (zl [zm c1,zy m1,zy e1]) from zC 0 rfl rfl rfl (by kernel_rfl) rfl)) rfl rfl rfl (by kernel_rfl) ?_;refine RunE.one (ze rfl rfl (vh (h:=i2) (by omega))) rfl rfl rfl (by kernel_rfl) ?_;refine RunE.one ((show OpOK _ _ _ _ _ (zl (yy (wB (pv ((b1,l1,d1),(c1,m1,e1)))))) from yW rfl rfl (by kernel_rfl))) rfl rfl rfl (by kernel_rfl) ?_;refine RunE.one (zB rfl rfl (by decide) rfl (by simp) rfl rfl) rfl rfl rfl (by kernel_rfl) ?_
  refine RunE.nil ⟨_,rfl,?_⟩
  refine EffM.append 1 rfl rfl rfl rfl rfl rfl rfl hq (by rw [vO,List.length_map,List.length_take,vt];omega) (fun z hz=>by rw [List.mem_singleton.1 hz];rfl) (by unfold yP;simp;omega) (by unfold yP;simp;omega) fun q16 hq16=>⟨(.cons_cons _ (.cons _ (.cons _ .slnil))),?_⟩
  refine RunE.nil ⟨_,rfl,?_⟩
  refine .loc1n 2 (xI rfl rfl rfl rfl (by first | decide | (simp;done) | (simp;omega))) rfl rfl rfl ?_
  rintro s1 H1 ⟨rfl,rfl⟩
  refine⟨(.cons_cons _ (.cons _ (.cons _ .slnil))),?_⟩
  refine RunE.nil ?_;refine Run.ghost _ rfl (zY (List.sublist_cons_self _ _)) ?_;refine zJ ?_
  refine⟨rfl,by omega,q16,hq16,?_⟩
  rw [hms,List.flatMap_append];rfl
 ·rintro h i D ⟨rfl,_,q,hq,rfl⟩
  rw [zb8,vt] at hq ⊢
  rw [show ((Yz xs 0 (-1)).take xs.length).map (fun p=>wB (pv p))=uh (xs.map pv) by rw [List.take_of_length_le (by rw [vt];exact Nat.le_refl _)];exact hR]
  refine zP (uZ [] [] [] hq (l:=uh (xs.map pv)) (f:=yy) (by rw [WA,List.length_map]) rfl (fun _ _=>rfl) (by unfold yP;omega)) ?_;refine zg ?_
  exact zj zt
 ·intro h i D e c hc hInv;exact hInv.elim
end Go.Proofs
namespace Go.Sv
open Go Go.RowKit
def vZ {α:Type} (f:α→List SV) (d:Array α):List SV:=d.toList.flatMap f
section
variable {α:Type} {f:α→List SV} {st:Nat}
theorem vu (hf:∀ x,(f x).length=st):∀ l:List α,(l.flatMap f).length=l.length*st
 | []=>by simp
 | x::l=>by rw [List.flatMap_cons,List.length_append,vu hf l,hf,List.length_cons,Nat.succ_mul];omega
theorem zhm (hf:∀ x,(f x).length=st):∀ {l:List α} {i:Nat} {x:α},l[i]? =some x→((l.flatMap f).drop (i*st)).take st=f x
  | [],i,x,h=>by simp at h
  | y::l,0,x,h=>by
    simp at h;subst h
    rw [Nat.zero_mul,List.drop_zero,List.flatMap_cons]
    exact List.take_left' (hf y)
  | y::l,i+1,x,h=>by
    rw [List.getElem?_cons_succ] at h
    have e:(f y++l.flatMap f).drop ((i+1)*st)=(l.flatMap f).drop (i*st):=by
      rw [List.drop_append,List.drop_eq_nil_of_le (by rw [hf,Nat.succ_mul];omega),List.nil_append,hf,Nat.succ_mul,Nat.add_sub_cancel]
    rw [List.flatMap_cons,e];exact zhm hf h
theorem XK (a:List SV):∀ (ds b:List SV) (k:Nat),xM (a++b) (a.length+k) ds=a++xM b k ds
  | [],b,k=>rfl
  | x::ds,b,k=>by
    show xM ((a++b).set (a.length+k) x) (a.length+k+1) ds=a++xM (b.set k x) (k+1) ds
    rw [List.set_append_right _ _ (by omega),Nat.add_sub_cancel_left,Nat.add_assoc]
    exact XK a ds _ _
theorem Jj:∀ (c ds b:List SV),c.length=ds.length→xM (c++b) 0 ds=ds++b
  | [],[],b,_=>rfl
  | y::c,x::ds,b,h=>by
    show xM ((y::(c++b)).set 0 x) (0+1) ds=x::(ds++b)
    have e:xM ([x]++(c++b)) ([x].length+0) ds=[x]++xM (c++b) 0 ds:=XK [x] ds (c++b) 0
    rw [Jj c ds b (by simpa using h)] at e
    exact e
theorem qF (hf:∀ x,(f x).length=st) (y:α):∀ {l:List α} {i:Nat},i<l.length→xM (l.flatMap f) (i*st) (f y)=(l.set i y).flatMap f
  | [],i,h=>by simp at h
  | x::l,0,h=>by
    rw [Nat.zero_mul,List.flatMap_cons,List.set_cons_zero,List.flatMap_cons]
    exact Jj _ _ _ (by rw [hf,hf])
  | x::l,i+1,h=>by
    rw [List.flatMap_cons,List.set_cons_succ,List.flatMap_cons,←qF hf y (show i<l.length by simpa using h),←XK,hf,Nat.succ_mul,Nat.add_comm]
theorem zb9 (hf:∀ x,(f x).length=st) (d:Array α):(vZ f d).length=d.size*st:=by unfold vZ;rw [vu hf,Array.length_toList]
theorem znD (hf:∀ x,(f x).length=st) {d:Array α} {i:Nat} (hi:i<d.size) (y:α):xM (vZ f d) (i*st) (f y)=vZ f (d.setIfInBounds i y):=by
 unfold vZ
 rw [qF hf y (by rw [Array.length_toList];exact hi),Array.toList_setIfInBounds]
theorem zpm [Inhabited α] (hf:∀ x,(f x).length=st) {d:Array α} {i:Nat} (hi:i<d.size):((vZ f d).drop (i*st)).take st=f d[i]! :=
 zhm hf (by rw [getElem!_pos d i hi,Array.getElem?_toList,Array.getElem?_eq_getElem hi])
variable {P:Program} {G:Imm} {H:HL} {o:Oper} {g:List (Nat×SV)}
theorem yO [Inhabited α] (j:Nat) (hf:∀ x,(f x).length=st) {d:Array α} {i:Nat} (hi:i<d.size) {t:TypeId} [IsAgg P t st] {x:Operand} {b e k:Nat} (hop:o.op= .load t x) (hx:xd g x=some (eqS (.pointer (some ⟨b,i*st,none⟩)))) (hH:H[j]? =some ⟨some b,e,vZ f d,k⟩):OpOK P G H o g (zl (f d[i]!)):=
 zC j hop hx hH (zpm hf hi) (hf _)
theorem yG (i:Nat) {t e:TypeId} {s:Nat} [IsSl P t e s] {x ix:Operand} {b len cap:Nat} {z:Int} (hop:o.op= .indexAddr t x ix) (hx:xd g x=some (eqS (.slice (some ⟨b,0,none⟩) len cap))) (hi:xd g ix=some (intS .i64 z)) (hz:z=(i:Nat)) (h1:i<len):OpOK P G H o g (eqS (.pointer (some ⟨b,i*s,none⟩))):=
 vI hop hx hi (by omega) (by omega) (by subst hz;simp)
theorem wC (hf:∀ x,(f x).length=st) {d:Array α} {i:Nat} (hi:i<d.size) (v:α) {t:TypeId} [HasSize P t st] {x y:Operand} {b e k:Nat} (hop:o.op= .store t x y) (hx:xd g x=some (eqS (.pointer (some ⟨b,i*st,none⟩)))) (hy:xd g y=some (zl (f v))):
  OpL P G o g [⟨some b,e,vZ f d,k⟩] (fun s H'=>s=eqS undef∧H'=[⟨some b,e,vZ f (d.setIfInBounds i v),k⟩]):=by
 have h:=xI (P:=P) (G:=G) (e:=e) (k:=k) (cs:=vZ f d) hop hx hy (hf v) (by
  rw [hf,zb9 hf]
  have:=Nat.mul_le_mul_right st (show i+1≤d.size from hi)
  rw [Nat.succ_mul] at this;omega)
 rw [znD hf hi] at h
 exact h
variable {E:Env} {r:Option Nat} {gd:Nat→Option Nat} {p:Bool} {ops:List Oper} {K:St→Prop}
theorem Run.storeE (j:Nat) (hf:∀ x,(f x).length=st) {d:Array α} {i:Nat} (hi:i<d.size) (v:α) {n:Nat} {h:HL} {dd:List Nat} {ix:Nat×Bool} {t:TypeId} [HasSize P t st] {x y:Operand} {b e k:Nat} (hp:p=false) (hop:o.op= .store t x y) (hx:xd g x=some (eqS (.pointer (some ⟨b,i*st,none⟩)))) (hy:xd g y=some (zl (f v)))
  (hH:h[j]? =some ⟨some b,e,vZ f d,k⟩) (hd:o.dst=none) (hg:zH gd g o true) (hr:Run P G E r gd p ops ⟨n,g,wh h j [⟨some b,e,vZ f (d.setIfInBounds i v),k⟩],dd,ix⟩ K):Run P G E r gd p (o::ops) ⟨n,g,h,dd,ix⟩ K:=
 .loc (S:=⟨n,g,h,dd,ix⟩) hp (uk hH) (wC hf hi v hop hx hy) hg (by simp [dstOk,hd]) fun s H' ⟨_,e2⟩=>by
  subst e2;rw [hd];rw [vn hH] at hr;exact hr
end
end Go.Sv
namespace Num
open Go Go.Proofs
def Js (q:V2×V2):V2×V2:=(q.2,q.1)
def qsw (l:List (V2×V2)) (g:Nat):List (V2×V2):=(l.take g).map Js++l.drop g
theorem zhn {l:List (V2×V2)} {g:Nat} (h:g≤l.length):(qsw l g).length=l.length:=by unfold qsw;simp;omega
theorem znE (l:List (V2×V2)):qsw l l.length=l.map Js:=by unfold qsw;simp
theorem znF {l:List (V2×V2)} {g:Nat} {x:V2×V2} (h:l[g]? =some x):(qsw l g).toArray[g]! =x:=by
 obtain⟨hg,he⟩:=List.getElem?_eq_some_iff.1 h
 have hl:((l.take g).map Js).length=g:=by rw [List.length_map,List.length_take];omega
 have e:(qsw l g)[g]? =some x:=by
  unfold qsw
  rw [List.getElem?_append_right (by omega),hl,Nat.sub_self,List.getElem?_drop];exact h
 rw [getElem!_def]
 simp [e]
theorem znG {l:List (V2×V2)} {g:Nat} {x:V2×V2} (h:l[g]? =some x):((qsw l g).toArray.setIfInBounds g (Js x))=(qsw l (g+1)).toArray:=by
 obtain⟨hg,he⟩:=List.getElem?_eq_some_iff.1 h
 have hl:((l.take g).map Js).length=g:=by rw [List.length_map,List.length_take];omega
 rw [List.setIfInBounds_toArray]
 congr 1
 unfold qsw
 rw [List.set_append_right _ _ (by omega),hl,Nat.sub_self,List.drop_eq_getElem_cons hg,List.set_cons_zero,List.take_add_one,h]
 simp
end Num
namespace Go.Proofs
open Go Go.Sv Num
variable {G:Imm}
def Vm (q:QS):QS:=(uh q.1,q.2.1.map uh,q.2.2.map fun p=>(wB p.1,wB p.2))
def zca (q:QS):QS:=(q.1,q.2.1,q.2.2.map Js)
theorem za5 {s:Sc} {k n:Nat} (h:ScOk s k n) (hn:n≤1000000) {fr fw fp:FuncId} {ce cw cp:List SV} {R W:List RP→List V2} {Pp:RP→V2} (hR:zp Tryz.prog G fr ([zU 6 pc s.1]++ce) (zU 6 yy (R s.1))) (hW:∀ l∈s.2.1,zp Tryz.prog G fw ([zU 6 pc l]++cw) (zU 6 yy (W l))) (hP:∀ p:RP,xQ k p→zp Tryz.prog G fp ([zl (pc p)]++cp) (zl (yy (Pp p)))):zp Tryz.prog G 52 [zl (Yn s),zT [wp fr ce],zT [wp fw cw],zT [wp fp cp]] (zl (XV (R s.1,s.2.1.map W,(s.2.2.map fun q=>(Pp q.1,Pp q.2))))):=by
 have hsl:=h.row
 rw [ZI] at hsl
 refine zs Tryz.func52 ?_;refine zg ?_;refine xg fun b5=>?_;refine zg ?_;refine zo ((yI rfl rfl rfl hR)) ?_;refine zz ?_;refine xg fun b6=>?_;refine zw ?_;refine zJ ?_;refine zh ?_;refine zP (yL 22 1) ?_;refine zg ?_;refine yX (fun (g:Nat) (q:Option (Nat×Nat))=>⟨_,[(19,intS .i64 (g:Nat)),(18,intS .i64 s.2.1.length),(17,zU 1 XU s.2.1),(6,eqS (.pointer (some ⟨b6,0,none⟩))),(5,eqS (.pointer (some ⟨b5,0,none⟩))),(4,zT (Yn s)),(2,zT [wp fw cw]),(3,zT [wp fp cp])],[rowE q 22 1 g (((s.2.1.take g).map W).flatMap uo),⟨some b6,26,[zU 6 yy (R s.1),eqS (rowV q g),eqS (.slice none 0 0)],0⟩,⟨some b5,26,[eqS (.slice none 0 0),eqS (.slice none 0 0),eqS (.slice none 0 0)],0⟩],[],(0,false)⟩) (fun g q=>g≤s.2.1.length∧yu q g) (fun g _=>s.2.1.length-g) 0 none ⟨Nat.zero_le _,rfl⟩ (zL zk rfl) ?_
 rintro g q ⟨hg,hq⟩
 refine zr ?_;refine zz ?_;refine zJ ?_;refine zh ?_;refine zd (fun _ k20=>?_) fun _ k20=>?_
 ·obtain⟨row,hrow⟩:∃ row,s.2.1[g]? =some row:=⟨_,List.getElem?_eq_getElem (by omega)⟩
  have hms:=YW W hrow
  refine zE ?_;refine zh ?_;refine zg ?_;refine zo (zi rfl rfl rfl (by omega) (y:=row) (hrow)) ?_;refine zg ?_;refine vj 9 [6,8] _ (by kernel_rfl) (.cons _ (.cons _ (.cons_cons _ .slnil))) ?_;refine RunE.one (zN rfl rfl rfl) rfl rfl rfl (by kernel_rfl) ?_;refine RunE.one (yn 1 rfl rfl rfl rfl) rfl rfl rfl (by kernel_rfl) ?_;refine RunE.one (yN rfl rfl) rfl rfl rfl (by kernel_rfl) ?_;refine RunE.one (zG rfl rfl) rfl rfl rfl (by kernel_rfl) ?_;refine RunE.one ((yI rfl rfl rfl (hW row (List.mem_of_getElem? hrow)))) rfl rfl rfl (by kernel_rfl) ?_;refine RunE.one (zB rfl rfl (by decide) rfl (by simp) rfl rfl) rfl rfl rfl (by kernel_rfl) ?_
  refine RunE.nil ⟨_,rfl,?_⟩
  refine EffM.append 0 rfl rfl rfl rfl rfl rfl rfl hq (by rw [YU,List.length_map,List.length_take];omega) (fun z hz=>by rw [List.mem_singleton.1 hz];rfl) (by unfold yP;simp;omega) (by unfold yP;simp;omega) fun q29 hq29=>⟨(.cons _ (.cons _ (.cons_cons _ .slnil))),?_⟩
  refine RunE.one (zN rfl rfl rfl) rfl rfl rfl (by kernel_rfl) ?_
  refine RunE.nil ⟨_,rfl,?_⟩
  refine .loc1n 1 (xI rfl rfl rfl rfl (by first | decide | (simp;done) | (simp;omega))) rfl rfl rfl ?_
  rintro s1 H1 ⟨rfl,rfl⟩
  refine⟨(.cons _ (.cons _ (.cons_cons _ .slnil))),?_⟩
  refine RunE.nil ?_;refine zg ?_;refine za ((g+1:Nat):Int) ?_;refine zg ?_
  exact⟨g+1,q29,⟨by omega,hq29⟩,by omega,zL (zb rfl (zb rfl (zb rfl (zb rfl (zb rfl (zb rfl (zb rfl (zb rfl (trivial))))))))) (by rw [hms,List.flatMap_append];rfl)⟩
 ·obtain rfl:g=s.2.1.length:=by omega
  rw [List.take_length]
  refine zI ?_;refine zh ?_;refine zP (wN [_] [_] [] [] [_] hq (l:=s.2.1.map W) (f:=uo) (by simp) rfl (fun _ _=>rfl) (by unfold yP;omega)) ?_;refine zP (yL 43 12) ?_;refine zg ?_;refine yX (fun (g:Nat) (q:Option (Nat×Nat))=>⟨_,[(35,intS .i64 (g:Nat)),(34,intS .i64 s.2.2.length),(33,zU 12 Jo s.2.2),(6,eqS (.pointer (some ⟨b6,0,none⟩))),(5,eqS (.pointer (some ⟨b5,0,none⟩))),(3,zT [wp fp cp])],[rowE q 43 12 g (((s.2.2.take g).map fun q=>(Pp q.1,Pp q.2)).flatMap vX),⟨some b6,26,[zU 6 yy (R s.1),zU 1 uo (s.2.1.map W),eqS (rowV q g)],0⟩,⟨some b5,26,[eqS (.slice none 0 0),eqS (.slice none 0 0),eqS (.slice none 0 0)],0⟩],[],(0,false)⟩) (fun g q=>g≤s.2.2.length∧yu q g) (fun g _=>s.2.2.length-g) 0 none ⟨Nat.zero_le _,rfl⟩ (zL zk rfl) ?_
  rintro g q ⟨hg,hq⟩
  refine zr ?_;refine zz ?_;refine zJ ?_;refine zh ?_;refine zd (fun _ k36=>?_) fun _ k36=>?_
  ·obtain⟨⟨⟨⟨b1,l1,d1⟩,⟨c1,m1,e1⟩⟩,⟨⟨b2,l2,d2⟩,⟨c2,m2,e2⟩⟩⟩,hqu⟩:∃ p,s.2.2[g]? =some p:=⟨_,List.getElem?_eq_getElem (by omega)⟩
   have hpt:=h.pt _ (zbN (List.mem_of_getElem? hqu))
   have o1:=hpt ((b1,l1,d1),(c1,m1,e1)) (by simp)
   have o2:=hpt ((b2,l2,d2),(c2,m2,e2)) (by simp)
   have hms:=YW (fun q=>(Pp q.1,Pp q.2)) hqu
   refine zE ?_;refine zh ?_;refine zg ?_;refine zo (zi rfl rfl rfl (by omega) (y:=(((b1,l1,d1),(c1,m1,e1)),((b2,l2,d2),(c2,m2,e2)))) (hqu)) ?_;refine zz ?_;refine xg fun b10=>?_;refine zg ?_;refine vj 15 [12,14] _ (by kernel_rfl) (.cons_cons _ (.cons _ (.cons _ (.cons_cons _ .slnil)))) ?_;refine RunE.one (zN rfl rfl rfl) rfl rfl rfl (by kernel_rfl) ?_;refine RunE.one (yn 2 rfl rfl rfl rfl) rfl rfl rfl (by kernel_rfl) ?_;refine RunE.one (yN rfl rfl) rfl rfl rfl (by kernel_rfl) ?_;refine RunE.one (zN rfl rfl rfl) rfl rfl rfl (by kernel_rfl) ?_;refine RunE.one ((show OpOK _ _ _ _ _ (zl (pc ((b1,l1,d1),(c1,m1,e1)))) from zC 0 rfl rfl rfl rfl rfl)) rfl rfl rfl (by kernel_rfl) ?_;refine RunE.one ((yI rfl rfl rfl (hP _ o1))) rfl rfl rfl (by kernel_rfl) ?_;refine RunE.one (yN rfl rfl) rfl rfl rfl (by kernel_rfl) ?_;refine RunE.one (zN rfl rfl rfl) rfl rfl rfl (by kernel_rfl) ?_;refine RunE.one ((show OpOK _ _ _ _ _ (zl (pc ((b2,l2,d2),(c2,m2,e2)))) from zC 0 rfl rfl rfl rfl rfl)) rfl rfl rfl (by kernel_rfl) ?_;refine RunE.one ((yI rfl rfl rfl (hP _ o2))) rfl rfl rfl (by kernel_rfl) ?_;refine RunE.one (yW rfl rfl rfl) rfl rfl rfl (by kernel_rfl) ?_;refine RunE.one (zB rfl rfl (by decide) rfl (by simp) rfl rfl) rfl rfl rfl (by kernel_rfl) ?_
   refine RunE.nil ⟨_,rfl,?_⟩
   refine EffM.append 1 rfl rfl rfl rfl rfl rfl rfl hq (by rw [YV,List.length_map,List.length_take];omega) (fun z hz=>by rw [List.mem_singleton.1 hz];rfl) (by unfold yP;simp;omega) (by unfold yP;simp;omega) fun q51 hq51=>⟨(.cons_cons _ (.cons _ (.cons _ (.cons_cons _ .slnil)))),?_⟩
   refine RunE.one (zN rfl rfl rfl) rfl rfl rfl (by kernel_rfl) ?_
   refine RunE.nil ⟨_,rfl,?_⟩
   refine .loc1n 2 (xI rfl rfl rfl rfl (by first | decide | (simp;done) | (simp;omega))) rfl rfl rfl ?_
   rintro s1 H1 ⟨rfl,rfl⟩
   refine⟨(.cons_cons _ (.cons _ (.cons _ (.cons_cons _ .slnil)))),?_⟩
   refine RunE.nil ?_;refine zJ ?_;refine zP (zY (List.sublist_cons_self _ _)) ?_;refine zO ?_;refine za ((g+1:Nat):Int) ?_;refine zg ?_
   exact⟨g+1,q51,⟨by omega,hq51⟩,by omega,zL (zb rfl (zb rfl (zb rfl (zb rfl (zb rfl (zb rfl (trivial))))))) (by rw [hms,List.flatMap_append];rfl)⟩
  ·obtain rfl:g=s.2.2.length:=by omega
   rw [List.take_length]
   refine zI ?_;refine zP (wN [_,_] [] [] [] [_] hq (l:=(s.2.2.map fun q=>(Pp q.1,Pp q.2))) (f:=vX) (by simp) rfl (fun _ _=>rfl) (by unfold yP;omega)) ?_;refine zg ?_
   exact zj zt
theorem zd1 {a b c:SV} [One a] [One b] [One c]:zp Tryz.prog G 24 [a,b,c] (wp 52 [zT [a],zT [b],zT [c]]):=by
 refine zs Tryz.func24 ?_;refine zg ?_
 exact zj zt
theorem qG [Tab G] {xs:List yE} {n:Nat} (hn:0<n) (hl:∀ p∈xs,xQ n p) (hs:2*n+11000≤cap) (hxl:xs.length≤2000000000):zp Tryz.prog G 22 [zU 6 pc xs] (zU 6 yy (uh (xs.map pv))):=by
 refine zs Tryz.func22 ?_;refine zg ?_;refine zf (zjp hn hl hs hxl) ?_;refine zg ?_
 exact zj zt
theorem zf6 [Tab G] {p:RP} {n:Nat} (hn:0<n) (ho:xQ n p) (hs:2*n+11000≤cap):zp Tryz.prog G 25 [zl (pc p)] (zl (yy (wB (pv p)))):=by
 obtain⟨⟨b1,l1,d1⟩,⟨c1,m1,e1⟩⟩:=p
 have i1:=yY (b:=b1) ho.1 hn
 have i2:=yY (b:=c1) ho.2 hn
 refine zs Tryz.func25 ?_;refine zg ?_;refine xg fun b2=>?_;refine zJ ?_;refine zS 7 (by kernel_rfl) ?_;refine zg ?_;refine zo (ze rfl rfl (Qm (h:=i1) (by omega))) ?_;refine zg ?_;refine zo (ze rfl rfl (vh (h:=i2) (by omega))) ?_;refine zg ?_
 exact zj zt
theorem zcb {f:FuncId} (I:Imm) (v:Value) (h:(zT [eqS (.func (.func f) #[] #[])]).den I v):(zT [wp f []]).den I v:=by
 obtain⟨b,o,rfl,c,hc,h⟩:=h
 refine⟨b,o,rfl,c,hc,fun i t ht=>?_⟩
 cases i with
 | zero=>simp at ht;subst ht;obtain⟨x,h1,h2,h3⟩:=h 0 _ rfl;exact⟨x,h1,Zx I x h2,h3⟩
 | succ i=>simp at ht
theorem QA [Tab G] {s:Sc} {k n:Nat} (h:ScOk s k n) (hs:2*k+11000≤cap) (hn:n≤1000000):zp Tryz.prog G 8 [zl (Yn s)] (zl (XV (Vm (Yj s)))):=by
 have hrob:=h.pt _ (ux s)
 have hrl:=h.lrow (ux s)
 simp only at hrob hrl
 have hall:XV (Vm (Yj s))=XV (uh (s.1.map pv),s.2.1.map (fun l=>uh (l.map pv)),s.2.2.map fun q=>(wB (pv q.1),wB (pv q.2))):=by
  unfold Vm Yj Uy pv2;rw [List.map_map,List.map_map];rfl
 have hM:zp Tryz.prog G 52 [zl (Yn s),zT [eqS (.func (.func 22) #[] #[])],zT [eqS (.func (.func 22) #[] #[])],zT [eqS (.func (.func 25) #[] #[])]] (zl (XV (Vm (Yj s)))):=by
  rw [hall]
  exact (za5 (cw:=[]) (ce:=[]) (cp:=[]) (R:=fun l=>uh (l.map pv)) (W:=fun l=>uh (l.map pv)) (Pp:=fun p=>wB (pv p)) h hn (qG h.pos hrob hs (by omega)) (fun l hl=>qG h.pos (h.pt _ (uy hl)) hs (by have:=h.lrow (uy hl);simp only at this;omega)) (fun p hp=>zf6 h.pos hp hs)).args ⟨fun _ _ h=>h,zcb,zcb,zcb,trivial⟩
 refine zs Tryz.func8 ?_;refine zg ?_;refine xg fun b2=>?_;refine zg ?_;refine zS 5 (by kernel_rfl) ?_;refine zg ?_;refine zo (ze rfl rfl (zd1 (a:=eqS (.func (.func 22) #[] #[])) (b:=eqS (.func (.func 22) #[] #[])) (c:=eqS (.func (.func 25) #[] #[])))) ?_;refine zz ?_;refine zo ((yI rfl rfl rfl hM)) ?_;refine zg ?_
 exact zj zt
end Go.Proofs
namespace Num
open Go Go.Proofs
def Vn {α:Type} (rows:List (List α)) (k:Int) (j:Nat):List α:=
 if j%2=0 then Wz (vy (rows.getD (rows.length-1-j) []) (IntKind.i64.wrap (k+(j:Int))) false) else vy (rows.getD (rows.length-1-j) []) (IntKind.i64.wrap (k+(j:Int))) false
def YA (s:Sc) (k:Int):Sc:=(vy s.1 k false,Vk s.2.1.length (Vn s.2.1 k),s.2.2)
end Num
namespace Go.Proofs
open Go Go.Sv Num
variable {G:Imm}
theorem zpn {l:List (RP×RP)} (hl:l.length≤2000000000):zp Tryz.prog G 30 [zU 12 Jo l] (zU 12 Jo l):=by
 refine zs Tryz.func30 ?_;refine zr ?_;refine zz ?_;refine zJ ?_;refine zh ?_;refine zg ?_;refine zo (YF rfl rfl rfl) ?_;refine zJ ?_;refine Qa rfl rfl (fun hc1=>?_) ?_
 ·refine zr ?_;refine zo ((yS rfl rfl).sub (show ∀I v,(eqS (.slice none 0 0)).den I v→(zU 12 Jo l).den I v from fun I v h=>by rw [hc1,show v= .slice none 0 0 from h];exact Wi)) ?_;refine zJ ?_
  exact zj zt
 ·refine zg ?_;refine Run.buildRow rfl rfl rfl rfl rfl rfl (by decide) rfl (.inl rfl) rfl rfl fun b5 hb5=>?_;refine zz ?_;refine Run.append 0 rfl rfl rfl rfl rfl rfl rfl rfl hb5 rfl (fun _ _=>rfl) (by unfold yP;omega) (by unfold yP;omega) fun q7 hq7=>?_;refine Run.ghost _ rfl (yU 0 7 rfl rfl hq7 (l:=l) (f:=Jo) (by omega) rfl (fun _ _=>rfl) (by unfold yP;omega)) ?_;refine zg ?_
  exact zj zt
def qH (rows:List (List RP)):List (List SV):=(List.range rows.length).map fun i=>[intS .i64 (rows.length-1-i:Nat),zU 6 pc (rows.getD (rows.length-1-i) [])]
theorem XL {l:List (List RP)}:(qH l).length=l.length:=by simp [qH]
theorem za6 {l:List (List RP)} {i:Nat} (h:i<l.length):(qH l)[i]? =some [intS .i64 (l.length-1-i:Nat),zU 6 pc (l.getD (l.length-1-i) [])]:=by
 simp only [qH,List.getElem?_map,List.getElem?_range h,Option.map_some]
theorem zjq {l:List (List RP)} {i:Nat} {ss:List SV} (h:(qH l)[i]? =some ss):i<l.length∧ss=[intS .i64 (l.length-1-i:Nat),zU 6 pc (l.getD (l.length-1-i) [])]:=by
 have h1:i<l.length:=by have:=yt h;rwa [XL] at this
 refine⟨h1,?_⟩
 rw [za6 h1] at h;exact (Option.some.inj h).symm
theorem zlN {l:List (List RP)} {ss:List SV} (h:ss∈qH l):ss.length=2:=by
 obtain⟨i,_,rfl⟩:=List.mem_map.1 h;rfl
theorem zjr [Tab G] {s:Sc} {k n:Nat} (h:ScOk s k n) (hs:2*k+11000≤cap) (hn:n≤1000000):CallSpec Tryz.prog G 28 [zl (Yn s)] [] (fun v H'=>∃ q,yu q s.2.2.length∧v=zl [zU 6 yy (Uy s.1),zU 1 uo (s.2.1.map Uy),eqS (rowV q s.2.2.length)]∧H'=[rowE q 43 12 s.2.2.length ((s.2.2.map pv2).flatMap vX)]):=by
 unfold cap at hs
 have hrob:=h.pt _ (ux s)
 have hrl:=h.lrow (ux s)
 have hsl:=h.row
 rw [ZI] at hsl
 simp only at hrob hrl
 refine zs Tryz.func28 ?_;refine zr ?_;refine zz ?_;refine xg fun b2=>?_;refine zx ?_;(iterate 2 refine zz ?_);refine zo (ze rfl rfl (vE h.pos hrob (by unfold cap;omega) (by unfold cap;omega))) ?_;refine zz ?_;refine xg fun b3=>?_;refine zw ?_;refine zJ ?_;refine zh ?_;refine zP (yL 22 1) ?_;refine zr ?_;(iterate 4 refine zz ?_);refine zJ ?_;refine zQ ?_;refine yX (fun (g:Nat) (q:Option (Nat×Nat))=>⟨_,[(16,intS .i64 (g:Nat)),(15,intS .i64 s.2.1.length),(14,zU 1 XU s.2.1),(3,eqS (.pointer (some ⟨b3,0,none⟩))),(2,eqS (.pointer (some ⟨b2,0,none⟩))),(1,zT (Yn s))],[rowE q 22 1 g (((s.2.1.take g).map Uy).flatMap uo),⟨some b3,26,[zU 6 yy (Uy s.1),eqS (rowV q g),eqS (.slice none 0 0)],0⟩,⟨some b2,26,[eqS (.slice none 0 0),eqS (.slice none 0 0),eqS (.slice none 0 0)],0⟩],[],(0,false)⟩) (fun g q=>g≤s.2.1.length∧yu q g) (fun g _=>s.2.1.length-g) 0 none ⟨Nat.zero_le _,rfl⟩ (zL zk rfl) ?_
 rintro g q ⟨hg,hq⟩
 refine zr ?_;refine zz ?_;refine zJ ?_;refine zh ?_;refine wE (fun h17=>?_) fun h17=>?_
 ·have k17:=of_decide_eq_true h17
  obtain⟨row,hrow⟩:∃ row,s.2.1[g]? =some row:=⟨_,List.getElem?_eq_getElem (by omega)⟩
  have hpt:=h.pt _ (uy (List.mem_of_getElem? hrow))
  have hln:=h.lrow (uy (List.mem_of_getElem? hrow))
  have hms:=YW Uy hrow
  simp only at hpt hln
  refine zE ?_;refine zh ?_;refine zQ ?_;refine zr ?_;refine zo (zi rfl rfl rfl (by omega) (y:=row) (hrow)) ?_;(iterate 2 refine zz ?_);refine zJ ?_;refine vj 8 [5,7] _ (by kernel_rfl) (.cons _ (.cons _ (.cons_cons _ .slnil))) ?_;refine RunE.one (zN rfl rfl rfl) rfl rfl rfl (by kernel_rfl) ?_;refine RunE.one (yn 1 rfl rfl rfl rfl) rfl rfl rfl (by kernel_rfl) ?_;refine RunE.one (zG rfl rfl) rfl rfl rfl (by kernel_rfl) ?_;refine RunE.one (ze rfl rfl (vE h.pos hpt (by unfold cap;omega) (by unfold cap;omega))) rfl rfl rfl (by kernel_rfl) ?_;refine RunE.one (zB rfl rfl (by decide) rfl (by simp) rfl rfl) rfl rfl rfl (by kernel_rfl) ?_
  refine RunE.nil ⟨_,rfl,?_⟩
  refine EffM.append 0 rfl rfl rfl rfl rfl rfl rfl hq (by rw [YU,List.length_map,List.length_take];omega) (fun z hz=>by rw [List.mem_singleton.1 hz];rfl) (by unfold yP;simp;omega) (by unfold yP;simp;omega) fun q25 hq25=>⟨(.cons _ (.cons _ (.cons_cons _ .slnil))),?_⟩
  refine RunE.one (zN rfl rfl rfl) rfl rfl rfl (by kernel_rfl) ?_
  refine RunE.nil ⟨_,rfl,?_⟩
  refine .loc1n 1 (xI rfl rfl rfl rfl (by first | decide | (simp;done) | (simp;omega))) rfl rfl rfl ?_
  rintro s1 H1 ⟨rfl,rfl⟩
  refine⟨(.cons _ (.cons _ (.cons_cons _ .slnil))),?_⟩
  refine RunE.nil ?_;refine zJ ?_;refine zO ?_;refine za ((g+1:Nat):Int) ?_;refine zz ?_;refine zJ ?_
  exact⟨g+1,q25,⟨by omega,hq25⟩,by omega,zL (zb rfl (zb rfl (zb rfl (zb rfl (zb rfl (zb rfl (trivial))))))) (by rw [hms,List.flatMap_append];rfl)⟩
 ·have k17:=of_decide_eq_false h17
  obtain rfl:g=s.2.1.length:=by omega
  rw [List.take_length]
  refine zI ?_;refine zh ?_;refine zP (wN [_] [_] [] [] [_] hq (l:=s.2.1.map Uy) (f:=uo) (by simp) rfl (fun _ _=>rfl) (by unfold yP;omega)) ?_;refine zP (yL 43 12) ?_;refine zr ?_;(iterate 4 refine zz ?_);refine zJ ?_;refine zQ ?_;refine yX (fun (g:Nat) (q:Option (Nat×Nat))=>⟨_,[(31,intS .i64 (g:Nat)),(30,intS .i64 s.2.2.length),(29,zU 12 Jo s.2.2),(3,eqS (.pointer (some ⟨b3,0,none⟩))),(2,eqS (.pointer (some ⟨b2,0,none⟩)))],[rowE q 43 12 g (((s.2.2.take g).map pv2).flatMap vX),⟨some b3,26,[zU 6 yy (Uy s.1),zU 1 uo (s.2.1.map Uy),eqS (rowV q g)],0⟩,⟨some b2,26,[eqS (.slice none 0 0),eqS (.slice none 0 0),eqS (.slice none 0 0)],0⟩],[],(0,false)⟩) (fun g q=>g≤s.2.2.length∧yu q g) (fun g _=>s.2.2.length-g) 0 none ⟨Nat.zero_le _,rfl⟩ (zL zk rfl) ?_
  rintro g q ⟨hg,hq⟩
  refine zr ?_;refine zz ?_;refine zJ ?_;refine zh ?_;refine wE (fun h32=>?_) fun h32=>?_
  ·have k32:=of_decide_eq_true h32
   obtain⟨⟨⟨⟨b1,l1,d1⟩,⟨c1,m1,e1⟩⟩,⟨⟨b2,l2,d2⟩,⟨c2,m2,e2⟩⟩⟩,hqu⟩:∃ p,s.2.2[g]? =some p:=⟨_,List.getElem?_eq_getElem (by omega)⟩
   have hpt:=h.pt _ (zbN (List.mem_of_getElem? hqu))
   have hms:=YW pv2 hqu
   simp only at hpt
   refine zE ?_;refine zh ?_;refine zQ ?_;refine zr ?_;refine zo (zi rfl rfl rfl (by omega) (y:=(((b1,l1,d1),(c1,m1,e1)),((b2,l2,d2),(c2,m2,e2)))) (hqu)) ?_;refine zo ((show OpOK _ _ _ _ _ (zl (Jo (((b1,l1,d1),(c1,m1,e1)),((b2,l2,d2),(c2,m2,e2))))) from zF rfl rfl rfl rfl)) ?_;refine xg fun b7=>?_;refine zw ?_;refine zx ?_;refine zz ?_;refine zo ((show OpOK _ _ _ _ _ (zl (pc ((b1,l1,d1),(c1,m1,e1)))) from zC 0 rfl rfl rfl rfl rfl)) ?_;refine zz ?_;refine zo ((show OpOK _ _ _ _ _ (zl (pc ((b2,l2,d2),(c2,m2,e2)))) from zC 0 rfl rfl rfl rfl rfl)) ?_;refine zo (zB rfl rfl (by decide) rfl (by simp) rfl rfl) ?_;refine zo (ze rfl rfl ((vE (xs:=[((b1,l1,d1),(c1,m1,e1)),((b2,l2,d2),(c2,m2,e2))]) h.pos hpt (by unfold cap;omega) (by unfold cap;simp)).args ⟨fun I v h=>sl_map (f:=pc) (l:=[((b1,l1,d1),(c1,m1,e1)),((b2,l2,d2),(c2,m2,e2))]) h,trivial⟩)) ?_;refine zz ?_;refine zJ ?_;refine vj 13 [10,12] _ (by kernel_rfl) (.cons_cons _ (.cons _ (.cons _ (.cons_cons _ .slnil)))) ?_;refine RunE.one (zN rfl rfl rfl) rfl rfl rfl (by kernel_rfl) ?_;refine RunE.one (yn 2 rfl rfl rfl rfl) rfl rfl rfl (by kernel_rfl) ?_;refine RunE.one (zG rfl rfl) rfl rfl rfl (by kernel_rfl) ?_;refine RunE.one (zi rfl rfl rfl (by omega) (y:=pv ((b1,l1,d1),(c1,m1,e1))) (rfl)) rfl rfl rfl (by kernel_rfl) ?_;refine RunE.one ((show OpOK _ _ _ _ _ (zl (yy (pv ((b1,l1,d1),(c1,m1,e1))))) from zF rfl rfl rfl rfl)) rfl rfl rfl (by kernel_rfl) ?_;refine RunE.one (zG rfl rfl) rfl rfl rfl (by kernel_rfl) ?_;refine RunE.one (zi rfl rfl rfl (by omega) (y:=pv ((b2,l2,d2),(c2,m2,e2))) (rfl)) rfl rfl rfl (by kernel_rfl) ?_;refine RunE.one ((show OpOK _ _ _ _ _ (zl (yy (pv ((b2,l2,d2),(c2,m2,e2))))) from zF rfl rfl rfl rfl)) rfl rfl rfl (by kernel_rfl) ?_;refine RunE.one (yW rfl rfl rfl) rfl rfl rfl (by kernel_rfl) ?_;refine RunE.one (zB rfl rfl (by decide) rfl (by simp) rfl rfl) rfl rfl rfl (by kernel_rfl) ?_
   refine RunE.nil ⟨_,rfl,?_⟩
   refine EffM.append 1 rfl rfl rfl rfl rfl rfl rfl hq (by rw [YV,List.length_map,List.length_take];omega) (fun z hz=>by rw [List.mem_singleton.1 hz];rfl) (by unfold yP;simp;omega) (by unfold yP;simp;omega) fun q51 hq51=>⟨(.cons_cons _ (.cons _ (.cons _ (.cons_cons _ .slnil)))),?_⟩
   refine RunE.one (zN rfl rfl rfl) rfl rfl rfl (by kernel_rfl) ?_
   refine RunE.nil ⟨_,rfl,?_⟩
   refine .loc1n 2 (xI rfl rfl rfl rfl (by first | decide | (simp;done) | (simp;omega))) rfl rfl rfl ?_
   rintro s1 H1 ⟨rfl,rfl⟩
   refine⟨(.cons_cons _ (.cons _ (.cons _ (.cons_cons _ .slnil)))),?_⟩
   refine RunE.nil ?_;refine zJ ?_;refine zP (zY (List.sublist_cons_self _ _)) ?_;refine zO ?_;refine za ((g+1:Nat):Int) ?_;refine zz ?_;refine zJ ?_
   exact⟨g+1,q51,⟨by omega,hq51⟩,by omega,zL (zb rfl (zb rfl (zb rfl (zb rfl (zb rfl (trivial)))))) (by rw [hms,List.flatMap_append];rfl)⟩
  ·have k32:=of_decide_eq_false h32
   obtain rfl:g=s.2.2.length:=by omega
   rw [List.take_length]
   refine zI ?_;refine zr ?_;refine zz ?_;refine zw ?_;refine zJ ?_;refine zj ?_
   exact⟨_,[_],.one (.agg 2 inferInstance rfl rfl rfl rfl),(List.nil_sublist _).cons_cons _,q,hq,rfl,rfl⟩
theorem qI [Tab G] {s:Sc} {k n:Nat} (h:ScOk s k n) (hs:2*k+11000≤cap) (hn:n≤1000000):zp Tryz.prog G 9 [zl (Yn s)] (zl (XV (zca (Yj s)))):=by
 have hsl:=h.row
 rw [ZI] at hsl
 have hNl:(s.2.2.map pv2).length=s.2.2.length:=List.length_map _
 refine zs Tryz.func9 ?_;refine zr ?_;refine zz ?_;refine xg fun b2=>?_;refine zx ?_;refine zo ((show OpOK _ _ _ _ _ (zl (Yn s)) from zF rfl rfl rfl rfl)) ?_;refine Run.callH [] [] [_] rfl rfl rfl rfl (zjr h hs hn) rfl rfl rfl ?_
 rintro s7 H7 ⟨q,hq,rfl,rfl⟩
 refine xg fun b3=>?_;refine zw ?_;refine zJ ?_;refine zh ?_;refine zr ?_;(iterate 2 refine zz ?_);refine zo (xK rfl rfl hq) ?_;refine zz ?_;refine zJ ?_;refine zQ ?_;refine yK (γ:=Nat) (fun g=>⟨_,[(11,intS .i64 (g:Nat)),(10,intS .i64 s.2.2.length),(9,eqS (rowV q s.2.2.length)),(3,eqS (.pointer (some ⟨b3,0,none⟩))),(2,eqS (.pointer (some ⟨b2,0,none⟩)))],[⟨some b3,26,[zU 6 yy (Uy s.1),zU 1 uo (s.2.1.map Uy),eqS (rowV q s.2.2.length)],0⟩,rowE q 43 12 s.2.2.length ((qsw (s.2.2.map pv2) g).flatMap vX),⟨some b2,26,[eqS (.slice none 0 0),eqS (.slice none 0 0),eqS (.slice none 0 0)],0⟩],[],(0,false)⟩) (fun g=>g≤s.2.2.length) (fun g=>s.2.2.length-g) 0 (Nat.zero_le _) (zL zk rfl) ?_
 intro g hg
 refine zr ?_;refine zz ?_;refine zJ ?_;refine zh ?_;refine wE (fun h12=>?_) fun h12=>?_
 ·have k12:=of_decide_eq_true h12
  obtain⟨x,hx⟩:∃ x,(s.2.2.map pv2)[g]? =some x:=⟨_,List.getElem?_eq_getElem (by omega)⟩
  have hdg:=znF hx
  have hds:=znG hx
  obtain⟨⟨bb,cc⟩,rfl⟩:∃ p,q=some p:=by
   cases q with
   | none=>exact absurd (show s.2.2.length=0 from hq) (by omega)
   | some p=>exact⟨p,rfl⟩
  refine zE ?_;refine zh ?_;refine zQ ?_;refine zr ?_;refine zz ?_;refine zo ((yG g rfl rfl rfl rfl (by omega))) ?_
  refine zo ((show OpOK _ _ _ _ _ (zl (vX x)) from by rw [←hdg];exact yO 1 (f:=vX) (fun _=>rfl) (by rw [List.size_toArray,zhn (by rw [hNl];omega),hNl];omega) rfl rfl rfl)) ?_
  refine xg fun b5=>?_;refine zz ?_;refine zw ?_;refine zJ ?_;refine zO ?_;(iterate 4 refine zz ?_);refine zo ((show OpOK _ _ _ _ _ (zl (yy x.2)) from zC 0 rfl rfl rfl (by kernel_rfl) rfl)) ?_;refine zz ?_;refine zo ((show OpOK _ _ _ _ _ (zl (yy x.1)) from zC 0 rfl rfl rfl (by kernel_rfl) rfl)) ?_;refine zo ((show OpOK _ _ _ _ _ (zl (vX (Js x))) from yW rfl rfl (by kernel_rfl))) ?_;refine zo ((yG g rfl rfl rfl rfl (by omega))) ?_;refine Run.storeE 2 (fun _=>rfl) (d:=(qsw (s.2.2.map pv2) g).toArray) (f:=vX) (by rw [List.size_toArray,zhn (by rw [hNl];omega),hNl];omega) (Js x) rfl rfl rfl rfl rfl rfl rfl ?_;refine zJ ?_;refine zP (zY (List.sublist_cons_self _ _)) ?_;refine zO ?_;refine za ((g+1:Nat):Int) ?_;refine zz ?_;refine zJ ?_
  exact⟨g+1,(by omega:g+1≤s.2.2.length),by omega,zL (zb rfl (zb rfl (zb rfl (zb rfl (zb rfl (trivial)))))) (by rw [hds];rfl)⟩
 ·have k12:=of_decide_eq_false h12
  obtain rfl:g=s.2.2.length:=by omega
  have hqa:=znE (s.2.2.map pv2)
  rw [hNl] at hqa
  rw [hqa]
  refine zI ?_;refine zP (Zd (List.Perm.swap _ _ _)) ?_;refine zP (wN [_,_] [] [] [] [_] hq (l:=(s.2.2.map pv2).map Js) (f:=vX) (by rw [List.length_map,hNl]) rfl (fun _ _=>rfl) (by unfold yP;omega)) ?_;refine zr ?_;refine zz ?_;refine zw ?_;refine zJ ?_;refine zj ?_
  exact⟨_,[],.one (.agg 1 inferInstance rfl rfl rfl rfl),List.nil_sublist _,rfl,rfl⟩
theorem zd2 {a:List (List RP)} (hal:a.length≤2000000000):IterSpec Tryz.prog G 57 [zT [zU 1 XU a]] (qH a):=by
 refine xH Tryz.func57 rfl rfl rfl rfl fun l E hy=>?_;refine zg ?_;refine zo (yA (z:=((a.length:Nat):Int)-1) rfl rfl rfl (congrArg some (by omega)) (wrap_i64 (by omega) (by omega))) ?_;refine zz ?_;refine zJ ?_;refine zQ ?_;refine wT 4 rfl fun la=>?_
 unfold yP at la
 refine yK (γ:=Nat) (fun g=>⟨_,[(3,intS .i64 ((g:Int)-1)),(0,yieldS l),(1,zT [zU 1 XU a])],[],[],(a.length-g,false)⟩) (fun g=>g≤a.length) (fun g=>g) a.length (Nat.le_refl _) ⟨rfl,zb rfl (zb rfl (zb rfl trivial)),xp _,rfl,by simp⟩ ?_
 intro g hg
 refine zh ?_;refine zg ?_;refine zd (fun _ k8=>?_) fun _ k8=>?_
 ·refine zE ?_;refine zh ?_;refine zQ ?_;refine zr ?_;refine zz ?_;refine zo ((zG rfl rfl).sub (zD (show (g:Int)-1=((g-1:Nat):Int) by omega))) ?_;refine zz ?_;refine zo ((zG rfl rfl).sub (zD (show (g:Int)-1=((g-1:Nat):Int) by omega))) ?_;refine zo (zi rfl rfl rfl (by omega) (y:=a.getD (g-1) []) (by rw [List.getD_eq_getElem?_getD,Int.toNat_natCast,List.getElem?_eq_getElem (by omega)];rfl)) ?_;refine zz ?_;refine Run.yield rfl hy rfl rfl rfl (by rw [za6 (by omega),show a.length-1-(a.length-g)=g-1 by omega]) (xi _) rfl rfl rfl fun y=>?_;refine zg ?_;refine wE (fun h18=>?_) fun h18=>?_
  ·refine zj ?_
   exact⟨.inl rfl,.inr h18⟩
  ·refine zg ?_;refine zA ?_;refine zg ?_
   exact⟨g-1,(by omega:g-1≤a.length),by omega,rfl,xk rfl (congrArg (intS .i64) (by omega)) (zb rfl (zb rfl trivial)),xp _,rfl,by simp only;rw [h18,show a.length-(g-1)=a.length-g+1 by omega]⟩
 ·refine zI ?_
  exact⟨.inr rfl,.inl (by rw [XL,show g=0 by omega];rfl)⟩
theorem zf7 {a:List (List RP)}:zp Tryz.prog G 31 [zU 1 XU a] (wp 57 [zT [zU 1 XU a]]):=by
 refine zs Tryz.func31 ?_;refine zg ?_
 exact zj zt
theorem qJ {s:Sc} {k n:Nat} {k0:Int} (h:ScOk s k n) (hn:n≤1000000):zp Tryz.prog G 10 [zl (Yn s),intS .i64 k0] (zl (Yn (YA s k0))):=by
 have hsl:=h.row
 rw [ZI] at hsl
 have hrl:=h.lrow (ux s)
 simp only at hrl
 refine zs Tryz.func10 ?_;refine zg ?_;refine xg fun b4=>?_;refine zJ ?_;refine Yc 8 (by kernel_rfl) rfl rfl ?_;refine RunE.lat (yN rfl rfl) rfl rfl rfl ?_;refine RunE.lat (zX rfl rfl rfl) rfl rfl rfl ?_;refine RunE.lat (yN rfl rfl) rfl rfl rfl ?_;refine RunE.lat (ze rfl rfl (Ji (by omega))) rfl rfl rfl ?_;refine RunE.lat (zX rfl rfl rfl) rfl rfl rfl ?_;refine RunE.lat (yN rfl rfl) rfl rfl rfl ?_;refine RunE.lat (ze rfl rfl (zpn (by omega))) rfl rfl rfl ?_;refine RunE.lat (yW rfl rfl rfl) rfl rfl rfl ?_;refine RunE.nil ?_;refine EffAA.mk1 rfl rfl rfl rfl rfl rfl rfl rfl (by intro h;cases h) rfl rfl rfl fun b5=>?_;refine zJ ?_;refine zh ?_;refine zP (yL 22 1) ?_;refine zg ?_;refine zf zf7 ?_;refine zg ?_
 refine ul rfl rfl (zd2 (by omega)) (fun ss h=>zlN h) (by decide) rfl
  (fun k h i=>i=(0,false)∧k≤s.2.1.length∧∃ q,yu q k∧h=[rowE q 22 1 k ((Vk k (Vn s.2.1 k0)).flatMap XU),⟨some b5,26,[zU 6 pc (vy s.1 k0 false),eqS (rowV q k),zU 12 Jo s.2.2],0⟩,⟨some b4,26,[eqS (.slice none 0 0),eqS (.slice none 0 0),eqS (.slice none 0 0)],0⟩])
  (fun _ _ _=>False) ⟨rfl,Nat.zero_le _,none,rfl,rfl⟩ ?_ ?_ ?_
 ·rintro l j ss hh i hk' ⟨rfl,hkl,q,hq,rfl⟩
  obtain⟨hlt,rfl⟩:=zjq hk'
  have hmem:s.2.1.getD (s.2.1.length-1-j) []∈s.2.1:=by
   rw [List.getD_eq_getElem?_getD,List.getElem?_eq_getElem (by omega)];exact List.getElem_mem _
  have hln:=h.lrow (uy hmem)
  simp only at hln
  refine zO ?_;refine zz ?_;refine zJ ?_
  refine⟨rfl,?_⟩
  refine zg ?_;refine zo (xK rfl rfl hq) ?_;refine zg ?_;refine zo ((wX rfl rfl rfl rfl)) ?_;refine zz ?_;refine zo (ze rfl rfl (Ji (by omega))) ?_;refine zz ?_;refine zJ ?_;refine xS (K:=fun S1=>Ent S1 (⟨42,[(7,zU 6 pc (Vn s.2.1 k0 j)),(5,eqS (.pointer (some ⟨b5,0,none⟩))),(4,eqS (.pointer (some ⟨b4,0,none⟩))),(3,zT [intS .i64 k0]),(2,zT (Yn s))],[rowE q 22 1 j ((Vk j (Vn s.2.1 k0)).flatMap XU),⟨some b5,26,[zU 6 pc (vy s.1 k0 false),eqS (rowV q j),zU 12 Jo s.2.2],0⟩,⟨some b4,26,[eqS (.slice none 0 0),eqS (.slice none 0 0),eqS (.slice none 0 0)],0⟩],[],(0,false)⟩)) ?_ ?_
  ·refine zg ?_;refine zo ((wV rfl rfl rfl (by omega) (by omega))) ?_;refine zg ?_;refine zd (fun _ k32=>?_) fun _ k32=>?_
   ·refine zg ?_;refine zo (ze rfl rfl (zjo (by rw [vd];omega))) ?_;refine zg ?_
    exact zL (xk rfl (congrArg (zU 6 pc) (by unfold Vn;rw [if_pos (by omega)])) (zb rfl (zb rfl (zb rfl (zb rfl (trivial)))))) rfl
   ·refine zE ?_
    exact zL (xk rfl (congrArg (zU 6 pc) (by unfold Vn;rw [if_neg (by omega)])) (zb rfl (zb rfl (zb rfl (zb rfl (trivial)))))) rfl
  ·intro S1 hS1
   refine wG hS1 ?_;refine zg ?_;refine zo (zB rfl rfl (by decide) rfl (by simp) rfl rfl) ?_;refine Run.append 0 rfl rfl rfl rfl rfl rfl rfl rfl hq (by rw [zhh,Zp]) (fun z hz=>by rw [List.mem_singleton.1 hz];rfl) (by unfold yP;simp;omega) (by unfold yP;simp;omega) fun q39 hq39=>?_;refine zz ?_;refine zw ?_;refine zJ ?_
   refine⟨rfl,by omega,q39,hq39,?_⟩
   rw [ziZ,List.flatMap_append];rfl
 ·rintro hh i D ⟨rfl,_,q,hq,rfl⟩
  rw [XL] at hq ⊢
  refine zP (wN [_] [_] [] [] [_] hq (l:=Vk s.2.1.length (Vn s.2.1 k0)) (f:=XU) (by rw [Zp]) rfl (fun _ _=>rfl) (by unfold yP;omega)) ?_;refine zg ?_
  exact zj zt
 ·intro h i D e c hc hInv;exact hInv.elim
end Go.Proofs
