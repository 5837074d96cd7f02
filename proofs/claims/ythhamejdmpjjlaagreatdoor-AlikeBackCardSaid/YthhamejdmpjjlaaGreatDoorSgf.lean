/- Polygons: their edges, each two of these, whether they are simple. -/
import Derived.Test.YthhamejdmpjjlaaGreatDoorSgb
import Derived.Test.YthhamejdmpjjlaaGreatDoorSsd
import Derived.Test.YthhamejdmpjjlaaGreatDoorSv1
import Derived.Test.YthhamejdmpjjlaaGreatDoorScg
namespace Go.Sv
open Go Go.RowKit
theorem zlz {P:Program} {G:Imm} {H:HL} {o:Oper} {g:List (Nat×SV)} {st ft k:Nat} {fs:Array Field} {f:Field} {x:Operand} {cs:List SV} {s:SV} [IsScalar P ft] (hu:P.underlying st=some (.struct fs)) (hf:fs[k]? =some f) (hft:f.type=ft) (hop:o.op= .field st x k) (hx:xd g x=some (zl cs)) (hd:cs[f.offset]? =some s):OpOK P G H o g s:=
 yC (by simp [hop]) fun I W a _ _ hr=>by
  obtain⟨xs,hv,hxs,h1⟩:=hr.get (by simp [hop,Op.operands]) hx
  obtain⟨d,hd',hm⟩:=IsScalar.h (P:=P) (t:=ft)
  have h2:(isAgg ft).run P W= .ok false W:=by
   unfold isAgg;simp only [Sem.run_bind,run_underlying hd',Result.andThen_ok]
   cases d <;> simp_all
  obtain⟨y,hy,hys⟩:=hxs.get hd
  have h4:xs.toArray[f.offset]? =some y:=by simp [hy]
  refine⟨y,?_,hys⟩
  simp only [execOp,hop,hv,Instr.field,Sem.run_bind,run_underlying hu,Result.andThen_ok,hf,asAgg,Sem.run_pure,part,hft,h2,h4,if_false,Bool.false_eq_true]
instance {l:Nat}:One (yieldS l):=⟨Zg rfl⟩
end Go.Sv
namespace Num
open Go Go.Proofs
def prA (n a b:Nat):List (Nat×Nat):=((List.range a).flatMap fun i=>((List.range n).filter fun j=>decide (i<j)).map fun j=>(i,j))++((List.range b).filter fun j=>decide (a<j)).map fun j=>(a,j)
theorem UI (n a b:Nat):prA n a (b+1)=if a<b then prA n a b++[(a,b)] else prA n a b:=by
 unfold prA
 rw [List.range_succ,List.filter_append,List.map_append,←List.append_assoc]
 split
 ·rename_i h;rw [List.filter_cons,if_pos (decide_eq_true h)];rfl
 ·rename_i h;rw [List.filter_cons,if_neg (by simpa using h)];simp
theorem zdK (n a:Nat):prA n a n=prA n (a+1) 0:=by
 unfold prA
 rw [List.range_succ,List.flatMap_append,List.flatMap_singleton];simp
theorem zg9 (n:Nat):prA n n 0=prs n:=by unfold prA prs;simp
theorem zha {α:Type} (a b:List α):a <+: a++b:=⟨b,rfl⟩
theorem znr {n a b:Nat} (ha:a<n) (hb:b≤n):prA n a b <+: prs n:=by
  have h1:∀ d,b+d=n→prA n a b <+: prA n a n:=fun d=>by
    induction d generalizing b with
    | zero=>intro h;rw [show b=n by omega];exact List.prefix_refl _
    | succ d ih=>
      intro h
      refine List.IsPrefix.trans ?_ (ih (b:=b+1) (by omega) (by omega))
      rw [UI];split
      · exact zha _ _
      · exact List.prefix_refl _
  refine (h1 (n-b) (by omega)).trans ?_
  rw [zdK,←zg9]
  obtain⟨m,rfl⟩:∃ m,n=a+1+m:=⟨n-(a+1),by omega⟩
  unfold prA
  rw [List.range_add,List.flatMap_append]
  simp only [List.range_zero,List.filter_nil,List.map_nil,List.append_nil]
  exact zha _ _
theorem zns {α:Type} {a b:List α} {x:α} (h:a++[x] <+: b):b[a.length]? =some x:=by
 obtain⟨c,rfl⟩:=h
 rw [List.append_assoc,List.getElem?_append_right (Nat.le_refl _)];simp
theorem zi3 {n:Nat} (h:n<2):prs n=[]:=by
 have:n=0∨n=1:=by omega
 rcases this with rfl | rfl <;> rfl
end Num
namespace Go.Proofs
open Go Go.Sv Num
variable {G:Imm}
abbrev ra (xs:List yE) (i:Nat):yE:=xs.getD i default
abbrev rb (xs:List yE) (i:Nat):yE:=xs.getD ((i+1)%xs.length) default
abbrev edC (xs:List yE) (i:Nat):List SV:=intS .i64 (i:Nat)::(pc (ra xs i)++pc (rb xs i))
def edN (xs:List yE) (k:Nat):Nat:=if xs.length<2 then 0 else k
def edX (xs:List yE):List (List SV):=(List.range (edN xs xs.length)).map fun i=>[zl (edC xs i)]
theorem XJ (xs:List yE):(edX xs).length=edN xs xs.length:=by simp [edX]
theorem zhc {xs:List yE} {i:Nat} (h:i<xs.length) (h2:¬ xs.length<2):(edX xs)[i]? =some [zl (edC xs i)]:=by simp [edX,edN,h,h2]
theorem zhd {xs:List yE} {i:Nat} {ss:List SV} (h:(edX xs)[i]? =some ss):i<xs.length∧¬ xs.length<2∧ss=[zl (edC xs i)]:=by
 have hl:=yt h
 rw [XJ] at hl
 unfold edN at hl
 by_cases h2:xs.length<2
 ·rw [if_pos h2] at hl;omega
 ·rw [if_neg h2] at hl
  rw [zhc hl h2] at h
  exact⟨hl,h2,(Option.some.inj h).symm⟩
theorem zlA {xs:List yE} {ss:List SV} (h:ss∈edX xs):ss.length=1:=by
 simp only [edX,List.mem_map] at h
 obtain⟨i,_,rfl⟩:=h
 rfl
def prX (xs:List yE):List (List SV):=(prs xs.length).map fun x=>[zl (edC xs x.1),zl (edC xs x.2)]
theorem qx (xs:List yE):(prX xs).length=(prs xs.length).length:=by simp [prX]
theorem znu {xs:List yE} {a b:Nat} (h1:a<b) (h2:b<xs.length):(prX xs)[(prA xs.length a b).length]? =some [zl (edC xs a),zl (edC xs b)]:=by
 have h:=znr (n:=xs.length) (a:=a) (b:=b+1) (by omega) (by omega)
 rw [UI,if_pos h1] at h
 unfold prX
 rw [List.getElem?_map,zns h];rfl
theorem znv {xs:List yE} {k:Nat} {ss:List SV} (h:(prX xs)[k]? =some ss):∃ a b,(prs xs.length)[k]? =some (a,b)∧a<b∧b<xs.length∧ss=[zl (edC xs a),zl (edC xs b)]:=by
 simp only [prX,List.getElem?_map,Option.map_eq_some_iff] at h
 obtain⟨⟨a,b⟩,h1,h2⟩:=h
 have:=XG.1 (List.mem_of_getElem? h1)
 exact⟨a,b,h1,this.1,this.2,h2.symm⟩
theorem zpg {xs:List yE} {ss:List SV} (h:ss∈prX xs):ss.length=2:=by
 simp only [prX,List.mem_map] at h
 obtain⟨i,_,rfl⟩:=h
 rfl
abbrev wO (xs:List yE):List V2:=xs.map pv
theorem Qw {xs:List yE} {i:Nat} (h:i<xs.length):ZR (wO xs) i=pv (ra xs i):=by
 unfold ZR
 rw [List.length_map,Nat.mod_eq_of_lt h,List.getD_eq_getElem?_getD,List.getElem?_map,wQ h];rfl
theorem JJ {xs:List yE} {i:Nat} (h:i<xs.length):ZR (wO xs) (i+1)=pv (rb xs i):=by
 have hm:(i+1)%xs.length<xs.length:=Nat.mod_lt _ (by omega)
 unfold ZR
 rw [List.length_map,List.getD_eq_getElem?_getD,List.getElem?_map,wQ hm];rfl
theorem zdL:subL [eqS (.bool false),eqS (.slice none 0 0),eqS (.slice none 0 0),eqS (.bool false),eqS (.slice none 0 0),eqS (.slice none 0 0)] (pc default):=⟨fun _ _ h=>h,wF rfl,wF rfl,fun _ _ h=>h,wF rfl,wF rfl,trivial⟩
abbrev qy (xs:List yE) (i:Nat):Prop:=¬ xs.length<2∧i<xs.length
theorem zqi [Tab G] {p q:yE} {k:Nat} (hk:0<k) (hp:xQ k p) (hq:xQ k q) (hs:400*k+21000≤cap):zp Tryz.prog G 262 [zl (pc p),zl (pc q)] (zm (decide (pv p=pv q))):=by
 have i1:=yY (b:=p.1.1) hp.1 hk
 have i2:=yY (b:=p.2.1) hp.2 hk
 have i3:=yY (b:=q.1.1) hq.1 hk
 have i4:=yY (b:=q.2.1) hq.2 hk
 have h:zp Tryz.prog G 262 [zl (pc p),zl (pc q)] (zm (decide ((pv p).1=(pv q).1∧(pv p).2=(pv q).2))):=zfz (hx1:=i1) (hy1:=i2) (hx2:=i3) (hy2:=i4) (by omega)
 rw [decide_eq_decide.2 (show pv p=pv q↔_ from Prod.ext_iff)]
 exact h
def Vl (xs:List yE) (k:Nat):Bool:=decide (3≤xs.length)&&((prs xs.length).take k).all (Qu (wO xs))
theorem zi5 (xs:List yE):Vl xs 0=decide (3≤xs.length):=by unfold Vl;simp
theorem zi6 {xs:List yE} {k:Nat} {x:Nat×Nat} (h:(prs xs.length)[k]? =some x):Vl xs (k+1)=(Vl xs k&&Qu (wO xs) x):=by
 unfold Vl;rw [List.take_add_one,h];simp [Bool.and_assoc]
theorem zlB (xs:List yE):Vl xs (prs xs.length).length=vN (wO xs):=by unfold Vl vN;rw [List.take_length,List.length_map]
theorem zf1 {xs:List yE} {k:Nat} (h:Vl xs k=false):vN (wO xs)=false:=by
 unfold Vl at h;unfold vN
 rw [List.length_map]
 rcases Bool.and_eq_false_iff.1 h with h | h
 ·rw [h];rfl
 ·have:(prs xs.length).all (Qu (wO xs))=false:=by
   rw [←List.take_append_drop k (prs xs.length),List.all_append,h];rfl
  rw [this,Bool.and_false]
theorem zdM {xs:List yE} {a b:Nat} (ha:a<xs.length) (hb:b<xs.length):Qu (wO xs) (a,b)=(!decide (pv (ra xs a)=pv (ra xs b))&&decide ((mtF (xZ (pv (ra xs a)) (pv (rb xs a))) (xZ (pv (ra xs b)) (pv (rb xs b)))).1=Wx xs.length a b)):=by
 unfold Qu UU
 rw [Qw ha,Qw hb,JJ ha,JJ hb,List.length_map]
theorem zi7 {xs:List yE} {i:Nat} (hi:i<4611686018427387904):zp Tryz.prog G 481 [zU 6 pc xs,intS .i64 (i:Nat)] (xn [zl (pc (if qy xs i then ra xs i else default)),zl (pc (if qy xs i then rb xs i else default)),zm (decide (qy xs i))]):=by
 refine zs Tryz.func481 ?_;refine zr ?_;refine xg fun b4=>?_;refine xg fun b5=>?_;refine zz ?_;refine zJ ?_;refine zh ?_;refine xS (K:=fun S1=>Ent S1 ⟨34,[(19,zm (!decide (qy xs i))),(5,eqS (.pointer (some ⟨b5,0,none⟩))),(4,eqS (.pointer (some ⟨b4,0,none⟩))),(1,intS .i64 (i:Nat)),(0,zU 6 pc xs)],[⟨some b5,41,[eqS (.bool false),eqS (.slice none 0 0),eqS (.slice none 0 0),eqS (.bool false),eqS (.slice none 0 0),eqS (.slice none 0 0)],0⟩,⟨some b4,41,[eqS (.bool false),eqS (.slice none 0 0),eqS (.slice none 0 0),eqS (.bool false),eqS (.slice none 0 0),eqS (.slice none 0 0)],0⟩],[],(0,false)⟩) ?_ ?_
 ·refine zO ?_;(iterate 2 refine zz ?_)
  refine Run.oneB (zZ rfl rfl rfl rfl) rfl rfl rfl (fun h1_2=>?_) (fun h1_2=>?_)
  ·have k1_2:=of_decide_eq_true h1_2
   refine zg ?_
   exact (by rw [decide_eq_false (fun h=>h.1 (by omega))];exact zL (zb rfl (zb rfl (zb rfl (zb rfl (zb rfl (trivial)))))) rfl)
  ·have k1_2:=of_decide_eq_false h1_2
   iterate 3 refine zz ?_
   refine Run.oneB (wg rfl rfl rfl) rfl rfl rfl (fun h1_6=>?_) (fun h1_6=>?_)
   ·have k1_6:=of_decide_eq_true h1_6
    refine zg ?_
    exact (by rw [decide_eq_false (fun h=>by omega)];exact zL (zb rfl (zb rfl (zb rfl (zb rfl (zb rfl (trivial)))))) rfl)
   ·have k1_6:=of_decide_eq_false h1_6
    refine zg ?_
    exact (by rw [show (!decide (qy xs i))=decide ((xs.length:Int)≤(i:Int)) by rw [Bool.eq_iff_iff,Bool.not_eq_true',decide_eq_false_iff_not,decide_eq_true_iff];omega];exact zL (zb rfl (zb rfl (zb rfl (zb rfl (zb rfl (trivial)))))) rfl)
 ·intro S1 hS1
  refine wG hS1 ?_;refine wE (fun h19=>?_) fun h19=>?_
  ·have hno:¬ qy xs i:=by rw [Bool.not_eq_true'] at h19;exact of_decide_eq_false h19
   refine wH 4 [2,3] _ (by kernel_rfl) (.cons_cons _ (.cons_cons _ .slnil)) ?_;refine RunE.one (zC 1 rfl rfl rfl rfl rfl) rfl rfl rfl (by kernel_rfl) ?_;refine RunE.lat (zC 0 rfl rfl rfl rfl rfl) rfl rfl rfl ?_
   refine RunE.nil ⟨_,rfl,?_⟩
   refine .loc1n 1 (xI rfl rfl rfl rfl (by first | decide | (simp;done) | (simp;omega))) rfl rfl rfl ?_
   rintro s1 H1 ⟨rfl,rfl⟩
   refine⟨(.cons_cons _ (.cons_cons _ .slnil)),?_⟩
   refine RunE.nil ⟨_,rfl,?_⟩
   refine .loc1n 0 (xI rfl rfl rfl rfl (by first | decide | (simp;done) | (simp;omega))) rfl rfl rfl ?_
   rintro s1 H1 ⟨rfl,rfl⟩
   refine⟨(.cons_cons _ (.cons_cons _ .slnil)),?_⟩
   refine RunE.nil ?_;refine zz ?_;refine Run.ghost _ rfl (VD (show subH [⟨some b5,41,[eqS (.bool false),eqS (.slice none 0 0),eqS (.slice none 0 0),eqS (.bool false),eqS (.slice none 0 0),eqS (.slice none 0 0)],0⟩,⟨some b4,41,[eqS (.bool false),eqS (.slice none 0 0),eqS (.slice none 0 0),eqS (.bool false),eqS (.slice none 0 0),eqS (.slice none 0 0)],0⟩] [⟨some b5,41,pc default,0⟩,⟨some b4,41,pc default,0⟩] from ⟨rfl,rfl,rfl,rfl,fun I xs hd=>zdL.dens hd,rfl,rfl,rfl,rfl,fun I xs hd=>zdL.dens hd,trivial⟩)) ?_;refine zJ ?_
   exact zj (zu (e:=by rw [if_neg hno,if_neg hno,decide_eq_false hno];rfl))
  ·have hok:qy xs i:=by rw [Bool.not_eq_false'] at h19;exact of_decide_eq_true h19
   obtain⟨hok1,hok2⟩:=hok
   have hm:(i+1)%xs.length<xs.length:=Nat.mod_lt _ (by omega)
   refine zE ?_;refine wH 14 [12,13] _ (by kernel_rfl) (.cons _ (.cons _ .slnil)) ?_;(iterate 2 refine RunE.one (zG rfl rfl) rfl rfl rfl (by kernel_rfl) ?_);refine RunE.one (zi rfl rfl rfl (by omega) (y:=ra xs i) (wQ hok2)) rfl rfl rfl (by kernel_rfl) ?_;refine RunE.one ((show OpOK _ _ _ _ _ (zl (pc (ra xs i))) from zF rfl rfl rfl rfl)) rfl rfl rfl (by kernel_rfl) ?_;(iterate 2 refine RunE.lat (zG rfl rfl) rfl rfl rfl ?_);refine RunE.lat (yA (z:=((i+1:Nat):Int)) rfl rfl rfl (congrArg some (by omega)) (wrap_i64 (by omega) (by omega))) rfl rfl rfl ?_;refine RunE.lat (zG rfl rfl) rfl rfl rfl ?_;refine RunE.lat (xh rfl rfl) rfl rfl rfl ?_;refine RunE.lat ((wV rfl rfl rfl (by omega) (by omega)).sub (zD (n:=(((i+1)%xs.length:Nat):Int)) (by simp))) rfl rfl rfl ?_;refine RunE.lat (zi rfl rfl rfl (by omega) (y:=rb xs i) (wQ hm)) rfl rfl rfl ?_;refine RunE.lat ((show OpOK _ _ _ _ _ (zl (pc (rb xs i))) from zF rfl rfl rfl rfl)) rfl rfl rfl ?_
   refine RunE.nil ⟨_,rfl,?_⟩
   refine .loc1n 1 (xI rfl rfl rfl rfl (by first | decide | (simp;done) | (simp;omega))) rfl rfl rfl ?_
   rintro s1 H1 ⟨rfl,rfl⟩
   refine⟨(.cons _ (.cons _ .slnil)),?_⟩
   refine RunE.nil ⟨_,rfl,?_⟩
   refine .loc1n 0 (xI rfl rfl rfl rfl (by first | decide | (simp;done) | (simp;omega))) rfl rfl rfl ?_
   rintro s1 H1 ⟨rfl,rfl⟩
   refine⟨(.cons _ (.cons _ .slnil)),?_⟩
   refine RunE.nil ?_;refine zg ?_
   exact zj (zu (e:=by rw [if_pos ⟨hok1,hok2⟩,if_pos ⟨hok1,hok2⟩,decide_eq_true ⟨hok1,hok2⟩];rfl))
theorem Jg {xs:List yE}:IterSpec Tryz.prog G 480 [zT [zU 6 pc xs]] (edX xs):=by
 refine xH Tryz.func480 rfl rfl rfl rfl fun l E hy=>?_;refine zr ?_;(iterate 3 refine zz ?_);refine zJ ?_;refine zQ ?_;refine wT 7 rfl fun la=>?_
 unfold yP at la
 refine yK (γ:=Nat) (fun g=>⟨30,[(9,intS .i64 (g:Nat)),(8,intS .i64 xs.length),(0,yieldS l),(1,zT [zU 6 pc xs])],[],[],(edN xs g,false)⟩) (fun g=>g≤xs.length) (fun g=>xs.length-g) 0 (Nat.zero_le _) ?_ ?_
 ·rw [show edN xs 0=0 by unfold edN;split <;> rfl];exact yo (zb rfl (zb rfl (zb rfl (zb rfl (trivial)))))
 intro g hg
 refine zr ?_;refine zz ?_;refine zJ ?_;refine zh ?_;refine zd (fun _ k10=>?_) fun _ k10=>?_
 ·have hg1:g<xs.length:=by omega
  refine zE ?_;refine zh ?_;refine zg ?_;refine zo (ze rfl rfl (zi7 (by omega))) ?_;refine zg ?_;refine xg fun b4=>?_;refine xg fun b5=>?_;(iterate 2 refine zw ?_);refine zz ?_;refine zx ?_
  refine Run.oneB (zG rfl rfl) rfl rfl rfl (fun h4_0=>?_) (fun h4_0=>?_)
  ·have hok:qy xs g:=of_decide_eq_true h4_0
   have hee:edN xs g=g:=if_neg hok.1
   rw [show (if qy xs g then ra xs g else default)=ra xs g from if_pos hok,show (if qy xs g then rb xs g else default)=rb xs g from if_pos hok]
   (iterate 5 refine zz ?_);refine zz ?_
   rw [hee]
   refine Run.yield rfl hy rfl rfl rfl (zhc hg1 hok.1) (xi _) (gB rfl rfl rfl rfl) rfl rfl fun y=>?_;refine zg ?_;refine wE (fun h28=>?_) fun h28=>?_
   ·refine zj ?_
    exact⟨.inl rfl,.inr h28⟩
   ·refine zg ?_;refine za ((g+1:Nat):Int) ?_;refine zz ?_;refine Run.ghost _ rfl (zY (List.nil_sublist _)) ?_;refine zJ ?_
    exact⟨g+1,(by omega:g+1≤xs.length),by omega,rfl,zb rfl (zb rfl (zb rfl (zb rfl (trivial)))),xp _,rfl,by simp only;rw [h28,show edN xs (g+1)=g+1 from if_neg hok.1]⟩
  ·have hno:¬ qy xs g:=of_decide_eq_false h4_0
   have hlt:xs.length<2:=Classical.byContradiction fun h=>hno ⟨h,hg1⟩
   refine zg ?_;refine yM rfl rfl ?_;refine zg ?_;refine za ((g+1:Nat):Int) ?_;refine zz ?_;refine Run.ghost _ rfl (zY (List.nil_sublist _)) ?_;refine zJ ?_
   exact⟨g+1,(by omega:g+1≤xs.length),by omega,rfl,zb rfl (zb rfl (zb rfl (zb rfl (trivial)))),xp _,rfl,by simp only;rw [show edN xs (g+1)=0 from if_pos hlt,show edN xs g=0 from if_pos hlt]⟩
 ·refine zI ?_
  exact⟨.inr rfl,.inl (by rw [XJ,show g=xs.length by omega])⟩
theorem qz {xs:List yE}:zp Tryz.prog G 438 [zU 6 pc xs] (wp 480 [zT [zU 6 pc xs]]):=by
 refine zs Tryz.func438 ?_;refine zg ?_
 exact zj zt
theorem zb2 {xs:List yE}:IterSpec Tryz.prog G 437 [zT [zU 6 pc xs]] (prX xs):=by
 refine xH Tryz.func437 rfl rfl rfl rfl fun l E hy=>?_;refine zg ?_;refine zf qz ?_;refine zg ?_
 refine ul rfl rfl Jg (fun ss h=>zlA h) (by decide) rfl
  (fun k _ i=>i=((prA xs.length k 0).length,false))
  (fun e _ i=>e= .ret∧i.2=true) rfl ?_ ?_ ?_
 ·rintro l1 a ss h i ha rfl
  obtain⟨han,hl2,rfl⟩:=zhd ha
  refine zO ?_;refine xg fun b3=>?_;refine zw ?_;refine zJ ?_
  refine⟨rfl,?_⟩
  refine zg ?_;refine zf qz ?_;refine zg ?_
  refine ul rfl rfl Jg (fun ss h=>zlA h) (by decide) rfl
   (fun k h2 i=>i=((prA xs.length a k).length,false)∧h2=⟨some b3,431,edC xs a,0⟩::h)
   (fun e _ i=>e= .ret∧i.2=true) ⟨rfl,rfl⟩ ?_ ?_ ?_
  ·rintro l2 b ss h2 i hb ⟨rfl,rfl⟩
   obtain⟨hbn,_,rfl⟩:=zhd hb
   refine zO ?_;refine xg fun b4=>?_;refine zw ?_;refine zJ ?_
   refine⟨rfl,?_⟩
   refine zQ ?_;refine zr ?_;(iterate 4 refine zz ?_)
   refine Run.oneB (zZ rfl rfl rfl rfl) rfl rfl rfl (fun h5_4=>?_) (fun h5_4=>?_)
   ·have k5_4:=of_decide_eq_true h5_4
    refine zg ?_;refine Run.yield rfl hy rfl rfl rfl (znu (by omega) hbn) (xi _) (gB rfl rfl rfl rfl) rfl rfl fun y=>?_;(iterate 2 refine zz ?_);refine Run.ghost _ rfl (zY (List.sublist_cons_self _ _)) ?_;refine zJ ?_;refine wE (fun h22=>?_) fun h22=>?_
    ·refine zj ?_
     exact⟨rfl,h22⟩
    ·refine zE ?_
     exact⟨by rw [h22,UI,if_pos (by omega)];simp,rfl⟩
   ·have k5_4:=of_decide_eq_false h5_4
    refine zz ?_;(iterate 5 refine zq ?_);refine zz ?_;refine Run.ghost _ rfl (zY (List.sublist_cons_self _ _)) ?_;refine zJ ?_;refine yM rfl rfl ?_;refine zE ?_
    exact⟨by rw [UI,if_neg (by omega)],rfl⟩
  ·rintro h2 i D ⟨rfl,rfl⟩
   exact (show (_,false)=(_,false) by rw [XJ,show edN xs xs.length=xs.length from if_neg hl2,zdK])
  ·rintro h2 i D e c hc ⟨rfl,hi⟩;exact⟨rfl,hi⟩
 ·rintro h i D rfl
  exact⟨.inr rfl,.inl (by rw [XJ,qx];unfold edN;split;rw [zi3 (by assumption)];rfl;rw [zg9])⟩
 ·rintro h i D e c hc ⟨rfl,hi⟩;exact⟨.inl rfl,.inr hi⟩
theorem zdN {xs:List yE}:zp Tryz.prog G 378 [zU 6 pc xs] (wp 437 [zT [zU 6 pc xs]]):=by
 refine zs Tryz.func378 ?_;refine zg ?_
 exact zj zt
theorem Jh [Tab G] {xs:List yE} {k:Nat} (hk:0<k) (hl:∀ p∈xs,xQ k p) (hs:100000*k+100000≤cap):zp Tryz.prog G 317 [zU 6 pc xs] (zm (vN (wO xs))):=by
 refine zs Tryz.func317 ?_;refine zr ?_;(iterate 2 refine zz ?_);refine zJ ?_;refine ut ?_;refine zr ?_;(iterate 2 refine zz ?_);refine zo ((zZ rfl rfl rfl rfl).sub (yx (c:=Vl xs 0) (by rw [zi5];exact decide_eq_decide.2 (by omega)))) ?_;refine xg fun b3=>?_;refine zw ?_;refine zJ ?_;refine zh ?_;refine us ?_;refine xS (K:=fun S1=>∃ D,Ent S1 ⟨59,[(3,eqS (.pointer (some ⟨b3,0,none⟩)))],[⟨some b3,4,[zm (vN (wO xs))],0⟩],D,(0,false)⟩) ?_ ?_
 ·refine wT 7 rfl fun la=>?_
  unfold yP at la
  refine zr ?_;refine zz ?_;refine zf zdN ?_;refine zJ ?_;refine zQ ?_
  refine ul rfl rfl zb2 (fun ss h=>zpg h) (by decide) rfl
   (fun m h i=>i=(0,false)∧h=[⟨some b3,4,[zm (Vl xs m)],0⟩])
   (fun e h i=>e= .exit 0∧i=(0,false)∧∃ m,Vl xs m=false∧h=[⟨some b3,4,[zm false],0⟩]) ⟨rfl,rfl⟩ ?_ ?_ ?_
  ·rintro l m ss h i hm ⟨rfl,rfl⟩
   obtain⟨a,b,hab,hlt,hbn,rfl⟩:=znv hm
   have han:a<xs.length:=by omega
   have hsu:=zi6 hab
   rw [zdM han hbn] at hsu
   refine zr ?_;refine xg fun b4=>?_;refine zw ?_;refine zJ ?_;refine zO ?_;refine xg fun b5=>?_;refine zw ?_;refine zJ ?_
   refine⟨rfl,?_⟩
   refine zQ ?_;refine zr ?_;refine zz ?_;refine zJ ?_;refine xS (K:=fun S1=>Ent S1 ⟨59,[(6,intS .i8 (Wx xs.length a b)),(5,eqS (.pointer (some ⟨b5,0,none⟩))),(4,eqS (.pointer (some ⟨b4,0,none⟩))),(3,eqS (.pointer (some ⟨b3,0,none⟩))),(1,zT [zU 6 pc xs])],[⟨some b5,431,edC xs b,0⟩,⟨some b4,431,edC xs a,0⟩,⟨some b3,4,[zm (Vl xs m)],0⟩],[],(0,false)⟩) ?_ ?_
   ·refine xS (K:=fun S1=>∃ w:Bool,(w=true↔(b=a+1∨(a=0∧b+1=xs.length)))∧Ent S1 ⟨59,[(32,zm w),(6,intS .i8 0),(5,eqS (.pointer (some ⟨b5,0,none⟩))),(4,eqS (.pointer (some ⟨b4,0,none⟩))),(3,eqS (.pointer (some ⟨b3,0,none⟩))),(1,zT [zU 6 pc xs])],[⟨some b5,431,edC xs b,0⟩,⟨some b4,431,edC xs a,0⟩,⟨some b3,4,[zm (Vl xs m)],0⟩],[],(0,false)⟩) ?_ ?_
    ·refine zO ?_;(iterate 4 refine zz ?_);refine za ((a+1:Nat):Int) ?_
     refine Run.oneB (zZ rfl rfl rfl rfl) rfl rfl rfl (fun h6_5=>?_) (fun h6_5=>?_)
     ·have k6_5:=beq_iff_eq.1 h6_5
      refine zz ?_;(iterate 11 refine zq ?_);refine zz ?_;refine zJ ?_
      exact⟨true,⟨fun _=>.inl (by omega),fun _=>rfl⟩,zL zk rfl⟩
     ·have k6_5:=beq_eq_false_iff_ne.1 h6_5
      iterate 3 refine zz ?_
      refine Run.oneB (zZ rfl rfl rfl rfl) (gB rfl rfl rfl rfl) rfl rfl (fun h6_9=>?_) (fun h6_9=>?_)
      ·have k6_9:=beq_iff_eq.1 h6_9
       (iterate 5 refine zz ?_);refine za ((xs.length-1:Nat):Int) ?_;(iterate 3 refine zz ?_);refine zJ ?_
       exact⟨decide ((b:Int)=((xs.length-1:Nat):Int)),(by rw [decide_eq_true_iff];omega),zL (zb rfl (zb rfl (zb rfl (zb rfl (zb rfl (zb rfl (trivial))))))) rfl⟩
      ·have k6_9:=beq_eq_false_iff_ne.1 h6_9
       refine zz ?_;(iterate 6 refine zq ?_);(iterate 2 refine zz ?_);refine zJ ?_
       exact⟨false,⟨fun h=>(by cases h),fun h=>by omega⟩,zL (zb rfl (zb rfl (zb rfl (zb rfl (zb rfl (zb rfl (trivial))))))) rfl⟩
    ·rintro S1 ⟨w,hw,hS1⟩
     refine wG hS1 ?_;refine wE (fun h32=>?_) fun h32=>?_
     ·refine zO ?_;refine zz ?_;refine zJ ?_
      exact (by rw [show Wx xs.length a b=1 from if_pos (hw.1 h32)];exact zL (zb rfl (zb rfl (zb rfl (zb rfl (zb rfl (trivial)))))) rfl)
     ·refine zE ?_
      exact (by rw [show Wx xs.length a b=0 from if_neg (fun x=>by rw [hw.2 x] at h32;cases h32)];exact zL (zb rfl (zb rfl (zb rfl (zb rfl (zb rfl (trivial)))))) rfl)
   ·intro S1 hS1
    refine wG hS1 ?_;refine xS (K:=fun S1=>Ent S1 ⟨59,[(3,eqS (.pointer (some ⟨b3,0,none⟩))),(1,zT [zU 6 pc xs])],[⟨some b3,4,[zm (Vl xs (m+1))],0⟩],[],(0,false)⟩) ?_ ?_
    ·refine zO ?_
     refine Run.oneB (yn 2 rfl rfl rfl rfl) rfl rfl rfl (fun h8_0=>?_) (fun h8_0=>?_)
     ·refine zz ?_;refine zz ?_;refine zo ((show OpOK _ _ _ _ _ (zl (pc (ra xs a))) from zC 1 rfl rfl rfl (by kernel_rfl) rfl)) ?_;refine zz ?_;refine zo ((show OpOK _ _ _ _ _ (zl (pc (ra xs b))) from zC 0 rfl rfl rfl (by kernel_rfl) rfl)) ?_;refine zo (ze rfl rfl (zqi (p:=ra xs a) (q:=ra xs b) hk (hl _ (xR han)) (hl _ (xR hbn)) (by omega))) ?_;refine zz ?_
      refine Run.oneB (wg rfl rfl rfl) rfl rfl rfl (fun h8_8=>?_) (fun h8_8=>?_)
      ·refine zz ?_;refine zz ?_;refine zo ((show OpOK _ _ _ _ _ (zl (pc (ra xs a))) from zC 1 rfl rfl rfl (by kernel_rfl) rfl)) ?_;refine zz ?_;refine zo ((show OpOK _ _ _ _ _ (zl (pc (rb xs a))) from zC 1 rfl rfl rfl (by kernel_rfl) rfl)) ?_;refine zz ?_;refine zo ((show OpOK _ _ _ _ _ (zl (pc (ra xs b))) from zC 0 rfl rfl rfl (by kernel_rfl) rfl)) ?_;refine zz ?_;refine zo ((show OpOK _ _ _ _ _ (zl (pc (rb xs b))) from zC 0 rfl rfl rfl (by kernel_rfl) rfl)) ?_;refine zo (ze rfl rfl (zi2 (a:=ra xs a) (b:=rb xs a) (c:=ra xs b) (d:=rb xs b) hk (hl _ (xR han)) (hl _ (xR (Nat.mod_lt _ (by omega)))) (hl _ (xR hbn)) (hl _ (xR (Nat.mod_lt _ (by omega)))) hs)) ?_;refine zo ((show OpOK _ _ _ _ _ (intS .i8 (mtF (xZ (pv (ra xs a)) (pv (rb xs a))) (xZ (pv (ra xs b)) (pv (rb xs b)))).1) from zlz (ft:=76) Tryz.underlying122 rfl rfl rfl rfl rfl)) ?_;(iterate 3 refine zz ?_);refine zw ?_;refine Run.ghost _ rfl (zY (List.Sublist.cons _ (List.Sublist.cons _ (List.Sublist.refl _)))) ?_;refine zJ ?_
       exact (by rw [hsu,h8_0,h8_8];exact zL (zb rfl (zb rfl (trivial))) rfl)
      ·refine zz ?_;(iterate 12 refine zq ?_);refine zz ?_;refine zw ?_;refine Run.ghost _ rfl (zY (List.Sublist.cons _ (List.Sublist.cons _ (List.Sublist.refl _)))) ?_;refine zJ ?_
       exact (by rw [hsu,h8_0,h8_8];exact zL (zb rfl (zb rfl (trivial))) rfl)
     ·refine zz ?_;(iterate 6 refine zq ?_);(iterate 2 refine zz ?_);(iterate 12 refine zq ?_);refine zz ?_;refine zw ?_;refine Run.ghost _ rfl (zY (List.Sublist.cons _ (List.Sublist.cons _ (List.Sublist.refl _)))) ?_;refine zJ ?_
      exact (by rw [hsu,h8_0];exact zL (zb rfl (zb rfl (trivial))) rfl)
    ·intro S1 hS1
     refine wG hS1 ?_;refine zr ?_;(iterate 2 refine zz ?_);refine zJ ?_;refine wE (fun h57=>?_) fun h57=>?_
     ·refine zI ?_
      exact⟨rfl,rfl,m+1,by simpa using h57,by rw [show Vl xs (m+1)=false by simpa using h57]⟩
     ·refine zE ?_
      exact⟨rfl,rfl⟩
  ·rintro h i D ⟨rfl,rfl⟩
   exact⟨_,by rw [qx,zlB];exact zL (zb rfl (trivial)) rfl⟩
  ·rintro h i D e c hc ⟨rfl,rfl,m,hm,rfl⟩
   show ∃D,_
   exact⟨_,by rw [zf1 hm];exact zL (zb rfl (trivial)) rfl⟩
 ·rintro S1 ⟨D,hS1⟩
  refine wG hS1 ?_;refine zr ?_;(iterate 2 refine zz ?_);refine zJ ?_;refine zj ?_
  exact⟨_,[],.one (.tmp rfl),List.nil_sublist _,rfl,rfl⟩
end Go.Proofs
namespace Num
open Go Go.Proofs
def zdO {α:Type} (p:α→Bool) (l:List α):Int:=if l.any p=true then (l.findIdx p:Nat) else -1
theorem zdP {α:Type} {p:α→Bool} {l:List α} {g:Nat} {x:α} (h:l[g]? =some x) (hp:p x=false) (hn:(l.take g).any p=false):(l.take (g+1)).any p=false:=by
 rw [List.take_add_one,h,List.any_append,hn];simp [hp]
theorem zhe {α:Type} {p:α→Bool} {l:List α} {g:Nat} {x:α} (h:l[g]? =some x) (hp:p x=true) (hn:(l.take g).any p=false):zdO p l=(g:Nat):=by
 obtain⟨hg,he⟩:=List.getElem?_eq_some_iff.1 h
 have h1:l.any p=true:=List.any_eq_true.2 ⟨x,List.mem_of_getElem? h,hp⟩
 unfold zdO
 rw [if_pos h1,(List.findIdx_eq hg).2 ⟨by rw [he];exact hp,fun j hj=>?_⟩]
 have hm:l[j]∈l.take g:=List.mem_of_getElem? (i:=j) (by rw [List.getElem?_take_of_lt hj,List.getElem?_eq_getElem])
 have h2:=List.any_eq_false.1 hn _ hm
 simpa using h2
theorem zdQ {α:Type} {p:α→Bool} {l:List α} (hn:l.any p=false):zdO p l= -1:=by unfold zdO;rw [hn];rfl
theorem zlC {α:Type} (p:α→Bool) (l:List α):decide (0≤zdO p l)=l.any p:=by
 unfold zdO
 cases h:l.any p with
 | true=>rw [if_pos rfl];exact decide_eq_true (Int.natCast_nonneg _)
 | false=>rfl
end Num
namespace Go.Proofs
open Go Go.Sv Num
variable {G:Imm}
theorem za0 (xs:List yE):YH xs=vc (wO xs):=by
 unfold YH vc
 rw [List.length_map]
 split
 ·rfl
 ·refine List.map_congr_left fun i hi=>?_
  have hi:=List.mem_range.1 hi
  have hm:(i+xs.length-1)%xs.length<xs.length:=Nat.mod_lt _ (by omega)
  unfold zdD trn
  have h1:ZR (wO xs) (i+xs.length-1)=pv (wi xs i).1:=by
   have:=uz (wO xs) (i+xs.length-1)
   rw [List.length_map] at this
   rw [←this,Qw hm];rfl
  rw [h1,Qw hi,JJ hi];rfl
theorem zi8 {ns:List (Int)} {f:FuncId} {caps:List SV} {p:Int→Bool} (hb:ns.length≤2000000000) (h:∀ n∈ns,zp Tryz.prog G f ([intS .i64 n]++caps) (zm (p n))):zp Tryz.prog G 435 [zU 1 Ux ns,wp f caps] (intS .i64 (zdO p ns)):=by
 refine zs Tryz.func435 ?_;refine zr ?_;refine zz ?_;refine zJ ?_;refine zh ?_;refine zg ?_;refine yK (γ:=Nat) (fun g=>⟨_,[(8,intS .i64 (g:Nat)),(7,intS .i64 ns.length),(1,wp f caps),(0,zU 1 Ux ns)],[],[],(0,false)⟩) (fun g=>g≤ns.length∧(ns.take g).any p=false) (fun g=>ns.length-g) 0 ⟨Nat.zero_le _,rfl⟩ (yo zk) ?_
 rintro g ⟨hg,hn⟩
 refine zr ?_;refine zz ?_;refine zJ ?_;refine zh ?_;refine zd (fun _ k9=>?_) fun _ k9=>?_
 ·obtain⟨x,hx⟩:∃ x,ns[g]? =some x:=⟨_,List.getElem?_eq_getElem (by omega)⟩
  refine zE ?_;refine zh ?_;refine zg ?_;refine zo (zi rfl rfl rfl (by omega) (y:=x) (hx)) ?_;refine zz ?_;refine zo ((yI rfl rfl rfl (h x (List.mem_of_getElem? hx)))) ?_;refine zJ ?_;refine wE (fun h16=>?_) fun h16=>?_
  ·refine zg ?_
   exact zj (zu (e:=by rw [zhe hx h16 hn]))
  ·refine zg ?_;refine za ((g+1:Nat):Int) ?_;refine zg ?_
   exact⟨g+1,⟨by omega,zdP hx h16 hn⟩,by omega,yo zk⟩
 ·refine zI ?_;refine zg ?_
  exact zj (zu (e:=by rw [zdQ (l:=ns) (by rw [←show ns.take g=ns by rw [show g=ns.length by omega,List.take_length]];exact hn)]))
theorem zi9 {ns:List (Int)} {f:FuncId} {caps:List SV} {p:Int→Bool} (hb:ns.length≤2000000000) (h:∀ n∈ns,zp Tryz.prog G f ([intS .i64 n]++caps) (zm (p n))):zp Tryz.prog G 375 [zU 1 Ux ns,wp f caps] (zm (ns.any p)):=by
 refine zs Tryz.func375 ?_;refine zg ?_;refine zf (zi8 hb h) ?_;refine zg ?_
 exact zj (zu (e:=congrArg zm (zlC p ns)))
theorem zja {ns:List (List yE)} {f:FuncId} {caps:List SV} {p:List yE→Bool} (hb:ns.length≤2000000000) (h:∀ n∈ns,zp Tryz.prog G f ([zU 6 pc n]++caps) (zm (p n))):zp Tryz.prog G 374 [zU 1 (fun r=>[zU 6 pc r]) ns,wp f caps] (intS .i64 (zdO p ns)):=by
 refine zs Tryz.func374 ?_;refine zr ?_;refine zz ?_;refine zJ ?_;refine zh ?_;refine zg ?_;refine yK (γ:=Nat) (fun g=>⟨_,[(8,intS .i64 (g:Nat)),(7,intS .i64 ns.length),(1,wp f caps),(0,zU 1 (fun r=>[zU 6 pc r]) ns)],[],[],(0,false)⟩) (fun g=>g≤ns.length∧(ns.take g).any p=false) (fun g=>ns.length-g) 0 ⟨Nat.zero_le _,rfl⟩ (yo zk) ?_
 rintro g ⟨hg,hn⟩
 refine zr ?_;refine zz ?_;refine zJ ?_;refine zh ?_;refine zd (fun _ k9=>?_) fun _ k9=>?_
 ·obtain⟨x,hx⟩:∃ x,ns[g]? =some x:=⟨_,List.getElem?_eq_getElem (by omega)⟩
  refine zE ?_;refine zh ?_;refine zg ?_;refine zo (zi rfl rfl rfl (by omega) (y:=x) (hx)) ?_;refine zz ?_;refine zo ((yI rfl rfl rfl (h x (List.mem_of_getElem? hx)))) ?_;refine zJ ?_;refine wE (fun h16=>?_) fun h16=>?_
  ·refine zg ?_
   exact zj (zu (e:=by rw [zhe hx h16 hn]))
  ·refine zg ?_;refine za ((g+1:Nat):Int) ?_;refine zg ?_
   exact⟨g+1,⟨by omega,zdP hx h16 hn⟩,by omega,yo zk⟩
 ·refine zI ?_;refine zg ?_
  exact zj (zu (e:=by rw [zdQ (l:=ns) (by rw [←show ns.take g=ns by rw [show g=ns.length by omega,List.take_length]];exact hn)]))
theorem za1 {ns:List (List yE)} {f:FuncId} {caps:List SV} {p:List yE→Bool} (hb:ns.length≤2000000000) (h:∀ n∈ns,zp Tryz.prog G f ([zU 6 pc n]++caps) (zm (p n))):zp Tryz.prog G 313 [zU 1 (fun r=>[zU 6 pc r]) ns,wp f caps] (zm (ns.any p)):=by
 refine zs Tryz.func313 ?_;refine zg ?_;refine zf (zja hb h) ?_;refine zg ?_
 exact zj (zu (e:=congrArg zm (zlC p ns)))
theorem zb3 {n:Int}:zp Tryz.prog G 377 [intS .i64 n] (zm (n != 1)):=by
 refine zs Tryz.func377 ?_;refine zg ?_
 exact zj zt
theorem zph {xs:List yE} (hxl:xs.length≤cap):zp Tryz.prog G 375 [zU 1 Ux (YH xs),eqS (.func (.func 377) #[] #[])] (zm ((YH xs).any fun n=>n != 1)):=
 (zi9 (caps:=[]) (by unfold YH;split;exact Nat.zero_le _;rw [List.length_map,List.length_range];unfold cap at hxl;omega) fun n _=>zb3).args ⟨fun _ _ h=>h,Zx,trivial⟩
theorem zdR [Tab G] {xs:List yE} {k:Nat} (hk:0<k) (hl:∀ p∈xs,xQ k p) (hs:100000*k+100000≤cap) (hxl:xs.length≤cap):zp Tryz.prog G 315 [zU 6 pc xs] (zm (ur (wO xs))):=by
 have hal:((YH xs).all fun n=>decide (n=1))= !((YH xs).any fun n=>n != 1):=by
  rw [List.not_any_eq_all_not];congr 1;funext n;by_cases h:n=1 <;> simp [h]
 refine zs Tryz.func315 ?_;refine zg ?_;refine zo (ze rfl rfl (zdE hk hl (by omega) hxl)) ?_;refine zf (zph hxl) ?_
 refine Run.oneB (ZU rfl rfl) rfl rfl rfl (fun h1_3=>?_) (fun h1_3=>?_)
 ·refine zg ?_;refine zf (Jh hk hl hs) ?_;refine zg ?_
  exact zj (zu (e:=by unfold ur;rw [←za0,hal,h1_3];rfl))
 ·refine zg ?_
  exact zj (zu (e:=by unfold ur;rw [←za0,hal,h1_3];rfl))
end Go.Proofs
namespace Go.Sv
open Go Go.RowKit
theorem zjb {P:Program} {G:Imm} {H:HL} {o:Oper} {g:List (Nat×SV)} {t n e i:Nat} {x ix:Operand} {k:IntKind} {cs:List SV} {s:SV} [hsc:IsScalar P e] [hz:HasSize P e 1] (hu:P.underlying t=some (.array n e)) (hop:o.op= .index t x ix) (hx:xd g x=some (zl cs)) (hi:xd g ix=some (intS k i)) (h1:i<n) (hd:cs[i]? =some s):OpOK P G H o g s:=
 yC (by simp [hop]) fun I W a _ _ hr=>by
  obtain⟨xs,hv,hxs,_⟩:=hr.get (by simp [hop,Op.operands]) hx
  have hvi:a.eval ix= .int k i:=hr.get (by simp [hop,Op.operands]) hi
  obtain⟨d,hd',hm⟩:=IsScalar.h (P:=P) (t:=e)
  have h2:(isAgg e).run P W= .ok false W:=by
   unfold isAgg;simp only [Sem.run_bind,run_underlying hd',Result.andThen_ok]
   cases d <;> simp_all
  obtain⟨j,hj,hjs⟩:=HasSize.i (P:=P) (t:=e) (n:=1)
  have h3:(sizeOf e).run P W= .ok 1 W:=by simp [sizeOf,typeInfo,hj,hjs]
  obtain⟨y,hy,hys⟩:=hxs.get hd
  refine⟨y,?_,hys⟩
  have hin:0≤(i:Int)∧(i:Int)<n:=by omega
  have:(Instr.index t (.agg xs.toArray) (.int k i)).run P W= .ok y W:=by
   simp [Instr.index,run_underlying hu,asIntOf,hin,h3,part,h2,h1,hy]
  simp [execOp,hop,hv,hvi,this]
end Go.Sv
namespace Num
open Go Go.Proofs
def trisN (s:Sc) (g:Nat):Nat:=((s.2.1.take g).map fun r=>r.length-2).sum
theorem qB {s:Sc} {g:Nat} {r:List RP} (h:s.2.1[g]? =some r):trisN s (g+1)=trisN s g+(r.length-2):=by
 unfold trisN;rw [List.take_add_one,h];simp
def tris (s:Sc):Nat:=(s.2.1.map fun r=>r.length-2).sum
theorem za2 (s:Sc):trisN s s.2.1.length=tris s:=by unfold trisN tris;rw [List.take_length]
def inB (n:Nat) (most:Int):Bool:=decide (3≤n)&&decide ((n:Int)≤most)
def uE (s:Sc):Bool:=inB s.1.length 6&&decide (s.2.1.length≤4)&& !(s.2.1.any fun r=> !inB r.length 6)&&decide (tris s≤6)&&decide (s.2.2.length≤8)
def qC (s:Sc) (g:Nat):Bool:=if g=0 then uE s else if g=1 then ur (s.1.map pv) else !(s.2.1.any fun r=> !vN (r.map pv))
def vx (s:Sc):Int:=if qC s 0=false then 4 else if qC s 1=false then 5 else if qC s 2=false then 6 else 0
theorem zlD {s:Sc} {g:Nat} (h3:g<3) (hj:∀ j,j<g→qC s j=true) (h:qC s g=false):vx s=4+(g:Int):=by
 have:g=0∨g=1∨g=2:=by omega
 unfold vx
 rcases this with rfl | rfl | rfl
 ·rw [if_pos h];rfl
 ·rw [if_neg (by rw [hj 0 (by omega)];decide),if_pos h];rfl
 ·rw [if_neg (by rw [hj 0 (by omega)];decide),if_neg (by rw [hj 1 (by omega)];decide),if_pos h];rfl
theorem zjc {s:Sc} (hj:∀ j,j<3→qC s j=true):vx s=0:=by
 unfold vx
 rw [if_neg (by rw [hj 0 (by omega)];decide),if_neg (by rw [hj 1 (by omega)];decide),if_neg (by rw [hj 2 (by omega)];decide)]
end Num
namespace Go.Proofs
open Go Go.Sv Num
variable {G:Imm}
structure VOk (s:Sc) (k:Nat):Prop where
 pos:0<k
 rob:∀ p∈s.1,xQ k p
 obs:∀ r∈s.2.1,∀p∈r,xQ k p
 rl:s.1.length≤1000000
 ol:s.2.1.length≤1000000
 orl:∀ r∈s.2.1,r.length≤1000000
 ql:s.2.2.length≤1000000
theorem zjd {s:Sc} {k:Nat} (h:VOk s k):zp Tryz.prog G 314 [zl (Yn s)] (intS .i64 (tris s:Nat)):=by
 have hol:=h.ol
 refine zs Tryz.func314 ?_;refine zr ?_;(iterate 2 refine zz ?_);refine zJ ?_;refine zh ?_;refine zg ?_;refine yK (γ:=Nat) (fun g=>⟨_,[(8,intS .i64 (g:Nat)),(7,intS .i64 s.2.1.length),(6,zU 1 XU s.2.1),(2,intS .i64 (trisN s g:Nat))],[],[],(0,false)⟩) (fun g=>g≤s.2.1.length∧trisN s g≤1000000*g) (fun g=>s.2.1.length-g) 0 ⟨Nat.zero_le _,Nat.le_refl _⟩ (yo zk) ?_
 rintro g ⟨hg,hgt⟩
 refine zr ?_;refine zz ?_;refine zJ ?_;refine zh ?_;refine zd (fun _ k9=>?_) fun _ k9=>?_
 ·obtain⟨r,hr⟩:∃ r,s.2.1[g]? =some r:=⟨_,List.getElem?_eq_getElem (by omega)⟩
  have hrl:=h.orl _ (List.mem_of_getElem? hr)
  have hsu:=qB hr
  refine zE ?_;refine zh ?_;refine zg ?_;refine zo (zi rfl rfl rfl (by omega) (y:=r) (hr)) ?_;refine zg ?_;refine zo (yA (z:=(r.length:Int)-2) rfl rfl rfl (congrArg some (by omega)) (wrap_i64 (by omega) (by omega))) ?_;refine zo ((YC rfl rfl rfl).sub (zD (n:=((r.length-2:Nat):Int)) (by omega))) ?_;refine za ((trisN s (g+1):Nat):Int) ?_;refine zg ?_;refine za ((g+1:Nat):Int) ?_;refine zg ?_
  exact⟨g+1,⟨by omega,by omega⟩,by omega,yo zk⟩
 ·refine zI ?_;refine zg ?_
  exact zj (zu (e:=by rw [←za2,show s.2.1.length=g by omega]))
theorem UJ {l:List RP} {m:Int}:zp Tryz.prog G 311 [zU 6 pc l,intS .i64 m] (zm (inB l.length m)):=by
 refine zs Tryz.func311 ?_;refine zr ?_;refine zz ?_;refine zx ?_;(iterate 2 refine zz ?_)
 refine Run.oneB ((zZ rfl rfl rfl rfl).sub (yx (c:=decide (3≤l.length)) (decide_eq_decide.2 (by omega)))) rfl rfl rfl (fun h1_2=>?_) (fun h1_2=>?_)
 ·have k1_2:=of_decide_eq_true h1_2
  refine zg ?_
  exact zj (zu (e:=by unfold inB;rw [h1_2];rfl))
 ·have k1_2:=of_decide_eq_false h1_2
  refine zg ?_
  exact zj (zu (e:=by unfold inB;rw [h1_2];rfl))
theorem zb4 {l:List RP}:zp Tryz.prog G 312 [zU 6 pc l,zT [eqS (.func (.func 311) #[] #[])]] (zm (!inB l.length 6)):=by
 refine zs Tryz.func312 ?_;refine zr ?_;refine zz ?_;refine zx ?_;refine zo ((show OpOK _ _ _ _ _ (wp 311 []) from (yN rfl rfl).sub Zx)) ?_;refine zz ?_;refine zo ((yI (caps:=[]) rfl rfl rfl UJ)) ?_;refine zg ?_
 exact zj zt
theorem zf3 [Tab G] {l:List RP} {k:Nat} (hk:0<k) (hl:∀ p∈l,xQ k p) (hs:100000*k+100000≤cap):zp Tryz.prog G 316 [zU 6 pc l] (zm (!vN (l.map pv))):=by
 refine zs Tryz.func316 ?_;refine zg ?_;refine zf (Jh hk hl hs) ?_;refine zg ?_
 exact zj zt
theorem zpi {rs:List (List RP)} (hb:rs.length≤2000000000):zp Tryz.prog G 313 [zU 1 XU rs,wp 312 [zT [eqS (.func (.func 311) #[] #[])]]] (zm (rs.any fun r=> !inB r.length 6)):=
 za1 (p:=fun r=> !inB r.length 6) hb fun _ _=>zb4
theorem zpj [Tab G] {rs:List (List RP)} {k:Nat} (hb:rs.length≤2000000000) (hk:0<k) (hl:∀ r∈rs,∀p∈r,xQ k p) (hs:100000*k+100000≤cap):zp Tryz.prog G 313 [zU 1 XU rs,eqS (.func (.func 316) #[] #[])] (zm (rs.any fun r=> !vN (r.map pv))):=
 (za1 (caps:=[]) (p:=fun r=> !vN (r.map pv)) hb fun r hr=>zf3 hk (hl r hr) hs).args ⟨fun _ _ h=>h,Zx,trivial⟩
theorem zdS {s:Sc} {k:Nat} (h:VOk s k):zp Tryz.prog G 258 [zl (Yn s)] (zm (uE s)):=by
 have hol:=h.ol
 have hql:=h.ql
 refine zs Tryz.func258 ?_;refine zg ?_;refine xg fun b3=>?_;refine zw ?_;refine Run.ghost _ rfl (uY 0 3 rfl rfl) ?_;refine zx ?_;(iterate 2 refine zz ?_);refine zx ?_;refine zo ((show OpOK _ _ _ _ _ (wp 311 []) from (yN rfl rfl).sub Zx)) ?_;refine zg ?_;refine zo ((yI (caps:=[]) rfl rfl rfl UJ)) ?_
 refine Run.oneB (zG rfl rfl) rfl rfl rfl (fun h3_4=>?_) (fun h3_4=>?_)
 ·refine zz ?_;(iterate 2 refine zz ?_);refine zo ((zZ rfl rfl rfl rfl).sub (yx (c:=decide (s.2.1.length≤4)) (decide_eq_decide.2 (by omega)))) ?_
  refine Run.oneB (wg rfl rfl rfl) rfl rfl rfl (fun h3_9=>?_) (fun h3_9=>?_)
  ·have k3_9:=of_decide_eq_true h3_9
   refine zg ?_;refine zo (ze rfl rfl (zpi (by omega))) ?_;refine zz ?_
   refine Run.oneB (wg rfl rfl rfl) rfl rfl rfl (fun h3_16=>?_) (fun h3_16=>?_)
   ·refine zg ?_;refine zf (zjd h) ?_;refine zo ((zZ rfl rfl rfl rfl).sub (yx (c:=decide (tris s≤6)) (decide_eq_decide.2 (by omega)))) ?_
    refine Run.oneB (wg rfl rfl rfl) rfl rfl rfl (fun h3_21=>?_) (fun h3_21=>?_)
    ·have k3_21:=of_decide_eq_true h3_21
     (iterate 4 refine zz ?_);refine zo ((zZ rfl rfl rfl rfl).sub (yx (c:=decide (s.2.2.length≤8)) (decide_eq_decide.2 (by omega)))) ?_;refine zg ?_
     exact zj (zu (e:=by unfold uE;rw [h3_4,h3_9,h3_16,h3_21];rfl))
    ·have k3_21:=of_decide_eq_false h3_21
     refine zg ?_
     exact zj (zu (e:=by unfold uE;rw [h3_4,h3_9,h3_16,h3_21];rfl))
   ·refine zg ?_
    exact zj (zu (e:=by unfold uE;rw [h3_4,h3_9,h3_16];rfl))
  ·have k3_9:=of_decide_eq_false h3_9
   refine zg ?_
   exact zj (zu (e:=by unfold uE;rw [h3_4,h3_9];rfl))
 ·refine zg ?_
  exact zj (zu (e:=by unfold uE;rw [h3_4];rfl))
theorem zf4 [Tab G] {s:Sc} {k:Nat} (h:VOk s k) (hs:100000*k+100000≤cap):zp Tryz.prog G 259 [zl (Yn s)] (zm (qC s 1)):=by
 have hrl:=h.rl
 refine zs Tryz.func259 ?_;refine zg ?_;refine zo (ze rfl rfl (zdR h.pos h.rob hs (by unfold cap;omega))) ?_;refine zg ?_
 exact zj zt
theorem zje [Tab G] {s:Sc} {k:Nat} (h:VOk s k) (hs:100000*k+100000≤cap):zp Tryz.prog G 260 [zl (Yn s)] (zm (qC s 2)):=by
 have hol:=h.ol
 refine zs Tryz.func260 ?_;refine zg ?_;refine zo (ze rfl rfl (zpj (by omega) h.pos h.obs hs)) ?_;refine zg ?_
 exact zj zt
theorem zb5:zp Tryz.prog G 207 [] (zl [eqS (.func (.func 258) #[] #[]),eqS (.func (.func 259) #[] #[]),eqS (.func (.func 260) #[] #[])]):=by
 refine zs Tryz.func207 ?_;refine zr ?_;refine xg fun b0=>?_;refine zg ?_
 exact zj zt
def clF (g:Nat):FuncId:=if g=0 then 258 else if g=1 then 259 else 260
theorem znw [Tab G] {s:Sc} {k:Nat} (h:VOk s k) (hs:100000*k+100000≤cap) {g:Nat} (hg:g<3):zp Tryz.prog G (clF g) [zl (Yn s)] (zm (qC s g)):=by
 have:g=0∨g=1∨g=2:=by omega
 rcases this with rfl | rfl | rfl
 ·exact zdS h
 ·exact zf4 h hs
 ·exact zje h hs
theorem zpk {g:Nat} (hg:g<3):∃ s,[eqS (.func (.func 258) #[] #[]),eqS (.func (.func 259) #[] #[]),eqS (.func (.func 260) #[] #[])][g]? =some s∧∀ I v,s.den I v→(wp (clF g) []).den I v:=by
 have:g=0∨g=1∨g=2:=by omega
 rcases this with rfl | rfl | rfl
 ·exact⟨_,rfl,Zx⟩
 ·exact⟨_,rfl,Zx⟩
 ·exact⟨_,rfl,Zx⟩
theorem zjf [Tab G] {s:Sc} {k:Nat} (h:VOk s k) (hs:100000*k+100000≤cap):zp Tryz.prog G 154 [zl (Yn s)] (intS .i64 (vx s)):=by
 refine zs Tryz.func154 ?_;refine zr ?_;(iterate 2 refine zz ?_);refine zJ ?_;refine ut ?_;refine zh ?_;refine us ?_;refine xS (K:=fun S1=>Ent S1 ⟨18,[(2,intS .i64 (vx s))],[],[],(0,false)⟩) ?_ ?_
 ·refine zr ?_;refine zf zb5 ?_;refine zg ?_
  refine yK (γ:=Nat) (fun g=>⟨_,[(6,intS .i64 (g:Nat)),(5,zl [eqS (.func (.func 258) #[] #[]),eqS (.func (.func 259) #[] #[]),eqS (.func (.func 260) #[] #[])]),(2,intS .i64 0),(1,zT (Yn s))],[],[],(0,false)⟩) (fun g=>g≤3∧∀ j,j<g→qC s j=true) (fun g=>3-g) 0 ⟨Nat.zero_le _,fun j hj=>by omega⟩ (yo zk) ?_
  rintro g ⟨hg,hj⟩
  refine zr ?_;refine zz ?_;refine zJ ?_;refine zh ?_;refine zd (fun _ k7=>?_) fun _ k7=>?_
  ·obtain⟨sv,hsv,hfn⟩:=zpk (show g<3 by omega)
   refine zE ?_;refine zh ?_;refine zQ ?_;refine zr ?_;refine zz ?_;refine zo ((show OpOK _ _ _ _ _ (wp (clF g) []) from (zjb (n:=3) (e:=27) (by kernel_rfl) rfl rfl rfl (by omega) hsv).sub hfn)) ?_;refine zg ?_;refine zo ((yI (caps:=[]) rfl rfl rfl (znw h hs (show g<3 by omega)))) ?_;refine zg ?_;refine wE (fun h13=>?_) fun h13=>?_
   ·have hcf:qC s g=false:=by simpa using h13
    refine zg ?_;refine zo (yA (z:=4+(g:Int)) rfl rfl rfl (congrArg some (by omega)) (wrap_i64 (by omega) (by omega))) ?_;refine zg ?_;refine zI ?_
    exact (by rw [zlD (by omega) hj hcf];exact yo (zb rfl (trivial)))
   ·have hct:qC s g=true:=by simpa using h13
    refine zg ?_;refine za ((g+1:Nat):Int) ?_;refine zg ?_
    exact⟨g+1,⟨by omega,fun j hj2=>by
     by_cases e:j=g
     ·rw [e];exact hct
     ·exact hj j (by omega)⟩,by omega,yo zk⟩
  ·refine zI ?_
   exact (by rw [zjc (fun j hj3=>hj j (by omega))];exact yo (zb rfl (trivial)))
 ·intro S1 hS1
  refine wG hS1 ?_;refine zg ?_
  exact zj zt
end Go.Proofs
namespace Num
open Go Go.Proofs
end Num
namespace Go.Sv
open Go Go.RowKit
theorem zhf {P:Program} {G:Imm} {H:HL} {o:Oper} {g:List (Nat×SV)} {t u:TypeId} {x y:Operand} {k:IntKind} {m n:Int} (hop:o.op= .binOp .rem t x y u) (hx:xd g x=some (intS k m)) (hy:xd g y=some (intS k n)) (hn:n≠0):OpOK P G H o g (intS k (m.tmod n)):=
 yC (by simp [hop]) fun I W a _ _ hr=>by
  have h1:a.eval x= .int k m:=hr.get (by simp [hop,Op.operands]) hx
  have h2:a.eval y= .int k n:=hr.get (by simp [hop,Op.operands]) hy
  refine⟨.int k (m.tmod n),?_,rfl⟩
  simp [execOp,hop,h1,h2,eqGuard,binOp,Op.intDiv,hn]
end Go.Sv
namespace Go.Proofs
open Go Go.Sv Num
variable {G:Imm}
theorem zhg {z:Int} {n:Nat} (h:0<n):∃ K:Nat,K<n∧(z.tmod n+n)%(n:Int)=(K:Int)∧ -(n:Int)<z.tmod n∧z.tmod n<n:=by
 have h1:=Int.lt_tmod_of_pos z (show (0:Int)<n by omega)
 have h2:=Int.tmod_lt_of_pos z (show (0:Int)<n by omega)
 have h3:=Int.emod_nonneg (z.tmod n+n) (show (n:Int)≠0 by omega)
 have h4:=Int.emod_lt_of_pos (z.tmod n+n) (show (0:Int)<n by omega)
 exact⟨((z.tmod n+n)%(n:Int)).toNat,by omega,(Int.toNat_of_nonneg h3).symm,by omega,h2⟩
abbrev UK (p:yE):Prop:=(xU p.1.2.1∧xU p.1.2.2)∧xU p.2.2.1∧xU p.2.2.2
theorem YI {b:Bool} {l d:List Nat} (h:xU l) (h':xU d):IsQ b l d (qv (b,l,d)) (l.length+d.length+1):=yY ⟨h,h',by omega,by omega⟩ (by omega)
theorem zb6:∀ l:List yE,(l.flatMap pc).length=l.length*6
 | []=>rfl
 | x::l=>by rw [List.flatMap_cons,List.length_append,zb6 l];show 6+l.length*6=(l.length+1)*6;omega
abbrev W1:List V2:=[(0,0),(1,0),(2,0),(0,2)]
abbrev W2:List V2:=[(0,0),(2,0),(1,0),(1,1)]
theorem zf5:100000*1+100000≤cap:=by decide
section
end
end Go.Proofs
namespace Num
open Go Go.Proofs
def UL (q:QS):Int:=
 if (inB q.1.length 6&&decide (q.2.1.length≤4)&& !(q.2.1.any fun r=> !inB r.length 6)&&decide ((q.2.1.map fun r=>r.length-2).sum≤6)&&decide (q.2.2.length≤8))=false then 4
 else if ur q.1=false then 5 else if (!(q.2.1.any fun r=> !vN r))=false then 6 else 0
theorem zlE (s:Sc):vx s=UL (Yj s):=by
 have h0:qC s 0=(inB (Yj s).1.length 6&&decide ((Yj s).2.1.length≤4)&& !((Yj s).2.1.any fun r=> !inB r.length 6)&&decide (((Yj s).2.1.map fun r=>r.length-2).sum≤6)&&decide ((Yj s).2.2.length≤8)):=by
  show uE s=_
  unfold uE tris Yj Uy
  simp only [List.length_map,List.any_map,List.map_map,Function.comp_def]
 have h1:qC s 1=ur (Yj s).1:=rfl
 have h2:qC s 2= !((Yj s).2.1.any fun r=> !vN r):=by
  show (!(s.2.1.any fun r=> !vN (r.map pv)))=_
  unfold Yj
  rw [List.any_map];rfl
 unfold vx UL
 rw [h0,h1,h2]
def Vy (t:List UInt8):QS×Int:=
 if (vF t).2=0 then (if UL (vF t).1=0 then ((vF t).1,0) else (([],[],[]),UL (vF t).1)) else (([],[],[]),(vF t).2)
def isF (ns:List Int) (F:Int) (g:Nat):Bool:=decide (F=0)||(ns.take g).any fun n=>decide (n=F)
end Num
namespace Go.Proofs
open Go Go.Sv Num
variable {G:Imm}
theorem VS {s:Sc} {k n:Nat} (h:ScOk s k n) (hn:n≤1000000):VOk s k:=by
 have h1:=h.row
 rw [ZI] at h1
 have h2:=h.lrow (ux s)
 exact⟨h.pos,h.pt _ (ux s),fun r hr=>h.pt _ (uy hr),by simp only at h2;omega,by omega,fun r hr=>by have:=h.lrow (uy hr);simp only at this;omega,by omega⟩
theorem zow {l:List V2} (h:∀ p∈l,Bq p.1 1∧Bq p.2 1) (hl:l.length≤10):VOk (UB (l,[],[])) 1:=
 VS (n:=10) (qj (by decide) (fun p hp=>h p (by simpa [uN] using hp)) (by simpa [uN] using hl) (show 0+0+1≤10 by decide)) (by decide)
theorem VT [Tab G] [MaxLen G] {t:List UInt8} {k:Nat} (ht:t.length≤1000000000) (hv:(vF t).2=0→VOk (UB (vF t).1) k) (hs:100000*k+100000≤cap):zp Tryz.prog G 106 [xb t] (xn [zl (XV (Vy t).1),intS .i64 (Vy t).2]):=by
 have hp:=zbT (G:=G) ht
 obtain⟨⟨q,c⟩,hq⟩:∃ x,x=vF t:=⟨_,rfl⟩
 have htf:Vy t=if c=0 then (if UL q=0 then (q,0) else (([],[],[]),UL q)) else (([],[],[]),c):=by unfold Vy;rw [←hq]
 rw [←hq] at hp hv
 rw [htf]
 simp only at hp hv ⊢
 refine zs Tryz.func106 ?_;refine zr ?_;refine xg fun b2=>?_;refine zg ?_;refine zf hp ?_;refine zg ?_;refine xg fun b4=>?_;refine zw ?_;refine zz ?_;refine zJ ?_;refine xS (K:=fun S1=>∃ e:Int,e=(if c=0 then UL q else c)∧Ent S1 ⟨20,[(5,intS .i64 e),(4,eqS (.pointer (some ⟨b4,0,none⟩))),(2,eqS (.pointer (some ⟨b2,0,none⟩)))],[⟨some b4,26,XV q,0⟩,⟨some b2,26,[eqS (.slice none 0 0),eqS (.slice none 0 0),eqS (.slice none 0 0)],0⟩],[],(0,false)⟩) ?_ ?_
 ·refine zg ?_;refine zd (fun _ k12=>?_) fun _ k12=>?_
  ·refine zg ?_;refine zo ((ze rfl rfl ((zjf (hv k12) hs).args (args':=[zl (XV q)]) ⟨zg2,trivial⟩)).sub (zD (by rw [zlE,zbU]))) ?_;refine zg ?_
   exact⟨_,by rw [if_pos k12],zL (zb rfl (zb rfl (zb rfl (trivial)))) rfl⟩
  ·refine zE ?_
   exact⟨_,by rw [if_neg k12],zL (zb rfl (zb rfl (zb rfl (trivial)))) rfl⟩
 ·rintro S1 ⟨e,he,hS1⟩
  refine wG hS1 ?_;refine zh ?_;refine zg ?_;refine zd (fun _ k16=>?_) fun _ k16=>?_
  ·have hne:¬ (c=0∧UL q=0):=fun h=>k16 (by rw [he,if_pos h.1,h.2])
   refine zr ?_;refine zo ((show OpOK _ _ _ _ _ (zl (XV ([],[],[]))) from (yW rfl rfl (by kernel_rfl)).sub VN)) ?_;refine zg ?_
   exact zj (zu (e:=by by_cases h0:c=0;rw [if_pos h0,if_neg (fun h=>hne ⟨h0,h⟩)];rw [if_pos h0] at he;rw [he];rfl;rw [if_neg h0] at he ⊢;rw [he];rfl))
  ·have hc0:c=0:=Classical.byContradiction fun h=>by rw [if_neg h] at he;exact h (he.symm.trans k16)
   have hq0:UL q=0:=by rw [if_pos hc0] at he;exact he.symm.trans k16
   refine zg ?_
   exact zj (zu (e:=by rw [if_pos hc0,if_pos hq0];rfl))
end Go.Proofs
namespace Go.Sv
open Go Go.RowKit
section
variable {P:Program} {G:Imm} {E:Env} {r:Option Nat} {S:St}
end
end Go.Sv
namespace Num
open Go Go.Proofs
theorem UM {α:Type} {P:α→Prop} {l:List α} {g:Nat} {x:α} (h:l[g]? =some x) (hp:P x) (hn:∀ y∈l.take g,P y):∀ y∈l.take (g+1),P y:=fun y hy=>by
 rw [List.take_add_one,h] at hy
 rcases List.mem_append.1 hy with hy | hy
 ·exact hn y hy
 ·rw [List.mem_singleton.1 hy];exact hp
theorem zjg {α:Type} {p:α→Bool} {l:List α} (h:(l.any p)=false):∀ x∈l,p x=false:=fun x hx=>by
 have:=List.any_eq_false.1 h x hx
 simpa using this
theorem zjh {s:Sc} (h:uE s=true):3≤s.1.length∧s.1.length≤6∧s.2.1.length≤4∧(∀r∈s.2.1,3≤r.length)∧tris s≤6∧s.2.2.length≤8:=by
 unfold uE inB at h
 simp only [Bool.and_eq_true,decide_eq_true_iff,Bool.not_eq_true'] at h
 obtain⟨⟨⟨⟨⟨h1,h2⟩,h3⟩,h4⟩,h5⟩,h6⟩:=h
 refine⟨h1,by omega,h3,fun r hr=>?_,h5,h6⟩
 have:=zjg h4 r hr
 simp only [Bool.not_eq_false',Bool.and_eq_true,decide_eq_true_iff] at this
 exact this.1
theorem zji {s:Sc} (h:uE s=false):vx s=4:=by unfold vx;rw [if_pos (show qC s 0=false from h)]
end Num
namespace Go.Proofs
open Go Go.Sv Num
variable {G:Imm}
theorem zhh:∀ l:List (List RP),(l.flatMap XU).length=l.length*1
 | []=>rfl
 | x::l=>by rw [List.flatMap_cons,List.length_append,zhh l];show 1+l.length*1=(l.length+1)*1;omega
end Go.Proofs
namespace Num
open Go Go.Proofs
def vy {α:Type} (l:List α) (at0:Int) (back:Bool):List α:=
 let K:=((at0.tmod (l.length:Nat)+(l.length:Nat))%(l.length:Nat)).toNat
 if back then (l.drop K++l.take K).reverse else l.drop K++l.take K
end Num
namespace Go.Proofs
open Go Go.Sv Num
variable {G:Imm}
end Go.Proofs
namespace Num
open Go Go.Proofs
abbrev VU (r:List RP):Nat×Bool:=(r.length,vN (r.map pv))
theorem zdT {α:Type} {p:α→Bool} {l m:List α} (h:l.Perm m):l.any p=m.any p:=by
 rw [Bool.eq_iff_iff,List.any_eq_true,List.any_eq_true]
 constructor
 ·rintro⟨x,hx,hp⟩;exact⟨x,h.mem_iff.1 hx,hp⟩
 ·rintro⟨x,hx,hp⟩;exact⟨x,h.mem_iff.2 hx,hp⟩
theorem za3 {s t:Sc} (h1:t.1.length=s.1.length) (h2:ur (t.1.map pv)=ur (s.1.map pv)) (h3:(t.2.1.map VU).Perm (s.2.1.map VU)) (h4:t.2.2.length=s.2.2.length):vx t=vx s∧tris t=tris s:=by
 have e1:∀ u:Sc,(u.2.1.any fun r=> !inB r.length 6)=(u.2.1.map VU).any fun d=> !inB d.1 6:=fun u=>by rw [List.any_map];rfl
 have e2:∀ u:Sc,(u.2.1.any fun r=> !vN (r.map pv))=(u.2.1.map VU).any fun d=> !d.2:=fun u=>by rw [List.any_map];rfl
 have e3:∀ u:Sc,tris u=((u.2.1.map VU).map fun d=>d.1-2).sum:=fun u=>by unfold tris;rw [List.map_map];rfl
 have e4:t.2.1.length=s.2.1.length:=by have:=h3.length_eq;rwa [List.length_map,List.length_map] at this
 have ht:tris t=tris s:=by rw [e3,e3];exact (h3.map _).sum_nat
 refine⟨?_,ht⟩
 have c0:qC t 0=qC s 0:=by
  show uE t=uE s
  unfold uE
  rw [e1,e1,zdT h3,h1,h4,e4,ht]
 have c1:qC t 1=qC s 1:=h2
 have c2:qC t 2=qC s 2:=by
  show (!(t.2.1.any fun r=> !vN (r.map pv)))= !(s.2.1.any fun r=> !vN (r.map pv))
  rw [e2,e2,zdT h3]
 unfold vx
 rw [c0,c1,c2]
theorem Qy {α β:Type} (f:α→β) (l:List α) (at0:Int) (back:Bool):(vy l at0 back).map f=vy (l.map f) at0 back:=by
 unfold vy
 rw [List.length_map]
 cases back <;> simp [List.map_drop,List.map_take]
theorem vd {α:Type} (l:List α) (at0:Int) (back:Bool):(vy l at0 back).length=l.length:=by
 unfold vy
 cases back <;> simp <;> omega
theorem Qz {α:Type} {l:List α} {at0:Int} {back:Bool} {x:α} (h:x∈vy l at0 back):x∈l:=by
 unfold vy at h
 cases back
 ·simp only [Bool.false_eq_true,if_false,List.mem_append] at h
  exact h.elim List.mem_of_mem_drop List.mem_of_mem_take
 ·simp only [if_true,List.mem_reverse,List.mem_append] at h
  exact h.elim List.mem_of_mem_drop List.mem_of_mem_take
theorem zlF {l:List V2} (h:0<l.length) (at0:Int):((at0.tmod (l.length:Nat)+(l.length:Nat))%(l.length:Nat)).toNat≤l.length:=by
 obtain⟨K,hK,e,_,_⟩:=zhg (z:=at0) h
 rw [e,Int.toNat_natCast];omega
theorem Vf {α:Type} (at0:Int) (back:Bool):vy ([]:List α) at0 back=[]:=by unfold vy;cases back <;> simp
theorem zdU (l:List V2) (at0:Int) (back:Bool):vN (vy l at0 back)=vN l:=by
 rcases Nat.eq_zero_or_pos l.length with h | h
 ·rw [List.eq_nil_of_length_eq_zero h,Vf]
 unfold vy
 cases back
 ·exact qr (zlF h at0)
 ·simp only [if_true]
  rw [XI];exact qr (zlF h at0)
theorem zlG (l:List V2) (at0:Int):ur (vy l at0 false)=ur l:=by
 rcases Nat.eq_zero_or_pos l.length with h | h
 ·rw [List.eq_nil_of_length_eq_zero h,Vf]
 exact zg8 (zlF h at0)
end Num
namespace Go.Proofs
open Go Go.Sv Num
variable {G:Imm}
theorem znx {p:yE} (h:xQ 6 p):XB p≤24:=by unfold XB;have:=h.1.2.2;have:=h.2.2.2;omega
theorem zpl {k:Nat} {p:yE} (h:xQ k p):UK p:=⟨⟨h.1.1,h.1.2.1⟩,h.2.1,h.2.2.1⟩
theorem zhi {α β:Type} (f:α→β) {l:List α} {g:Nat} {x:α} (h:l[g]? =some x):(l.take (g+1)).map f=(l.take g).map f++[f x]:=by rw [List.take_add_one,h];simp
end Go.Proofs
namespace Num
open Go Go.Proofs
def wB (p:V2):V2:=(-p.1,p.2)
theorem ZJ (p:V2):wB (wB p)=p:=Prod.ext (by show- -p.1=p.1;grind) rfl
theorem zlH (a b p:V2):cr (wB a) (wB b) (wB p)= -cr a b p:=by unfold cr Uv wB;grind
theorem zny (a b p:V2):cr p b a= -cr a b p:=by unfold cr Uv;grind
theorem zb7 {a b p:V2}:onS (wB a) (wB b) (wB p)↔onS a b p:=by
 unfold onS
 rw [zlH]
 refine and_congr ⟨fun h=>by grind,fun h=>by rw [h];grind⟩ (and_congr_left fun _=>?_)
 unfold btw wB
 constructor <;> rintro (⟨h1,h2⟩ | ⟨h1,h2⟩) <;> simp only at h1 h2 ⊢
 ·exact .inr (by grind)
 ·exact .inl (by grind)
 ·exact .inr (by grind)
 ·exact .inl (by grind)
theorem znz (a b c d:V2):UU (wB a) (wB b) (wB c) (wB d)=UU a b c d:=by
 refine SK.uniq (UE ..) ((UE a b c d).map wB wB (fun p hp=>⟨zb7.2 hp.1,zb7.2 hp.2⟩) (fun p hp=>?_) ZJ ZJ)
 rw [←ZJ p] at hp
 exact⟨zb7.1 hp.1,zb7.1 hp.2⟩
theorem zhj {n:Nat} {c:Nat→V2} (h:Sim n c):Sim n fun i=>wB (c i):=by
 refine⟨h.1,fun i j hij=>?_⟩
 obtain⟨h1,h2⟩:=h.2 i j hij
 refine⟨fun e=>h1 ?_,by rw [←h2];exact znz ..⟩
 rw [←ZJ (c i),show wB (c i)=wB (c j) from e,ZJ]
theorem zdV {n:Nat} {c:Nat→V2}:Sim n (fun i=>wB (c i))↔Sim n c:=
 ⟨fun h=>zb0 (fun i=>ZJ (c i)) (zhj h),zhj⟩
theorem zdW (l:List V2):vN (l.map wB)=vN l:=by
 rcases Nat.eq_zero_or_pos l.length with h0 | h0
 ·have:l=[]:=List.eq_nil_of_length_eq_zero h0
  subst this;rfl
 refine zg5 (List.length_map _) ?_
 rw [List.length_map,show ZR (l.map wB)=fun i=>wB (ZR l i) from funext (zg7 h0 _)]
 exact zdV
theorem zdX {n:Nat} {c:Nat→V2} (hp:Per n c) (hn:0<n) (i:Nat):trn (fun i=>wB (c (n-1-i%n))) n i=trn c n (n-1-i%n):=by
 have hi:=Nat.mod_lt i hn
 unfold trn
 show ue (cr (wB _) (wB _) (wB _)) 0=_
 rw [zlH,←zny]
 obtain⟨u,hu⟩:∃ u,u=i%n:=⟨_,rfl⟩
 have s1:(i+1)%n=if u+1=n then 0 else u+1:=by rw [hu];exact UF hn
 have s2:(i+n-1)%n=if u=0 then n-1 else u-1:=by
  rw [show i+n-1=i+(n-1) by omega,←Nat.mod_add_mod,←hu]
  split
  ·rename_i e;rw [e,Nat.zero_add,Nat.mod_eq_of_lt (by omega)]
  ·rw [show u+(n-1)=(u-1)+n by omega,Nat.add_mod_right,Nat.mod_eq_of_lt (by omega)]
 rw [s1,s2,←hu]
 rw [←hu] at hi
 have e1:c (n-1-if u+1=n then 0 else u+1)=c (n-1-u+n-1):=by
  rw [←hp (n-1-u+n-1)]
  split
  ·congr 1;rw [show n-1-u+n-1=n-1 by omega,Nat.mod_eq_of_lt (by omega)];rfl
  ·congr 1;rw [show n-1-u+n-1=(n-1-(u+1))+n by omega,Nat.add_mod_right,Nat.mod_eq_of_lt (by omega)]
 have e2:c (n-1-if u=0 then n-1 else u-1)=c (n-1-u+1):=by
  rw [←hp (n-1-u+1)]
  split
  ·congr 1;rw [show n-1-u+1=n by omega,Nat.mod_self];omega
  ·congr 1;rw [Nat.mod_eq_of_lt (by omega)];omega
 rw [e1,e2]
theorem zlI (l:List V2):ur (l.reverse.map wB)=ur l:=by
 rcases Nat.eq_zero_or_pos l.length with h0 | h0
 ·have:l=[]:=List.eq_nil_of_length_eq_zero h0
  subst this;rfl
 have hc:ZR (l.reverse.map wB)=fun i=>wB (ZR l (l.length-1-i%l.length)):=funext fun i=>by rw [zg7 (by rwa [List.length_reverse]),Jf h0]
 have hs:vN (l.reverse.map wB)=vN l:=by rw [zdW,XI]
 rw [Bool.eq_iff_iff,JI,JI,←XH,←XH,hs,List.length_map,List.length_reverse,hc]
 refine and_congr_left fun _=>⟨fun h i=>?_,fun h i=>by rw [zdX (uz l) h0];exact h _⟩
 have:=h (l.length-1-i%l.length)
 have hi:=Nat.mod_lt i h0
 rw [zdX (uz l) h0,Nat.mod_eq_of_lt (show l.length-1-i%l.length<l.length by omega),show l.length-1-(l.length-1-i%l.length)=i%l.length by omega,JH (uz l) h0] at this
 exact this
def Wz {α:Type}:List α→List α
 | []=>[]
 | x::r=>x::r.reverse
theorem UN {α:Type} (l:List α):(Wz l).length=l.length:=by cases l <;> simp [Wz]
theorem qD {α β:Type} (f:α→β) (l:List α):(Wz l).map f=Wz (l.map f):=by cases l <;> simp [Wz]
theorem zjj {α:Type} (l:List α):Wz (Wz l)=l:=by cases l <;> simp [Wz]
theorem zdY {α:Type} {l:List α} {x:α}:x∈Wz l↔x∈l:=by cases l <;> simp [Wz]
theorem zdZ {α:Type} (l:List α):Wz l=l.reverse.drop (l.length-1)++l.reverse.take (l.length-1):=by
  cases l with
  | nil=>rfl
  | cons x r=>
    rw [List.reverse_cons,List.length_cons,Nat.add_sub_cancel,List.drop_left' (by simp),List.take_left' (by simp)];rfl
theorem zhk (l:List V2):vN (Wz l)=vN l:=by
 rw [zdZ,show l.length-1=l.length-1 from rfl,qr (by rw [List.length_reverse];omega),XI]
def uh (l:List V2):List V2:=(Wz l).map wB
theorem WA (l:List V2):(uh l).length=l.length:=by unfold uh;rw [List.length_map,UN]
theorem za4 (l:List V2):uh (uh l)=l:=by
 unfold uh
 rw [←qD,List.map_map,show wB∘wB=id from funext ZJ,List.map_id,zjj]
theorem zlJ (l:List V2):vN (uh l)=vN l:=by unfold uh;rw [zdW,zhk]
theorem zlK (l:List V2):ur (uh l)=ur l:=by
 unfold uh
 rw [zdZ,List.map_append,List.map_drop,List.map_take]
 rw [zg8 (by rw [List.length_map,List.length_reverse];omega),zlI]
end Num
