/- scene: what it is made of, its points, how many digits. -/
import Derived.Test.YthhamejdmpjjlaaGreatDoorSsd
import Derived.Test.YthhamejdmpjjlaaGreatDoorSnv
import Derived.Test.YthhamejdmpjjlaaGreatDoorSzn
import Derived.MapKept
import Derived.Carry
namespace Num
open Go Go.Lib
abbrev RQ:=Bool×List Nat×List Nat
abbrev RP:=RQ×RQ
abbrev Sc:=List RP×List (List RP)×List (RP×RP)
abbrev YT:List UInt8:=[114,111,98,111,116]
abbrev XC:List UInt8:=[111,98,115,116,97,99,108,101]
abbrev XD:List UInt8:=[113,117,101,114,121]
def scL (s:Sc):List (List UInt8×List RP):=(YT,s.1)::(s.2.1.map (fun l=>(XC,l))++s.2.2.map fun q=>(XD,[q.1,q.2]))
theorem znb {s:Sc} {k:Nat} {l:List RP} (h:s.2.1[k]? =some l):(scL s)[k+1]? =some (XC,l):=by
 have hk:=(List.getElem?_eq_some_iff.1 h).1
 unfold scL
 rw [List.getElem?_cons_succ,List.getElem?_append_left (by simpa using hk),List.getElem?_map,h];rfl
theorem znc {s:Sc} {k:Nat} {q:RP×RP} (h:s.2.2[k]? =some q):(scL s)[s.2.1.length+k+1]? =some (XD,[q.1,q.2]):=by
 unfold scL
 rw [List.getElem?_cons_succ,List.getElem?_append_right (by simp),List.getElem?_map,List.length_map,Nat.add_sub_cancel_left,h];rfl
theorem ZI (s:Sc):(scL s).length=s.2.1.length+s.2.2.length+1:=by simp [scL]
def zlc (q:Rat):RQ:=(decide (q.num<0),yz q.num.natAbs,yz q.den)
def Qq (p:Rat×Rat):RP:=(zlc p.1,zlc p.2)
def Je (s:Sc):List RP:=(scL s).flatMap (·.2)
theorem zbM {α β:Type} (f:α→List β) (l:List α) (k:Nat):((l.take k).flatMap f).length≤(l.flatMap f).length:=by
 conv=>rhs;rw [←List.take_append_drop k l,List.flatMap_append,List.length_append]
 omega
theorem ziN {α β:Type} (f:α→List β) {l:List α} {k:Nat} {x:α} (h:l[k]? =some x):(l.take (k+1)).flatMap f=(l.take k).flatMap f++f x:=by
 rw [List.take_add_one,h,List.flatMap_append];simp
end Num
namespace Go.Proofs
open Go Go.Sv Num
variable {G:Imm}
structure ScOk (s:Sc) (k n:Nat):Prop where
 pos:0<k
 pt:∀ x∈scL s,∀p∈x.2,xQ k p
 len:(Je s).length≤n
 row:(scL s).length≤n
theorem ScOk.lrow {s:Sc} {k n:Nat} (h:ScOk s k n) {x:List UInt8×List RP} (hx:x∈scL s):x.2.length≤n:=by
 obtain⟨i,hi⟩:=List.getElem?_of_mem hx
 have h1:=ziN (fun x:List UInt8×List RP=>x.2) hi
 have h2:=zbM (fun x:List UInt8×List RP=>x.2) (scL s) (i+1)
 have h3:=h.len
 unfold Je at h3
 rw [h1,List.length_append] at h2
 omega
theorem ux (s:Sc):(YT,s.1)∈scL s:=by simp [scL]
theorem uy {s:Sc} {l:List RP} (h:l∈s.2.1):(XC,l)∈scL s:=by
 obtain⟨i,hi⟩:=List.getElem?_of_mem h;exact List.mem_of_getElem? (znb hi)
theorem zbN {s:Sc} {q:RP×RP} (h:q∈s.2.2):(XD,[q.1,q.2])∈scL s:=by
 obtain⟨i,hi⟩:=List.getElem?_of_mem h;exact List.mem_of_getElem? (znc hi)
theorem zgU (q:Rat):qv (zlc q)=q:=by
 show mkRat (uj (decide (q.num<0)) (val (yz q.num.natAbs))) (val (yz q.den))=q
 rw [xq,xq,va];exact Rat.mkRat_self q
abbrev XU (l:List RP):List SV:=[zU 6 pc l]
abbrev Jo (q:RP×RP):List SV:=pc q.1++pc q.2
abbrev Yn (s:Sc):List SV:=[zU 6 pc s.1,zU 1 XU s.2.1,zU 12 Jo s.2.2]
end Go.Proofs
namespace Num
abbrev QP:=Rat×Rat
abbrev QS:=List QP×List (List QP)×List (QP×QP)
end Num
namespace Go.Proofs
open Go Go.Sv Num
variable {G:Imm}
abbrev uo (l:List QP):List SV:=[zU 6 yy l]
abbrev vX (q:QP×QP):List SV:=yy q.1++yy q.2
abbrev XV (s:QS):List SV:=[zU 6 yy s.1,zU 1 uo s.2.1,zU 12 vX s.2.2]
def Uy (l:List RP):List QP:=l.map pv
def pv2 (q:RP×RP):QP×QP:=(pv q.1,pv q.2)
def Yj (s:Sc):QS:=(Uy s.1,s.2.1.map Uy,s.2.2.map pv2)
theorem YU:∀ l:List (List QP),(l.flatMap uo).length=l.length*1
 | []=>rfl
 | x::l=>by rw [List.flatMap_cons,List.length_append,YU l,List.length_cons];simp;omega
theorem YV:∀ l:List (QP×QP),(l.flatMap vX).length=l.length*12
 | []=>rfl
 | x::l=>by rw [List.flatMap_cons,List.length_append,YV l,List.length_cons];simp;omega
theorem YW {α β:Type} (f:α→β) {l:List α} {k:Nat} {x:α} (h:l[k]? =some x):(l.take (k+1)).map f=(l.take k).map f++[f x]:=by
 rw [List.take_add_one,h];simp
end Go.Proofs
namespace Go.Proofs
open Go Go.Sv Num
variable {G:Imm}
end Go.Proofs
namespace Num
open Go Go.Lib
end Num
namespace Go.Proofs
open Go Go.Sv Num
variable {G:Imm}
end Go.Proofs
namespace Num
open Go Go.Lib
end Num
namespace Go.Proofs
open Go Go.Sv Num
variable {G:Imm}
end Go.Proofs
namespace Go.Sv
open Go Go.RowKit Go.MapKept
section
variable {P:Program} {G:Imm} {E:Env} {r:Option Nat}
def znd (P:Program) (G:Imm) (E:Env) (r:Option Nat) (o:Oper) (S:St) (K:St→Env→Prop):Prop:=
  ∀n I F a W (next:Act→World→Prop) (Q:Exit→Act→World→Prop),Sat G E r S I F a W →
    (∀S' E' I' F' a' W',Sat G E' r S' I' F' a' W'→K S' E'→Fram (own S F) I W (own S' F') I' W'→next a' W')→o.wpIn (Fr r) n P a W next Q
inductive RunV (P:Program) (G:Imm) (r:Option Nat) (gd:Nat→Option Nat):List Oper→Env→St→(St→Prop)→Prop
 | run {ops:List Oper} {S:St} {K:St→Prop} (h:Run P G noEnv r gd false ops S K):RunV P G r gd ops noEnv S K
 | ok {o:Oper} {ops:List Oper} {E:Env} {S:St} {K:St→Prop} {s:SV} (ho:OpOK P G S.h o S.g s) (hg:zH gd S.g o true) (hd:∀ t,o.dst=some t→t<S.n) (h:RunV P G r gd ops E (S.set o.dst s) K):RunV P G r gd (o::ops) E S K
 | sw {o:Oper} {ops:List Oper} {E:Env} {S:St} {K:St→Prop} (K':St→Env→Prop) (ho:znd P G E r o S K') (hg:zH gd S.g o true) (h:∀ S' E',K' S' E'→RunV P G r gd ops E' S' K):RunV P G r gd (o::ops) E S K
theorem zfL {gd:Nat→Option Nat} (ops:Array Oper) (hgd:∀ j,gd j=(ops[j]?).bind (·.dst)) {l:List Oper} {S:St} {K:St→Prop} (h:RunV P G r gd l E S K):
    ∀(k:Nat),(∀i,ops[k+i]? =l[i]?)→∀ (n:Nat) (Q:Exit→Act→World→Prop) (I:Imm) (F:Nat→Prop) (a:Act) (W:World),Sat G E r S I F a W →
      (∀S' I' F' a' W',Sat G noEnv r S' I' F' a' W'→K S'→Fram (own S F) I W (own S' F') I' W'→Q .normal a' W')→wpOpsIn (Fr r) n P ops Q ((List.range l.length).map (k+ ·)) a W:=by
  induction h with
  | run h=>exact zah ops hgd h
  | @ok o l E S K s ho hg hd _ ih=>
    intro k hl n Q I F a W hs hk
    have h0:ops[k]? =some o:=by simpa using hl 0
    have hl':∀ i,ops[k+1+i]? =l[i]? :=fun i=>by have:=hl (i+1);simpa [Nat.add_assoc,Nat.add_comm 1 i] using this
    simp only [List.length_cons,List.range_succ_eq_map,List.map_cons,List.map_map,wpOpsIn,Nat.add_zero,h0]
    rw [xL hgd hs hg,if_pos rfl]
    refine (ho.eff hd (E:=E) (r:=r)) n I F a W _ Q hs fun S' I' F' a' W' hs' hk' hf=>?_
    subst hk'
    have:=ih (k+1) hl' n Q I' F' a' W' hs' fun S'' I'' F'' a'' W'' h1 h2 h3=>hk S'' I'' F'' a'' W'' h1 h2 (hf.trans h3)
    rwa [show ((fun x=>k+x)∘Nat.succ)=(fun x=>k+1+x) from by funext x;simp;omega]
  | @sw o l E S K K' ho hg _ ih=>
    intro k hl n Q I F a W hs hk
    have h0:ops[k]? =some o:=by simpa using hl 0
    have hl':∀ i,ops[k+1+i]? =l[i]? :=fun i=>by have:=hl (i+1);simpa [Nat.add_assoc,Nat.add_comm 1 i] using this
    simp only [List.length_cons,List.range_succ_eq_map,List.map_cons,List.map_map,wpOpsIn,Nat.add_zero,h0]
    rw [xL hgd hs hg,if_pos rfl]
    refine ho n I F a W _ Q hs fun S' E' I' F' a' W' hs' hk' hf=>?_
    have:=ih S' E' hk' (k+1) hl' n Q I' F' a' W' hs' fun S'' I'' F'' a'' W'' h1 h2 h3=>hk S'' I'' F'' a'' W'' h1 h2 (hf.trans h3)
    rwa [show ((fun x=>k+x)∘Nat.succ)=(fun x=>k+1+x) from by funext x;simp;omega]
theorem ziO {id:Nat} {l:List Oper} {S:St} {Q:Exit→St→Prop} (h:RunV P G r (xA l) l noEnv S (fun S'=>Q .normal S')):T P G noEnv r (.region id l.toArray false) S Q:=by
 intro n I F a W hs
 refine wpIn_region ?_
 have:=zfL l.toArray (fun j=>by simp [xA]) h 0 (by intro i;simp) n (post G noEnv r Q (own S F) I W) I F a W hs fun S' I' F' a' W' h1 h2 h3=>⟨S',I',F',h1,h2,h3⟩
 simpa using this
theorem zfM {id:Nat} {l:List Oper} {y:Code} {S:St} {Q:Exit→St→Prop} (h:RunV P G r (xA l) l noEnv S (fun S'=>T P G noEnv r y S' Q)):T P G noEnv r (.seq (.region id l.toArray false) y) S Q:=
 zh (ziO h)
def zab (b:Nat) (es:Array MapEntry) (c:Nat):Env where
 ok:=fun _ _ F W=>(∀k,F k↔k=b)∧W.heap[b]? =some (.map es c)
 stab:=fun _ _ F _ _ _ h _ _ _ _ _ hw _=>⟨h.1,by rw [hw b ((h.1 b).2 rfl)];exact h.2⟩
variable {o:Oper} {n:Nat} {g:List (Nat×SV)} {h:HL} {d:List Nat} {i:Nat×Bool}
theorem zfN {t d0:Nat} (hop:o.op= .makeMap t none) (ht:o.dst=some d0) (hd:Nat.blt d0 n=true):znd P G noEnv r o ⟨n,g,h,d,i⟩ (fun S' E'=>∃ b,S'=⟨n,(d0,eqS (.map (some b)))::g,h,d,i⟩∧E'=zab b #[] 0):=by
 intro n1 I F a W next Q hs k
 have hrun:(execOp a.eval o).run P W= .ok (.value (.map (some W.heap.size))) (W.alloc (.map #[] 0)):=by
  simp [execOp,hop,run_makeMap]
 obtain⟨hm',hf⟩:=uW hs.m (.map #[] 0) (fun _=>False)
 obtain⟨_,hf2⟩:=uW hs.m (.map #[] 0) (own ⟨n,g,h,d,i⟩ F)
 have hn:=hs.m.none_new
 have hF:∀ b,¬F b:=hs.e
 have hs':Sat G (zab W.heap.size #[] 0) r ⟨n,g,h,d,i⟩ I (fun b=>b=W.heap.size) a (W.alloc (.map #[] 0)):=by
  refine⟨hs.n,hs.g,hm',hs.h.keep hf fun _ _ h=>h,hs.d,hs.dn,fun b hb=>(xB _ _ (yp (hs.dk b hb))).trans (hs.dk b hb),⟨fun _=>Iff.rfl,alloc_heap_at _ _⟩,fun b hb=>?_,fun k hk=>?_⟩
  ·subst hb
   exact⟨by simp,hn,fun h=>absurd (hs.h.lt h).1 (by omega),fun h=>absurd (yp (hs.dk _ h)) (by omega)⟩
  ·obtain⟨⟨rec,hr⟩,ho⟩:=hs.l k hk
   refine⟨⟨rec,(xB _ _ (yp hr)).trans hr⟩,fun hx=>?_⟩
   rcases hx with hx | hx | hx
   ·exact ho (.inl hx)
   ·exact ho (.inr (.inl hx))
   ·have:=yp hr;omega
 suffices hh:next (a.put (some d0) (.map (some W.heap.size))) (W.alloc (.map #[] 0)) from xG (by simp [hop]) hrun (by rw [←ht] at hh;exact hh)
 refine k ⟨n,(d0,eqS (.map (some W.heap.size)))::g,h,d,i⟩ _ I (fun b=>b=W.heap.size) _ _ (hs'.put (d:=some d0) (s:=eqS (.map (some W.heap.size))) rfl fun t e=>by cases e;simpa [Nat.blt_eq] using hd) ⟨_,rfl,rfl⟩ (hf2.weaken (fun _ h=>h) fun b hb=>.inl ?_)
 rcases hb with hb | hb | hb
 ·exact .inl (.inl hb)
 ·exact .inl (.inr (.inl hb))
 ·exact .inr hb
theorem ziP {t kt et b c:Nat} {es:Array MapEntry} {x y z:Operand} {w:List UInt8} {v:Value} (hop:o.op= .insert t x y z) (hu:P.underlying t=some (.map kt et)) (hk:P.underlying kt=some .string) (hx:xd g x=some (eqS (.map (some b)))) (hy:xd g y=some (xb w)) (hz:xd g z=some (eqS v)) (hf:Instr.findNow .string (.string ⟨w.toArray⟩) es.toList 0=some none) (ht:o.dst=none):
  znd P G (zab b es c) r o ⟨n,g,h,d,i⟩ (fun S' E'=>S'=⟨n,g,h,d,i⟩∧E'=zab b (es.push {key:=.string ⟨w.toArray⟩,val:=v,born:=c}) (c+1)):=by
 intro n1 I F a W next Q hs k
 obtain⟨hF,hb⟩:(∀k,F k↔k=b)∧W.heap[b]? =some (.map es c):=hs.e
 have hr:=vz hs o
 have h1:a.eval x= .map (some b):=hr.get (by simp [hop,Op.operands]) hx
 have h2:a.eval y= .string ⟨w.toArray⟩:=hr.get (by simp [hop,Op.operands]) hy
 have h3:a.eval z=v:=hr.get (by simp [hop,Op.operands]) hz
 have hky:IsKey .string (.string ⟨w.toArray⟩):=trivial
 have hrun:(execOp a.eval o).run P W= .ok .skip {W with heap:=W.heap.setIfInBounds b (.map (es.push {key:=.string ⟨w.toArray⟩,val:=v,born:=c}) (c+1))}:=by
  simp [execOp,hop,Instr.mapUpdate,h1,h2,h3,run_underlying hu,MapKept.run_getObj_map hb,MapKept.run_checkKey hk hky,MapKept.run_findKey hk hf,MapKept.run_setObj_map _ hb,Result.andThen]
 obtain⟨g1,g2⟩:=MapKept.heap_set (o':=.map (es.push {key:=.string ⟨w.toArray⟩,val:=v,born:=c}) (c+1)) hb
 have hfb:=hs.f b ((hF b).2 rfl)
 obtain⟨hm',hf'⟩:=uO (W':={W with heap:=W.heap.setIfInBounds b (.map (es.push {key:=.string ⟨w.toArray⟩,val:=v,born:=c}) (c+1))}) hs.m hfb.2.1 rfl rfl rfl (by simp) g2
 suffices hh:next a {W with heap:=W.heap.setIfInBounds b (.map (es.push {key:=.string ⟨w.toArray⟩,val:=v,born:=c}) (c+1))} from xG (by simp [hop]) hrun (by show next (a.put o.dst undef) _;rw [ht];exact hh)
 refine k ⟨n,g,h,d,i⟩ (zab b (es.push {key:=.string ⟨w.toArray⟩,val:=v,born:=c}) (c+1)) I F a _ ⟨hs.n,hs.g,hm',hs.h.keep hf' fun k hk e=>hfb.2.2.1 (e▸hk),hs.d,hs.dn,fun k hk=>(g2 k fun e=>hfb.2.2.2 (e▸hk)).trans (hs.dk k hk),⟨hF,g1⟩,fun k hk=>?_,fun k hk=>?_⟩ ⟨rfl,rfl⟩ (hf'.weaken (fun k hk=>.inr (.inr ((hF k).2 hk))) fun k hk=>.inr hk)
 ·have:=hs.f k hk;exact⟨by simpa using this.1,this.2⟩
 ·obtain⟨⟨rec,hr⟩,ho⟩:=hs.l k hk
  exact⟨⟨rec,(g2 k fun e=>ho (.inr (.inr ((hF k).2 e)))).trans hr⟩,ho⟩
def zld (z:Value):Option (Nat×Value)→Value
 | some p=>p.2
 | none=>z
theorem ziQ {t kt et b c d0:Nat} {es:Array MapEntry} {x y:Operand} {w:List UInt8} {z v:Value} {res:Option (Nat×Value)} (hop:o.op= .lookup t x y false) (hu:P.underlying t=some (.map kt et)) (hk:P.underlying kt=some .string) (hx:xd g x=some (eqS (.map (some b)))) (hy:xd g y=some (xb w)) (hz:∀ W,(zeroValue et).run P W= .ok z W)
  (hf:Instr.findNow .string (.string ⟨w.toArray⟩) es.toList 0=some res) (hv:v=zld z res) (ht:o.dst=some d0) (hd:Nat.blt d0 n=true):
  znd P G (zab b es c) r o ⟨n,g,h,d,i⟩ (fun S' E'=>S'=⟨n,(d0,eqS v)::g,h,d,i⟩∧E'=noEnv):=by
 intro n1 I F a W next Q hs k
 obtain⟨hF,hb⟩:(∀k,F k↔k=b)∧W.heap[b]? =some (.map es c):=hs.e
 have hr:=vz hs o
 have h1:a.eval x= .map (some b):=hr.get (by simp [hop,Op.operands]) hx
 have h2:a.eval y= .string ⟨w.toArray⟩:=hr.get (by simp [hop,Op.operands]) hy
 have hky:IsKey .string (.string ⟨w.toArray⟩):=trivial
 have hrun:(execOp a.eval o).run P W= .ok (.value v) W:=by
  subst hv
  cases res with
  | none=>simp [zld,execOp,hop,Instr.lookup,h1,h2,run_underlying hu,MapKept.run_getObj_map hb,MapKept.run_checkKey hk hky,MapKept.run_findKey hk hf,hz,Result.andThen]
  | some p=>simp [zld,execOp,hop,Instr.lookup,h1,h2,run_underlying hu,MapKept.run_getObj_map hb,MapKept.run_checkKey hk hky,MapKept.run_findKey hk hf,Result.andThen]
 have hs':Sat G noEnv r ⟨n,g,h,d,i⟩ I (fun _=>False) a W:=⟨hs.n,hs.g,hs.m,hs.h,hs.d,hs.dn,hs.dk,fun _ h=>h,fun _ h=>h.elim,fun k hk=>by
  obtain⟨hr,ho⟩:=hs.l k hk
  exact⟨hr,fun hx=>ho (by rcases hx with hx | hx | hx;exact .inl hx;exact .inr (.inl hx);exact hx.elim)⟩⟩
 suffices hh:next (a.put (some d0) v) W from xG (by simp [hop]) hrun (by rw [←ht] at hh;exact hh)
 refine k ⟨n,(d0,eqS v)::g,h,d,i⟩ _ I (fun _=>False) _ _ (hs'.put (d:=some d0) (s:=eqS v) rfl fun t e=>by cases e;simpa [Nat.blt_eq] using hd) ⟨rfl,rfl⟩ ((Fram.refl _ _ _).weaken (fun _ h=>h) fun b hb=>.inr ?_)
 rcases hb with hb | hb | hb
 ·exact .inl hb
 ·exact .inr (.inl hb)
 ·exact hb.elim
end
section
variable {P:Program} {G:Imm} {E:Env} {r:Option Nat} {gd:Nat→Option Nat} {p:Bool} {o:Oper} {ops:List Oper} {K:St→Prop} {H:HL} {g:List (Nat×SV)}
theorem qb {f:FuncId} {x:Operand} {v:Value} (hop:o.op= .makeFunc (.func f) #[x] #[]) (hx:xd g x=some (eqS v)):OpOK P G H o g (eqS (.func (.func f) #[v] #[])):=
 yC (by simp [hop]) fun I W a _ _ hr=>by
  have h1:a.eval x=v:=hr.get (by simp [hop,Op.operands]) hx
  exact⟨_,by simp [execOp,hop,Instr.makeFunc,h1],rfl⟩
theorem zbO {t:TypeId} {a b:Value} {c:Bool} {W:World} (h:∀ k,(Op.equalIn (k+1) t a b).run P W= .ok c W):(Op.equal t a b).run P W= .ok c W:=by
 obtain⟨k,hk⟩:∃ k,Op.maxDepth=k+1:=⟨_,rfl⟩
 unfold Op.equal
 rw [hk]
 exact h k
theorem Qr {t u:TypeId} {x:Operand} {f:Fn} {c e:Array Value} {ps rs:Array TypeId} {vv:Bool} (ht:P.underlying t=some (.func ps rs vv)) (hop:o.op= .binOp .neq t x (.const .nilFunc) u) (hx:xd g x=some (eqS (.func f c e))):OpOK P G H o g (zm true):=
 yC (by simp [hop]) fun I W a _ _ hr=>by
  have h1:a.eval x= .func f c e:=hr.get (by simp [hop,Op.operands]) hx
  have h2:(Op.equal t (.func f c e) .nilFunc).run P W= .ok false W:=zbO fun k=>by
   rw [Op.equalIn];simp only [Sem.run_bind,run_underlying ht,Result.andThen_ok];rfl
  refine⟨.bool true,?_,rfl⟩
  have h3:(binOp .neq t (.func f c e) .nilFunc).run P W= .ok (.bool true) W:=by
   show ((Op.equal t (.func f c e) .nilFunc) >>= fun q=>pure (.bool (!q)):Sem Value).run P W=_
   simp only [Sem.run_bind,h2,Result.andThen_ok,Sem.run_pure];rfl
  have h4:a.eval (.const .nilFunc)= .nilFunc:=rfl
  simp only [execOp,hop,h1,h4,Sem.run_bind,Sem.run_pure]
  have h5:(eqGuard .neq t x (.const .nilFunc) (.func f c e) .nilFunc).run P W= .ok () W:=rfl
  simp only [h5,h3,Result.andThen_ok]
theorem zfO {t u:TypeId} {x:Operand} {ps rs:Array TypeId} {vv:Bool} (ht:P.underlying t=some (.func ps rs vv)) (hop:o.op= .binOp .neq t x (.const .nilFunc) u) (hx:xd g x=some (eqS .nilFunc)):OpOK P G H o g (zm false):=
 yC (by simp [hop]) fun I W a _ _ hr=>by
  have h1:a.eval x= .nilFunc:=hr.get (by simp [hop,Op.operands]) hx
  have h2:(Op.equal t .nilFunc .nilFunc).run P W= .ok true W:=zbO fun k=>by
   rw [Op.equalIn];simp only [Sem.run_bind,run_underlying ht,Result.andThen_ok];rfl
  refine⟨.bool false,?_,rfl⟩
  have h3:(binOp .neq t .nilFunc .nilFunc).run P W= .ok (.bool false) W:=by
   show ((Op.equal t .nilFunc .nilFunc) >>= fun q=>pure (.bool (!q)):Sem Value).run P W=_
   simp only [Sem.run_bind,h2,Result.andThen_ok,Sem.run_pure];rfl
  have h4:a.eval (.const .nilFunc)= .nilFunc:=rfl
  simp only [execOp,hop,h1,h4,Sem.run_bind,Sem.run_pure]
  have h5:(eqGuard .neq t x (.const .nilFunc) .nilFunc .nilFunc).run P W= .ok () W:=rfl
  simp only [h5,h3,Result.andThen_ok]
theorem Uz {op:BinOp} {t u:TypeId} {x:Operand} {w:Value} {s:SV} {b c:Bool} (hop:o.op= .binOp op t x (.const w) u) (hx:xd g x=some s) (hs:∀ I v,s.den I v→∀ W,(Op.equal t v w).run P W= .ok c W∧(∀y,(eqGuard op t x y v w).run P W= .ok () W) ∧
   binOp op t v w=(Op.equal t v w >>= fun q=>pure (.bool (q==b)))):OpOK P G H o g (zm (c==b)):=
 yC (by simp [hop]) fun I W a _ _ hr=>by
  have hv:=hr.get (by simp [hop,Op.operands]) hx
  obtain⟨h2,h5,h3⟩:=hs I _ hv W
  refine⟨.bool (c==b),?_,rfl⟩
  have h4:a.eval (.const w)=w:=rfl
  simp only [execOp,hop,h4,Sem.run_bind,Sem.run_pure,h5,h3,h2,Result.andThen_ok]
theorem zaQ {t e st:Nat} [IsSl P t e st] {α:Type} {f:α→List SV} {l:List α} {I:Imm} {v:Value} {W:World} (hl:l≠[]) (hv:(zU st f l).den I v):∃ a k cap,v= .slice (some a) k cap∧(Op.equal t v (.slice none 0 0)).run P W= .ok false W:=by
 obtain⟨a,cap,rfl,_,_,h⟩:=hv
 obtain⟨b,o,rfl,_⟩:=h.resolve_left hl
 exact⟨_,_,_,rfl,zbO fun k=>by rw [Op.equalIn];simp only [Sem.run_bind,run_underlying (IsSl.u (P:=P) (t:=t) (e:=e) (st:=st)),Result.andThen_ok];rfl⟩
theorem ziR {t u e st:Nat} [IsSl P t e st] {x:Operand} {α:Type} {f:α→List SV} {l:List α} (hop:o.op= .binOp .neq t x (.const (.slice none 0 0)) u) (hx:xd g x=some (zU st f l)) (hl:l≠[]):OpOK P G H o g (zm true):=
 Uz (c:=false) (b:=false) hop hx fun I v hv W=>by
  obtain⟨a,k,cap,rfl,h⟩:=zaQ (P:=P) (t:=t) (W:=W) hl hv
  exact⟨h,fun _=>rfl,by show (do pure (.bool (!(←Op.equal t (.slice (some a) k cap) (.slice none 0 0)))):Sem Value)=_;congr 1;funext q;cases q <;> rfl⟩
theorem Va {t u e st:Nat} [IsSl P t e st] {x:Operand} {α:Type} {f:α→List SV} {l:List α} (hop:o.op= .binOp .eql t x (.const (.slice none 0 0)) u) (hx:xd g x=some (zU st f l)) (hl:l≠[]):OpOK P G H o g (zm false):=
 Uz (c:=false) (b:=true) hop hx fun I v hv W=>by
  obtain⟨a,k,cap,rfl,h⟩:=zaQ (P:=P) (t:=t) (W:=W) hl hv
  exact⟨h,fun _=>rfl,by show (do pure (.bool (←Op.equal t (.slice (some a) k cap) (.slice none 0 0))):Sem Value)=_;congr 1;funext q;cases q <;> rfl⟩
theorem qd {t e st:Nat} [IsSl P t e st] {W:World}:(Op.equal t (.slice none 0 0) (.slice none 0 0)).run P W= .ok true W:=
 zbO fun k=>by rw [Op.equalIn];simp only [Sem.run_bind,run_underlying (IsSl.u (P:=P) (t:=t) (e:=e) (st:=st)),Result.andThen_ok];rfl
theorem zfP {t u e st:Nat} [IsSl P t e st] {x:Operand} (hop:o.op= .binOp .neq t x (.const (.slice none 0 0)) u) (hx:xd g x=some (eqS (.slice none 0 0))):OpOK P G H o g (zm false):=
 Uz (c:=true) (b:=false) hop hx fun I v hv W=>by
  obtain rfl:v= .slice none 0 0:=hv
  exact⟨qd (e:=e) (st:=st),fun _=>rfl,by show (do pure (.bool (!(←Op.equal t (.slice none 0 0) (.slice none 0 0)))):Sem Value)=_;congr 1;funext q;cases q <;> rfl⟩
theorem qe {t u e st:Nat} [IsSl P t e st] {x:Operand} (hop:o.op= .binOp .eql t x (.const (.slice none 0 0)) u) (hx:xd g x=some (eqS (.slice none 0 0))):OpOK P G H o g (zm true):=
 Uz (c:=true) (b:=true) hop hx fun I v hv W=>by
  obtain rfl:v= .slice none 0 0:=hv
  exact⟨qd (e:=e) (st:=st),fun _=>rfl,by show (do pure (.bool (←Op.equal t (.slice none 0 0) (.slice none 0 0))):Sem Value)=_;congr 1;funext q;cases q <;> rfl⟩
theorem zbP {x:Operand} {xs:Array Operand} {ts:Array TypeId} {f:FuncId} {v0:Value} {args:List SV} {Hp:HL} {Q:SV→HL→Prop} (hop:o.op= .call {callee:=.value x,args:=xs,argTypes:=ts})
  (hf:xd g x=some (eqS (.func (.func f) #[v0] #[]))) (ha:uJ g xs.toList=some args) (hs:CallSpec P G f (eqS v0::args) Hp Q):OpL P G o g Hp Q:=by
 intro n r I W a next Qx hm hh hr k
 have hv:a.eval x= .func (.func f) #[v0] #[]:=hr.get (x:=x) (by simp [hop,Op.operands,Call.operands]) hf
 have hd:dens I args (xs.toList.map a.eval):=uA ha fun y hy s hs=>hr y (by simp [hop,Op.operands,Call.operands];exact .inr (by simpa using hy)) s hs
 have hrun:(execOp a.eval o).run P W= .ok (.enter f (v0::xs.toList.map a.eval).toArray) W:=by
  have e: #[v0]++Array.map a.eval xs++ #[]=(v0::xs.toList.map a.eval).toArray:=by apply Array.ext';simp
  simp only [execOp,hop,resolve,hv,Deferred.ofValue,Sem.run_bind,Sem.run_pure,Result.andThen_ok,invoke,e,hs.enters]
 refine xG (by simp [hop]) hrun ?_
 refine⟨fun h=>by simp [Fr,Fence.wide] at h,ZW r ((hs.main I W _ hm hh (zW rfl hd)).mono ?_)⟩
 rintro e W' ⟨v,I',s,H',rfl,hQ,hsv,hm',hh',hfr⟩
 exact k v I' W' s H' hQ hfr hm' hh' hsv
end
section
variable {P:Program} {G:Imm} {E:Env} {r:Option Nat} {gd:Nat→Option Nat} {o:Oper} {ops:List Oper} {K:St→Prop}
theorem RunV.one {n t:Nat} {g:List (Nat×SV)} {h:HL} {d:List Nat} {i:Nat×Bool} {s:SV} (ho:OpOK P G h o g s) (hg:zH gd g o true) (ht:o.dst=some t) (hd:Nat.blt t n=true) (hr:RunV P G r gd ops E ⟨n,(t,s)::g,h,d,i⟩ K):RunV P G r gd (o::ops) E ⟨n,g,h,d,i⟩ K:=
 .ok ho hg (fun t' h'=>by rw [ht] at h';cases h';simpa [Nat.blt_eq] using hd) (by simpa only [St.set,ht] using hr)
theorem RunV.map {n t d0:Nat} {g:List (Nat×SV)} {h:HL} {d:List Nat} {i:Nat×Bool} (hop:o.op= .makeMap t none) (hg:zH gd g o true) (ht:o.dst=some d0) (hd:Nat.blt d0 n=true) (hr:∀ b,RunV P G r gd ops (zab b #[] 0) ⟨n,(d0,eqS (.map (some b)))::g,h,d,i⟩ K):RunV P G r gd (o::ops) noEnv ⟨n,g,h,d,i⟩ K:=
 .sw _ (zfN hop ht hd) hg fun S' E' ⟨b,e1,e2⟩=>by subst e1;subst e2;exact hr b
theorem RunV.ins {n t kt et b c:Nat} {g:List (Nat×SV)} {h:HL} {d:List Nat} {i:Nat×Bool} {es:Array MapEntry} {x y z:Operand} {w:List UInt8} {v:Value} (hop:o.op= .insert t x y z) (hu:P.underlying t=some (.map kt et)) (hk:P.underlying kt=some .string) (hx:xd g x=some (eqS (.map (some b)))) (hy:xd g y=some (xb w)) (hz:xd g z=some (eqS v)) (hf:Instr.findNow .string (.string ⟨w.toArray⟩) es.toList 0=some none) (ht:o.dst=none) (hg:zH gd g o true)
  (hr:RunV P G r gd ops (zab b (es.push {key:=.string ⟨w.toArray⟩,val:=v,born:=c}) (c+1)) ⟨n,g,h,d,i⟩ K):RunV P G r gd (o::ops) (zab b es c) ⟨n,g,h,d,i⟩ K:=
 .sw _ (ziP hop hu hk hx hy hz hf ht) hg fun S' E' ⟨e1,e2⟩=>by subst e1;subst e2;exact hr
theorem RunV.look {n t kt et b c d0:Nat} {g:List (Nat×SV)} {h:HL} {d:List Nat} {i:Nat×Bool} {es:Array MapEntry} {x y:Operand} {w:List UInt8} {z v:Value} {res:Option (Nat×Value)} (hop:o.op= .lookup t x y false) (hu:P.underlying t=some (.map kt et)) (hk:P.underlying kt=some .string) (hx:xd g x=some (eqS (.map (some b)))) (hy:xd g y=some (xb w)) (hz:∀ W,(zeroValue et).run P W= .ok z W)
  (hf:Instr.findNow .string (.string ⟨w.toArray⟩) es.toList 0=some res) (hv:v=zld z res) (ht:o.dst=some d0) (hd:Nat.blt d0 n=true) (hg:zH gd g o true)
  (hr:Run P G noEnv r gd false ops ⟨n,(d0,eqS v)::g,h,d,i⟩ K):RunV P G r gd (o::ops) (zab b es c) ⟨n,g,h,d,i⟩ K:=
 .sw _ (ziQ hop hu hk hx hy hz hf hv ht hd) hg fun S' E' ⟨e1,e2⟩=>by subst e1;subst e2;exact .run hr
theorem Zd {n:Nat} {g:List (Nat×SV)} {h h':HL} {d:List Nat} {i:Nat×Bool} (hp:h.Perm h'):ZT G E r ⟨n,g,h,d,i⟩ ⟨n,g,h',d,i⟩:=fun I F _ _ s=>by
 have hb:(bs h).Perm (bs h'):=hp.filterMap _
 have ho:∀ b,own ⟨n,g,h',d,i⟩ F b↔own ⟨n,g,h,d,i⟩ F b:=fun b=>by simp only [own];rw [hb.mem_iff]
 exact⟨I,{s with
  h:=⟨hb.nodup_iff.1 s.h.nodup,fun p hp'=>s.h.mem p (hp.mem_iff.2 hp')⟩
  f:=fun b hF=>⟨(s.f b hF).1,(s.f b hF).2.1,fun x=>(s.f b hF).2.2.1 (hb.mem_iff.2 x),(s.f b hF).2.2.2⟩
  l:=fun k hk=>⟨(s.l k hk).1,fun x=>(s.l k hk).2 ((ho k).1 x)⟩},(Fram.refl _ _ _).weaken (fun _ h=>h) fun b h=>.inr ((ho b).1 h)⟩
theorem CallSpec.frame (pre suf:HL) {f:FuncId} {args:List SV} {Hp:HL} {Q:SV→HL→Prop} (h:CallSpec P G f args Hp Q):CallSpec P G f args (pre++Hp++suf) (fun s H'=>∃ H1,Q s H1∧H'=pre++H1++suf):=
 ⟨h.enters,fun I W vs hm hh hd=>(h.main I W vs hm (hh.less ((List.sublist_append_right pre Hp).trans (List.sublist_append_left _ suf))) hd).mono fun e W' ⟨v,I',s,H1,he,hQ,hv,hm',hh',hf⟩=>⟨v,I',s,_,he,⟨H1,hQ,rfl⟩,hv,hm',hh.frame hh' hf,hf.weaken (fun b hb=>by simp only [xN,List.mem_append];exact .inl (.inr hb)) fun b hb=>by
  simp only [xN,List.mem_append] at hb ⊢
  rcases hb with (hb | hb) | hb
  ·exact .inr (.inl (.inl hb))
  ·exact .inl hb
  ·exact .inr (.inr hb)⟩⟩
theorem CallSpec.weak {f:FuncId} {args:List SV} {H:HL} {Q Q2:SV→HL→Prop} (h:CallSpec P G f args H Q) (hq:∀ s H1,Q s H1→∃ s2 H2,(∀I v,s.den I v→s2.den I v)∧H2.Sublist H1∧Q2 s2 H2):CallSpec P G f args H Q2:=
 ⟨h.enters,fun I W vs hm hh hd=>(h.main I W vs hm hh hd).mono fun e W' ⟨v,I',s,H1,he,hQ,hv,hm',hh',hf⟩=>by
  obtain⟨s2,H2,h2,hs,hQ2⟩:=hq s H1 hQ
  exact⟨v,I',s2,H2,he,hQ2,h2 _ _ hv,hm',hh'.less hs,hf.weaken (fun _ h=>h) fun b hb=>.inl ((Xl hs).subset hb)⟩⟩
end
end Go.Sv
namespace Num
def zdF (k c:Int):Int:=if k=0∨c<k then c else k
end Num
namespace Go.Proofs
open Go Go.Sv Num
variable {G:Imm}
theorem qf {b:Nat} {s0 s1 s2:SV} {k c:Int}:CallSpec Tryz.prog G 310 [eqS (.pointer (some ⟨b,0,none⟩)),intS .i64 c] [⟨some b,267,[s0,s1,s2,intS .i64 k],0⟩] (fun v H'=>v=xn []∧H'=[⟨some b,267,[s0,s1,s2,intS .i64 (zdF k c)],0⟩]):=by
 refine zs Tryz.func310 ?_;refine zr ?_;(iterate 4 refine zz ?_)
 refine Run.oneB (zZ rfl rfl rfl rfl) rfl rfl rfl (fun h0_4=>?_) (fun h0_4=>?_)
 ·have k0_4:=beq_iff_eq.1 h0_4
  refine zg ?_;refine xt rfl rfl ?_;refine zg ?_
  exact⟨_,[_],.none,List.Sublist.refl _,rfl,by rw [show zdF k c=c from if_pos (.inl k0_4)];rfl⟩
 ·have k0_4:=beq_eq_false_iff_ne.1 h0_4
  refine zg ?_;refine zd (fun _ k16=>?_) fun _ k16=>?_
  ·refine zg ?_
   exact⟨_,[_],.none,List.Sublist.refl _,rfl,by rw [show zdF k c=c from if_pos (.inr k16)];rfl⟩
  ·refine zE ?_
   exact⟨_,[_],.none,List.Sublist.refl _,rfl,by rw [show zdF k c=k from if_neg (fun h=>h.elim k0_4 k16)]⟩
theorem ziS {b:Nat} {s1 s2 s3:SV} {l:List QP}:CallSpec Tryz.prog G 254 [eqS (.pointer (some ⟨b,0,none⟩)),zU 6 yy l] [⟨some b,267,[eqS (.slice none 0 0),s1,s2,s3],0⟩] (fun v H'=>v=zm true∧H'=[⟨some b,267,[zU 6 yy l,s1,s2,s3],0⟩]):=by
 refine zs Tryz.func254 ?_;refine zr ?_;refine zz ?_;refine zJ ?_;refine zh ?_;refine zg ?_;refine zo (zfP rfl rfl) ?_;refine zJ ?_;refine yM rfl rfl ?_;refine zg ?_;refine zj ?_
 exact⟨_,[_],.one (.tmp rfl),List.Sublist.refl _,rfl,rfl⟩
theorem zfQ {b:Nat} {s1 s2 s3:SV} {l rob:List QP} (hr:rob≠[]):CallSpec Tryz.prog G 254 [eqS (.pointer (some ⟨b,0,none⟩)),zU 6 yy l] [⟨some b,267,[zU 6 yy rob,s1,s2,s3],0⟩] (fun v H'=>v=zm false∧H'=[⟨some b,267,[zU 6 yy rob,s1,s2,s3],0⟩]):=by
 refine zs Tryz.func254 ?_;refine zr ?_;refine zz ?_;refine zJ ?_;refine zh ?_;refine zg ?_;refine zo (ziR rfl rfl hr) ?_;refine zJ ?_;refine xt rfl rfl ?_;refine zg ?_;refine zj ?_
 exact⟨_,[_],.one (.tmp rfl),List.Sublist.refl _,rfl,rfl⟩
theorem zle {b:Nat} {s1 s2 s3:SV} {l:List QP}:CallSpec Tryz.prog G 255 [eqS (.pointer (some ⟨b,0,none⟩)),zU 6 yy l] [⟨some b,267,[eqS (.slice none 0 0),s1,s2,s3],0⟩] (fun v H'=>v=zm false∧H'=[⟨some b,267,[eqS (.slice none 0 0),s1,s2,s3],0⟩]):=by
 refine zs Tryz.func255 ?_;refine zr ?_;refine zz ?_;refine zJ ?_;refine zh ?_;refine zg ?_;refine zo (qe rfl rfl) ?_;refine zg ?_;refine xt rfl rfl ?_;refine zg ?_;refine zj ?_
 exact⟨_,[_],.one (.tmp rfl),List.Sublist.refl _,rfl,rfl⟩
theorem zlf {b:Nat} {s1 s3:SV} {l rob:List QP} {qq:Option (Nat×Nat)} {n:Nat} (hr:rob≠[]) (hqq:yu qq n) (hn:n≠0):CallSpec Tryz.prog G 255 [eqS (.pointer (some ⟨b,0,none⟩)),zU 6 yy l] [⟨some b,267,[zU 6 yy rob,s1,eqS (rowV qq n),s3],0⟩] (fun v H'=>v=zm false∧H'=[⟨some b,267,[zU 6 yy rob,s1,eqS (rowV qq n),s3],0⟩]):=by
 refine zs Tryz.func255 ?_;refine zr ?_;refine zz ?_;refine zJ ?_;refine zh ?_;refine zg ?_;refine zo (Va rfl rfl hr) ?_;refine zg ?_;refine zo (xK rfl rfl hqq) ?_;refine zo ((zZ rfl rfl rfl rfl).sub (yx (c:=true) (decide_eq_true (by omega)))) ?_;refine zg ?_;refine xt rfl rfl ?_;refine zg ?_;refine zj ?_
 exact⟨_,[_],.one (.tmp rfl),List.Sublist.refl _,rfl,rfl⟩
theorem zne {b:Nat} {s3:SV} {l rob:List QP} {obs:List (List QP)} {qo qq:Option (Nat×Nat)} (hr:rob≠[]) (hq:yu qo obs.length) (hqq:yu qq 0) (hol:obs.length≤2000000000):CallSpec Tryz.prog G 255 [eqS (.pointer (some ⟨b,0,none⟩)),zU 6 yy l] [⟨some b,267,[zU 6 yy rob,eqS (rowV qo obs.length),eqS (rowV qq 0),s3],0⟩,rowE qo 22 1 obs.length (obs.flatMap uo)] (fun v H'=>∃ qo',yu qo' (obs++[l]).length∧v=zm true∧H'=[⟨some b,267,[zU 6 yy rob,eqS (rowV qo' (obs++[l]).length),eqS (rowV qq 0),s3],0⟩,rowE qo' 22 1 (obs++[l]).length ((obs++[l]).flatMap uo)]):=by
 refine zs Tryz.func255 ?_;refine zr ?_;refine zz ?_;refine zJ ?_;refine zh ?_;refine zg ?_;refine zo (Va rfl rfl hr) ?_;refine zg ?_;refine zo (xK rfl rfl hqq) ?_;refine zo ((zZ rfl rfl rfl rfl).sub (yx (c:=false) (decide_eq_false (by omega)))) ?_;refine zg ?_;refine yM rfl rfl ?_;refine zg ?_;refine zo (zB rfl rfl (by decide) rfl (by simp) rfl rfl) ?_;refine Run.append 1 rfl rfl rfl rfl rfl rfl rfl rfl hq (by rw [YU]) (fun z hz=>by rw [List.mem_singleton.1 hz];rfl) (by unfold yP;simp;omega) (by unfold yP;simp;omega) fun q28 hq28=>?_;refine zg ?_;refine zj ?_
 exact⟨_,[_,_],.one (.tmp rfl),List.Sublist.refl _,q28,by rw [List.length_append];exact hq28,rfl,by rw [List.length_append,List.flatMap_append];rfl⟩
theorem ziT {b:Nat} {s1 s2 s3:SV} {l:List QP}:CallSpec Tryz.prog G 256 [eqS (.pointer (some ⟨b,0,none⟩)),zU 6 yy l] [⟨some b,267,[eqS (.slice none 0 0),s1,s2,s3],0⟩] (fun v H'=>v=zm false∧H'=[⟨some b,267,[eqS (.slice none 0 0),s1,s2,s3],0⟩]):=by
 refine zs Tryz.func256 ?_;refine zr ?_;refine zz ?_;refine zJ ?_;refine zh ?_;refine zg ?_;refine zo (qe rfl rfl) ?_;refine zg ?_;refine xt rfl rfl ?_;refine zg ?_;refine zj ?_
 exact⟨_,[_],.one (.tmp rfl),List.Sublist.refl _,rfl,rfl⟩
theorem ziU {b:Nat} {s1 s2 s3:SV} {l rob:List QP} (hr:rob≠[]) (hl:l.length≠2):CallSpec Tryz.prog G 256 [eqS (.pointer (some ⟨b,0,none⟩)),zU 6 yy l] [⟨some b,267,[zU 6 yy rob,s1,s2,s3],0⟩] (fun v H'=>v=zm false∧H'=[⟨some b,267,[zU 6 yy rob,s1,s2,s3],0⟩]):=by
 refine zs Tryz.func256 ?_;refine zr ?_;refine zz ?_;refine zJ ?_;refine zh ?_;refine zg ?_;refine zo (Va rfl rfl hr) ?_;(iterate 3 refine zz ?_);refine zo ((zZ rfl rfl rfl rfl).sub (yx (c:=true) (bne_iff_ne.2 (by omega)))) ?_;refine zg ?_;refine xt rfl rfl ?_;refine zg ?_;refine zj ?_
 exact⟨_,[_],.one (.tmp rfl),List.Sublist.refl _,rfl,rfl⟩
theorem zlg {X:HE} {b:Nat} {s1 s3:SV} {rob:List QP} {p1 p2:QP} {que:List (QP×QP)} {qq:Option (Nat×Nat)} (hr:rob≠[]) (hq:yu qq que.length) (hol:que.length≤2000000000):CallSpec Tryz.prog G 256 [eqS (.pointer (some ⟨b,0,none⟩)),zU 6 yy [p1,p2]] [⟨some b,267,[zU 6 yy rob,s1,eqS (rowV qq que.length),s3],0⟩,X,rowE qq 43 12 que.length (que.flatMap vX)] (fun v H'=>∃ qq',yu qq' (que++[(p1,p2)]).length∧v=zm true∧H'=[⟨some b,267,[zU 6 yy rob,s1,eqS (rowV qq' (que++[(p1,p2)]).length),s3],0⟩,X,rowE qq' 43 12 (que++[(p1,p2)]).length ((que++[(p1,p2)]).flatMap vX)]):=by
 refine zs Tryz.func256 ?_;refine zr ?_;refine zz ?_;refine zJ ?_;refine zh ?_;refine zg ?_;refine zo (Va rfl rfl hr) ?_;(iterate 3 refine zz ?_);refine zo ((zZ rfl rfl rfl rfl).sub (yx (c:=false) (by simp))) ?_;refine zg ?_;refine yM rfl rfl ?_;refine zE ?_;refine wH 19 [14,18] _ (by kernel_rfl) (.cons _ (.cons_cons _ (.cons _ .slnil))) ?_;refine RunE.lat (zG rfl rfl) rfl rfl rfl ?_;refine RunE.one (zG rfl rfl) rfl rfl rfl (by kernel_rfl) ?_;refine RunE.one (yT rfl rfl) rfl rfl rfl (by kernel_rfl) ?_;(iterate 2 refine RunE.one (zN rfl rfl rfl) rfl rfl rfl (by kernel_rfl) ?_);refine RunE.one (yn 0 rfl rfl rfl rfl) rfl rfl rfl (by kernel_rfl) ?_;refine RunE.one (zG rfl rfl) rfl rfl rfl (by kernel_rfl) ?_;refine RunE.one (zi rfl rfl rfl (by omega) (y:=p1) (rfl)) rfl rfl rfl (by kernel_rfl) ?_;refine RunE.one ((show OpOK _ _ _ _ _ (zl (yy p1)) from zF rfl rfl rfl rfl)) rfl rfl rfl (by kernel_rfl) ?_;refine RunE.one (zG rfl rfl) rfl rfl rfl (by kernel_rfl) ?_;refine RunE.one (zi rfl rfl rfl (by omega) (y:=p2) (rfl)) rfl rfl rfl (by kernel_rfl) ?_;refine RunE.one ((show OpOK _ _ _ _ _ (zl (yy p2)) from zF rfl rfl rfl rfl)) rfl rfl rfl (by kernel_rfl) ?_;refine RunE.one (yW rfl rfl rfl) rfl rfl rfl (by kernel_rfl) ?_;refine RunE.one (zB rfl rfl (by decide) rfl (by simp) rfl rfl) rfl rfl rfl (by kernel_rfl) ?_
 refine RunE.nil ⟨_,rfl,?_⟩
 refine EffM.append 2 rfl rfl rfl rfl rfl rfl rfl hq (by rw [YV]) (fun z hz=>by rw [List.mem_singleton.1 hz];rfl) (by unfold yP;simp;omega) (by unfold yP;simp;omega) fun q30 hq30=>⟨(.cons _ (.cons_cons _ (.cons _ .slnil))),?_⟩
 refine RunE.one (yT rfl rfl) rfl rfl rfl (by kernel_rfl) ?_;(iterate 2 refine RunE.one (zN rfl rfl rfl) rfl rfl rfl (by kernel_rfl) ?_)
 refine RunE.nil ⟨_,rfl,?_⟩
 refine .loc1n 0 (xI rfl rfl rfl rfl (by first | decide | (simp;done) | (simp;omega))) rfl rfl rfl ?_
 rintro s1 H1 ⟨rfl,rfl⟩
 refine⟨(.cons _ (.cons_cons _ (.cons _ .slnil))),?_⟩
 refine RunE.nil ?_;refine zg ?_;refine zj ?_
 exact⟨_,[_,_,_],.one (.tmp rfl),List.Sublist.refl _,q30,by rw [List.length_append];exact hq30,rfl,by rw [List.length_append,List.flatMap_append];rfl⟩
end Go.Proofs
namespace Num
open Go Go.Lib
def rdW (k:Int) (w:List UInt8):Int:=if (wv w).2.2=30 then zdF k 2 else if 6<(wv w).2.1 then zdF k 3 else k
def cdF (k:Int) (ws:List (List UInt8)):Int:=ws.foldl rdW k
def gdW (w:List UInt8):Bool:=(wv w).2.2 != 60
def vL:List (List UInt8)→List (Rat×Rat)
 | a::b::r=>((wv a).1,(wv b).1)::vL r
 | _=>[]
theorem zgV:∀ (l:List (List UInt8)) (a:List UInt8),l.length%2=0→vL (l++[a])=vL l
  | [],_,_=>rfl
  | [_],_,h=>by simp at h
  | x::y::r,a,h=>by
    show ((wv x).1,(wv y).1)::vL (r++[a])=((wv x).1,(wv y).1)::vL r
    rw [zgV r a (by simp only [List.length_cons] at h;omega)]
theorem zgW:∀ (l:List (List UInt8)) (a b:List UInt8),l.length%2=0→vL (l++[a,b])=vL l++[((wv a).1,(wv b).1)]
  | [],_,_,_=>rfl
  | [_],_,_,h=>by simp at h
  | x::y::r,a,b,h=>by
    show ((wv x).1,(wv y).1)::vL (r++[a,b])=((wv x).1,(wv y).1)::(vL r++_)
    rw [zgW r a b (by simp only [List.length_cons] at h;omega)]
theorem zgX:∀ l:List (List UInt8),(vL l).length*2≤l.length
  | []=>Nat.le_refl _
  | [_]=>by simp [vL]
  | x::y::r=>by
    have:=zgX r
    show (_::vL r).length*2≤(x::y::r).length
    simp only [List.length_cons];omega
theorem wo {α:Type} {l:List α} {g:Nat} {x:α} (h:l[g]? =some x):l.take (g+1)=l.take g++[x]:=by rw [List.take_add_one,h];rfl
theorem zaR {α:Type} {l:List α} {g:Nat} (h:g≤l.length) (he:g%2=0):(l.take g).length%2=0:=by rw [List.length_take,Nat.min_eq_left h];exact he
theorem zgY {ws:List (List UInt8)} {g:Nat} {w:List UInt8} (h:ws[g]? =some w) (he:g%2=0):vL (ws.take (g+1))=vL (ws.take g):=by
 rw [wo h,zgV _ _ (zaR (by have:=(List.getElem?_eq_some_iff.1 h).1;omega) he)]
theorem zlh {ws:List (List UInt8)} {g:Nat} {a w:List UInt8} (ha:ws[g-1]? =some a) (h:ws[g]? =some w) (he:g%2=1):vL (ws.take (g+1))=vL (ws.take g)++[((wv a).1,(wv w).1)]:=by
 obtain⟨j,rfl⟩:∃ j,g=j+1:=⟨g-1,by omega⟩
 rw [Nat.add_sub_cancel] at ha
 rw [zgY ha (by omega),wo h,wo ha,List.append_assoc]
 exact zgW _ _ _ (zaR (by have:=(List.getElem?_eq_some_iff.1 ha).1;omega) (by omega))
theorem zng {ws:List (List UInt8)} {g:Nat} {w:List UInt8} {k:Int} (h:ws[g]? =some w):cdF k (ws.take (g+1))=rdW (cdF k (ws.take g)) w:=by
 unfold cdF;rw [wo h,List.foldl_append];rfl
theorem znh {ws:List (List UInt8)} {g:Nat} {w:List UInt8} (h:ws[g]? =some w):(ws.take (g+1)).all gdW=((ws.take g).all gdW&&gdW w):=by
 rw [wo h,List.all_append];simp
theorem zp8 {w:List UInt8} (h:(wv w).2.2≠60):gdW w=true:=bne_iff_ne.2 h
theorem zni {ws:List (List UInt8)} {w:List UInt8} (hw:w∈ws) (h:(wv w).2.2=60):ws.all gdW=false:=by
 rw [List.all_eq_false];exact⟨w,hw,by unfold gdW;rw [h];decide⟩
end Num
namespace Go.Proofs
open Go Go.Sv Num
variable {G:Imm}
theorem zli:∀ (l:List (List UInt8)),∀p∈vL l,Bq p.1 7∧Bq p.2 7
  | [],p,h=>by cases h
  | [_],p,h=>by cases h
  | x::y::r,p,h=>by
    rcases List.mem_cons.1 (show p∈((wv x).1,(wv y).1)::vL r from h) with rfl | h
    · exact⟨zgS x,zgS y⟩
    · exact zli r p h
theorem zlj {p:Rat×Rat} {k:Nat} (h:Bq p.1 k∧Bq p.2 k):xQ k (Qq p):=
 ⟨⟨xe _,xe _,zK h.1.num,zK h.1.den⟩,xe _,xe _,zK h.2.num,zK h.2.den⟩
theorem zbQ (p:Rat×Rat):pv (Qq p)=p:=by
 show (qv (zlc p.1),qv (zlc p.2))=p
 rw [zgU,zgU]
theorem JB (l:List (Rat×Rat)):(l.map Qq).map pv=l:=by
 rw [List.map_map]
 exact (List.map_congr_left fun p _=>zbQ p).trans (List.map_id _)
theorem zbR [Tab G] [MaxLen G] {ws:List (List UInt8)} {b:Nat} {k0:Int} {s0 s1 s2:SV} (hws:∀ w∈ws,w.length≤1000000000) (hwl:ws.length≤2000000000):CallSpec Tryz.prog G 257 [eqS (.pointer (some ⟨b,0,none⟩)),zU 1 tC ws] [⟨some b,267,[s0,s1,s2,intS .i64 k0],0⟩] (fun v H'=>(ws.all gdW=true∧v=xn [zU 6 yy (vL ws),zm (decide (ws.length%2=0)&&decide ((0:Int)<((vL ws).length:Nat)))]∧H'=[⟨some b,267,[s0,s1,s2,intS .i64 (cdF k0 ws)],0⟩])∨(ws.all gdW=false∧∃ k,v=xn [eqS (.slice none 0 0),zm false]∧H'=[⟨some b,267,[s0,s1,s2,intS .i64 k],0⟩])):=by
 refine zs Tryz.func257 ?_;refine zg ?_;refine xg fun b6=>?_;refine zJ ?_;refine zh ?_;refine zP (yL 41 6) ?_;refine zg ?_
 refine ZA (fun (g:Nat) (q:Option (Nat×Nat)) (k:Int) (c:SV×SV×SV×SV×SV×SV)=>⟨_,[(14,intS .i64 (g:Nat)),(13,intS .i64 ws.length),(12,zU 1 tC ws),(6,eqS (.pointer (some ⟨b6,0,none⟩))),(4,eqS (rowV q (vL (ws.take g)).length)),(1,zU 1 tC ws),(0,eqS (.pointer (some ⟨b,0,none⟩)))],[rowE q 41 6 (vL (ws.take g)).length ((vL (ws.take g)).flatMap yy),⟨some b6,41,[c.1,c.2.1,c.2.2.1,c.2.2.2.1,c.2.2.2.2.1,c.2.2.2.2.2],0⟩,⟨some b,267,[s0,s1,s2,intS .i64 k],0⟩],[],(0,false)⟩) (fun g q k c=>g≤ws.length∧yu q (vL (ws.take g)).length∧(ws.take g).all gdW=true∧k=cdF k0 (ws.take g)∧(g%2=1→∃ a,ws[g-1]? =some a∧c.1=zm (decide ((wv a).1.num<0))∧c.2.1=zy (yz (wv a).1.num.natAbs)∧c.2.2.1=zy (yz (wv a).1.den))) (fun g _ _ _=>ws.length-g) 0 none k0 (eqS (.bool false),eqS (.slice none 0 0),eqS (.slice none 0 0),eqS (.bool false),eqS (.slice none 0 0),eqS (.slice none 0 0)) ⟨Nat.zero_le _,rfl,rfl,rfl,fun h=>by omega⟩ (zL zk rfl) ?_
 rintro g q k ⟨c1,c2,c3,c4,c5,c6⟩ ⟨hg,hq,hgd,hk,hodd⟩
 simp only at hodd
 have hpl:=zgX (ws.take g)
 rw [List.length_take,Nat.min_eq_left hg] at hpl
 refine zr ?_;refine zz ?_;refine zJ ?_;refine zh ?_;refine zd (fun _ k15=>?_) fun _ k15=>?_
 ·obtain⟨w,hw⟩:∃ w,ws[g]? =some w:=⟨_,List.getElem?_eq_getElem (by omega)⟩
  have hwm:=List.mem_of_getElem? hw
  have herr:=zla w
  have hcs:=zng (k:=k0) hw
  have hgs:=znh hw
  rw [←hk] at hcs
  rw [hgd] at hgs
  refine zE ?_;refine zh ?_;refine zg ?_;refine zo (zi rfl rfl rfl (by omega) (y:=w) (hw)) ?_;refine zg ?_;refine zf (zdA (hws w hwm)) ?_;refine zg ?_;refine xg fun b9=>?_;refine zw ?_;(iterate 2 refine zz ?_);refine zJ ?_;refine xS (K:=fun S1=>(wv w).2.2≠60∧Ent S1 ⟨61,[(7,intS .i64 (g:Nat)),(9,eqS (.pointer (some ⟨b9,0,none⟩))),(14,intS .i64 (g:Nat)),(13,intS .i64 ws.length),(12,zU 1 tC ws),(6,eqS (.pointer (some ⟨b6,0,none⟩))),(4,eqS (rowV q (vL (ws.take g)).length)),(1,zU 1 tC ws),(0,eqS (.pointer (some ⟨b,0,none⟩)))],[⟨some b9,39,zR (wv w).1,0⟩,rowE q 41 6 (vL (ws.take g)).length ((vL (ws.take g)).flatMap yy),⟨some b6,41,[c1,c2,c3,c4,c5,c6],0⟩,⟨some b,267,[s0,s1,s2,intS .i64 (rdW k w)],0⟩],[],(0,false)⟩) ?_ ?_
  ·refine zg ?_;refine zd (fun _ k25=>?_) fun _ k25=>?_
   ·refine zg ?_;refine Run.callH [_,_,_] [_] [] rfl rfl rfl rfl qf rfl rfl rfl ?_
    rintro s3 H3 ⟨rfl,rfl⟩
    refine zJ ?_
    exact⟨by omega,zL (zb rfl (zb rfl (zb rfl (zb rfl (zb rfl (zb rfl (zb rfl (zb rfl (zb rfl (trivial)))))))))) (by rw [show rdW k w=zdF k 2 from if_pos k25];rfl)⟩
   ·refine zg ?_;refine zd (fun _ k30=>?_) fun _ k30=>?_
    ·refine zg ?_;refine zj ?_
     exact⟨_,[_],.many (.cons (.tmp rfl) (.cons (.tmp rfl) .nil)),(.cons _ (.cons _ (.cons _ (List.Sublist.refl _)))),.inr ⟨zni hwm (by omega),_,rfl,rfl⟩⟩
    ·refine zg ?_;refine zd (fun _ k33=>?_) fun _ k33=>?_
     ·refine zg ?_;refine Run.callH [_,_,_] [_] [] rfl rfl rfl rfl qf rfl rfl rfl ?_
      rintro s3 H3 ⟨rfl,rfl⟩
      refine zJ ?_
      exact⟨by omega,zL (zb rfl (zb rfl (zb rfl (zb rfl (zb rfl (zb rfl (zb rfl (zb rfl (zb rfl (trivial)))))))))) (by rw [show rdW k w=zdF k 3 from (if_neg k25).trans (if_pos k33)];rfl)⟩
     ·refine zE ?_
      exact⟨by omega,zL (zb rfl (zb rfl (zb rfl (zb rfl (zb rfl (zb rfl (zb rfl (zb rfl (zb rfl (trivial)))))))))) (by rw [show rdW k w=k from (if_neg k25).trans (if_neg k33)];rfl)⟩
  ·rintro S1 ⟨hne,hS1⟩
   refine wG hS1 ?_
   rw [zp8 hne] at hgs
   refine zh ?_;refine zg ?_;refine zo (wV rfl rfl rfl (by omega) (by omega)) ?_;refine zg ?_;refine zd (fun _ k40=>?_) fun _ k40=>?_
   ·have hev:g%2=0:=by omega
    have hps:=zgY hw hev
    refine zg ?_;refine zI ?_;refine zP (zY (List.sublist_cons_self _ _)) ?_;refine zO ?_;refine za ((g+1:Nat):Int) ?_;refine zg ?_
    exact⟨g+1,q,rdW k w,(zm (decide ((wv w).1.num<0)),zy (yz (wv w).1.num.natAbs),zy (yz (wv w).1.den),c4,c5,c6),⟨by omega,by rw [hps];exact hq,hgs,hcs.symm,fun _=>⟨w,by rw [Nat.add_sub_cancel];exact hw,rfl,rfl,rfl⟩⟩,by omega,zL (zb rfl (zb rfl (zb rfl (zb rfl (xk rfl (by rw [hps]) (zb rfl (zb rfl (trivial)))))))) (by rw [hps];rfl)⟩
   ·have hev:g%2=1:=by omega
    obtain⟨a,ha,rfl,rfl,rfl⟩:=hodd hev
    have hps:=zlh ha hw hev
    refine zg ?_;refine zo (zB rfl rfl (by decide) rfl (by simp) rfl rfl) ?_;refine Run.append 1 rfl rfl rfl rfl rfl rfl rfl rfl hq (by rw [vO]) (fun z hz=>by rw [List.mem_singleton.1 hz];rfl) (by unfold yP;simp;omega) (by unfold yP;simp;omega) fun q48 hq48=>?_;refine zz ?_;refine zJ ?_;refine zP (zY (List.sublist_cons_self _ _)) ?_;refine zO ?_;refine za ((g+1:Nat):Int) ?_;refine zg ?_
    exact⟨g+1,q48,rdW k w,(zm (decide ((wv a).1.num<0)),zy (yz (wv a).1.num.natAbs),zy (yz (wv a).1.den),zm (decide ((wv w).1.num<0)),zy (yz (wv w).1.num.natAbs),zy (yz (wv w).1.den)),⟨by omega,by rw [hps,List.length_append];exact hq48,hgs,hcs.symm,fun h=>by omega⟩,by omega,zL (zb rfl (zb rfl (zb rfl (zb rfl (xk rfl (by rw [hps,List.length_append];rfl) (zb rfl (zb rfl (trivial)))))))) (by rw [hps,List.length_append,List.flatMap_append];rfl)⟩
 ·obtain rfl:g=ws.length:=by omega
  rw [List.take_length] at hq hgd hk hpl ⊢
  have hpk:=zli ws
  refine zI ?_;refine zP (yU 0 4 rfl rfl hq (l:=vL ws) (f:=yy) rfl rfl (fun _ _=>rfl) (by unfold yP;omega)) ?_;refine zg ?_;refine zo ((ze rfl rfl ((vE (xs:=(vL ws).map Qq) (k:=7) (by decide) (fun p hp=>by obtain⟨r,hr,rfl⟩:=List.mem_map.1 hp;exact zlj (hpk r hr)) (by decide) (by rw [List.length_map];unfold cap;omega)).args (args':=[zU 6 yy (vL ws)]) ⟨fun I v h=>JA Qq (fun _=>rfl) h,trivial⟩)).sub (show ∀I v,(zU 6 yy (((vL ws).map Qq).map pv)).den I v→(zU 6 yy (vL ws)).den I v from fun I v h=>by rw [JB] at h;exact h)) ?_;refine zg ?_;refine zo (wV rfl rfl rfl (by omega) (by omega)) ?_
  refine Run.oneB ((zZ rfl rfl rfl rfl).sub (yx (c:=decide (ws.length%2=0)) (by rw [Bool.eq_iff_iff,beq_iff_eq,decide_eq_true_iff];omega))) rfl rfl rfl (fun h17_5=>?_) (fun h17_5=>?_)
  ·refine zg ?_;refine zj ?_
   exact⟨_,[_],.many (.cons (.tmp rfl) (.cons (.tmp rfl) .nil)),(.cons _ (List.Sublist.refl _)),.inl ⟨hgd,by rw [show decide (ws.length%2=0)=true from h17_5];rfl,by rw [hk]⟩⟩
  ·refine zg ?_;refine zj ?_
   exact⟨_,[_],.many (.cons (.tmp rfl) (.cons (.tmp rfl) .nil)),(.cons _ (List.Sublist.refl _)),.inl ⟨hgd,by rw [show decide (ws.length%2=0)=false from h17_5];rfl,by rw [hk]⟩⟩
end Go.Proofs
