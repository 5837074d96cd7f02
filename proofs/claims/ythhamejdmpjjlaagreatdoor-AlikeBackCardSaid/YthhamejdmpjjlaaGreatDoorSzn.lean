/- What the arguments of the laws are: naturals and integers, opened out of a reading. -/
import Derived.Test.YthhamejdmpjjlaaGreatDoorSnp
import Derived.Test.YthhamejdmpjjlaaGreatDoorSv1
import Derived.Test.YthhamejdmpjjlaaGreatDoorRows
import Derived.Lay
import Derived.Laws.Strings
import Derived.Laws.Concat
import Derived.Laws.BytesArg
import Derived.Lib.OthersKept
import Derived.Below
namespace Go.Proofs
open Go Go.Sv Num Go.RowKit Go.ChangeShapes Go.WideShapes
section
variable {H:Type} {enc:TypeId×Value→H} {W:World} {base:Nat} {spare:Nat→Bool} {held:Bool}
theorem Tryz.open_nat {n:Nat} {cs:List Value} {x:DataW H×List MemPlace} (h:DataW.trod enc Tryz.prog W base spare held n 35 cs=some x) (hw:vi Tryz.prog 35 x.1):∃ v l,cs=[v]∧(∀y∈l,y<4294967296)∧(zy l).den (wz W) v:=by
 refine WV (f:=xP) (Good:=(· < 4294967296)) Tryz.underlying35 (by kernel_rfl) (by omega) (of_decide_eq_true (by kernel_rfl)) (fun _=>rfl) (fun n cs x h _=>?_) h hw
 obtain⟨z,rfl,_,hz⟩:=DataW.trod_int (k:=.u32) Tryz.underlying64 h
 simp [Lit.wf,IntKind.min,IntKind.max,IntKind.signed,IntKind.bits] at hz
 refine⟨z.toNat,by omega,zW ?_ dens_nil,fun x hx=>?_⟩
 ·show Value.int _ z=Value.int _ _
  rw [Int.toNat_of_nonneg (by omega)]
 ·rw [List.mem_singleton.1 hx]
  rfl
theorem Tryz.open_int {n:Nat} {cs:List Value} {x:DataW H×List MemPlace} (h:DataW.trod enc Tryz.prog W base spare held n 37 cs=some x) (hw:vi Tryz.prog 37 x.1):∃ y:Bool×List Nat,xU y.2∧dens (wz W) [zm y.1,zy y.2] cs∧xF cs:=by
 obtain⟨c0,c1,y0,y1,n,rfl,h0,_,h1,w1⟩:=Uo Tryz.underlying37 rfl (by kernel_rfl) (by kernel_rfl) h hw
 obtain⟨b,rfl,_⟩:=DataW.trod_bool (show Tryz.prog.underlying 4=some .bool from Tryz.isBool4) h0
 obtain⟨v,l,rfl,hl,hv⟩:=Tryz.open_nat h1 w1
 refine⟨(b,l),hl,zW rfl (zW hv dens_nil),fun x hx=>?_⟩
 simp only [List.singleton_append,List.mem_cons,List.not_mem_nil,or_false] at hx
 rcases hx with rfl | rfl
 ·rfl
 ·exact Xd _ _ hv
end
end Go.Proofs
namespace Go.Sv
open Go Go.RowKit
def zmU (l:List UInt8):Value:=.string ⟨l.toArray⟩
abbrev xb (l:List UInt8):SV:=eqS (zmU l)
instance {l:List UInt8}:One (eqS (zmU l)):=⟨Zg rfl⟩
theorem ZE (l:List UInt8):(ByteArray.mk l.toArray).size=l.length:=by simp [ByteArray.size]
theorem ze5 {l m:List UInt8} (h:l=m) (I:Imm) (v:Value) (hv:(xb l).den I v):(xb m).den I v:=h▸hv
section
variable {P:Program} {G:Imm} {E:Env} {r:Option Nat} {S:St} {gd:Nat→Option Nat} {p:Bool} {o:Oper} {ops:List Oper} {K:St→Prop} {H:HL} {g:List (Nat×SV)}
theorem Xt {t:TypeId} [IsStr P t] {x:Operand} {l:List UInt8} (hop:o.op= .call {callee:=.builtin .len,args:= #[x],argTypes:= #[t]}) (hx:xd g x=some (xb l)):OpOK P G H o g (intS .i64 l.length):=
 yC (by simp [hop]) fun I W a _ _ hr=>by
  have hv:a.eval x= .string ⟨l.toArray⟩:=hr.get (by simp [hop,Op.operands,Call.operands]) hx
  refine⟨.int .i64 l.length,?_,rfl⟩
  simp [execOp,hop,resolve,invoke,builtin,run_len_string W t _ _ (IsStr.h (P:=P) (t:=t)),hv,goInt,ZE]
def zkD:BinOp→List UInt8→List UInt8→Option Bool
 | .eql,x,y=>some (x==y)
 | .neq,x,y=>some (!(x==y))
 | .lss,x,y=>some (Op.bytesLess x y)
 | _,_,_=>none
theorem Yd {op:BinOp} {t u:TypeId} {x y:Operand} {l m:List UInt8} {b:Bool} (hop:o.op= .binOp op t x y u) (hx:xd g x=some (xb l)) (hy:xd g y=some (xb m)) (hb:zkD op l m=some b):OpOK P G H o g (zm b):=
 yC (by simp [hop]) fun I W a _ _ hr=>by
  have h1:a.eval x= .string ⟨l.toArray⟩:=hr.get (by simp [hop,Op.operands]) hx
  have h2:a.eval y= .string ⟨m.toArray⟩:=hr.get (by simp [hop,Op.operands]) hy
  refine⟨.bool b,?_,rfl⟩
  cases op <;> simp only [zkD,Option.some.injEq,reduceCtorEq] at hb
  ·subst hb;simp [execOp,hop,h1,h2,eqGuard,binOp,Op.stringOp,ByteArray.toList_mk]
  ·subst hb;simp [execOp,hop,h1,h2,eqGuard,binOp,Op.stringOp,ByteArray.toList_mk]
  ·subst hb;simp [execOp,hop,h1,h2,eqGuard,binOp,Op.stringOp,ByteArray.toList_mk]
theorem vD {t u:TypeId} {x y:Operand} {l m:List UInt8} (hop:o.op= .binOp .add t x y u) (hx:xd g x=some (xb l)) (hy:xd g y=some (xb m)) (hl:l.length+m.length≤9223372036854775807):OpOK P G H o g (xb (l++m)):=
 yC (by simp [hop]) fun I W a _ _ hr=>by
  have h1:a.eval x= .string ⟨l.toArray⟩:=hr.get (by simp [hop,Op.operands]) hx
  have h2:a.eval y= .string ⟨m.toArray⟩:=hr.get (by simp [hop,Op.operands]) hy
  refine⟨zmU (l++m),?_,rfl⟩
  have h3:=run_string_add_sum (P:=P) W ⟨l.toArray⟩ ⟨m.toArray⟩ (by rw [ZE,ZE];exact hl)
  rw [ByteArray.mk_append_mk] at h3
  simp only [execOp,hop,h1,h2,eqGuard,binOp_string_add,Sem.run_bind,Bool.not_false,if_true,Sem.run_pure,Result.andThen_ok,h3]
  rfl
theorem zmV (l:List UInt8):strOfNums (l.map fun c=>((c.toNat:Nat):Int))=⟨l.toArray⟩:=by
 unfold strOfNums
 rw [List.map_map]
 congr 2
 exact (List.map_congr_left fun c _=>by simp).trans (List.map_id l)
abbrev u8S (c:UInt8):List SV:=[intS .u8 c.toNat]
theorem zkE {l:List UInt8} {i:Nat} (h:i<l.length):(l.map fun c=>((c.toNat:Nat):Int)).getD i 0=(l[i].toNat:Int):=by simp [h]
theorem ze6 (j:Nat) {src dst e:TypeId} [IsSl P src e 1] [IsInt P e .u8] [IsStr P dst] {x:Operand} {b of n cap te k:Nat} {cs:List SV} {l:List UInt8} (hop:o.op= .convert src dst x) (hx:xd g x=some (eqS (.slice (some ⟨b,of,none⟩) n cap))) (hH:H[j]? =some ⟨some b,te,cs,k⟩) (hl:l.length=n) (hcs:∀ i,i<n→cs[of+i]? =some (intS .u8 ((l.getD i 0).toNat:Int))):OpOK P G H o g (xb l):=
 yC (by simp [hop]) fun I W a hm hh hr=>by
  have hv:a.eval x= .slice (some ⟨b,of,none⟩) n cap:=hr.get (by simp [hop,Op.operands]) hx
  obtain⟨c,hw,hc⟩:=YJ ((hh.mem _ (List.mem_of_getElem? hH)).some rfl)
  have hs:=IsSl.u (P:=P) (t:=src) (e:=e) (st:=1)
  refine⟨zmU l,?_,rfl⟩
  have:=run_convert_bytes_arg (P:=P) W src e hs IsInt.h b of n cap (l.map fun c=>((c.toNat:Nat):Int)) (by simp [hl]) (fun i hi=>by
   obtain⟨y,hy1,hy2,_⟩:=hc _ _ (hcs i hi)
   rw [wm hw,hy1,show y=_ from hy2,zkE (by omega)]
   simp [show i<l.length by omega]) dst IsStr.h
  rw [zmV] at this
  simp only [execOp,hop,hv,Sem.run_bind,this]
  rfl
theorem vw {f:FuncId} {args:List SV} {s:SV} (he:∀ args w,(callFunc f args).run P w= .ok (.enter f args) w) (h:∀ I W (vs:List Value),Holds G I W→dens I args vs→Calls P f vs.toArray W fun e W'=>∃ v,e= .returned v∧(∀J,I.le J→s.den J v)∧Below W.heap.size W W'):zp P G f args s:=
 ⟨he,fun I W vs h1 h2 h3=>(h I W vs h1 h3).mono fun e W' ⟨v,h4,h5,h6⟩=>
  ⟨v,I,s,[],h4,⟨rfl,rfl⟩,h5 I (Imm.le_refl _),⟨h1.glob,fun b c hb=>by
   obtain⟨e',f',hw⟩:=h1.mem b c hb
   exact⟨e',f',(h6.block _ (yp hw)).trans hw⟩⟩,⟨by simp [bs],by simp⟩,h6.os,h6.tape,h6.output,Imm.le_refl _,h6.size,fun b hb _=>h6.block b hb,fun b h7 h8=>absurd h7 h8,fun b hb=>by simp [bs] at hb⟩⟩
end
end Go.Sv
namespace Go.Sv
open Go Go.RowKit
def Xu (r0:Nat) (s:ByteArray):Env where
 ok:=fun i I F W=>(∀b,F b↔b=r0)∧I r0=none∧W.heap[r0]? =some (.stringIter s i.1)
 stab:=fun _ _ _ _ _ _ ⟨h1,_,h3⟩ _ _ _ _ _ hw hn=>⟨h1,hn r0 ((h1 r0).2 rfl),(hw r0 ((h1 r0).2 rfl)).trans h3⟩
section
variable {P:Program} {G:Imm} {r:Option Nat} {gd:Nat→Option Nat} {p:Bool} {o:Oper} {ops:List Oper} {K:St→Prop}
theorem ze7 {id t1 t2 n:Nat} {ty:TypeId} [IsStr P ty] {o1 o2:Oper} {y:Code} {x:Operand} {l:List UInt8} {g:List (Nat×SV)} {h:HL} {d:List Nat} {Q:Exit→St→Prop} (h1:o1.op= .move x) (h2:o1.dst=some t1) (h3:o1.guard=none) (h4:o2.op= .range ty (.tmp t1)) (h5:o2.dst=some t2) (h6:o2.guard=none)
  (hx:xd g x=some (xb l)) (hd1:Nat.blt t1 n=true) (hd2:Nat.blt t2 n=true) (hr:∀ b,T P G (Xu b ⟨l.toArray⟩) r y ⟨n,(t2,eqS (.pointer (some ⟨b,0,none⟩)))::(t1,xb l)::g,h,d,(0,false)⟩ (fun e S'=>Q e {S' with i:=(0,false)})):
  T P G noEnv r (.seq (.region id [o1,o2].toArray false) y) ⟨n,g,h,d,(0,false)⟩ Q:=by
 intro nn I F a W hs
 refine wpIn_seq (wpIn_region ?_)
 have key:wpOpsIn (Fr r) nn P [o1,o2].toArray (Exit.then (y.wpIn (Fr r) nn P (post G noEnv r Q (own ⟨n,g,h,d,(0,false)⟩ F) I W)) (post G noEnv r Q (own ⟨n,g,h,d,(0,false)⟩ F) I W)) [0,1] a W:=by
  have e0:[o1,o2].toArray[0]? =some o1:=rfl
  have e1:[o1,o2].toArray[1]? =some o2:=rfl
  simp only [wpOpsIn,e0,e1]
  have hgd:∀ j,xA [o1,o2] j=([o1,o2].toArray[j]?).bind (·.dst):=fun j=>by simp [xA]
  rw [xL (gd:=xA [o1,o2]) (b:=true) hgd hs (by simp [zH,h3]),if_pos rfl]
  have hd1':∀ t,o1.dst=some t→t<n:=fun t ht=>by rw [h2] at ht;cases ht;exact Nat.le_of_ble_eq_true hd1
  refine ((zG (P:=P) (G:=G) (H:=h) (g:=g) h1 hx).eff (E:=noEnv) (r:=r) (S:=⟨n,g,h,d,(0,false)⟩) hd1') nn I F a W _ _ hs fun S1 I1 F1 a1 W1 hs1 hk1 f1=>?_
  subst hk1
  rw [xL (gd:=xA [o1,o2]) (b:=true) hgd hs1 (by simp [zH,h6]),if_pos rfl]
  have hv:a1.eval (.tmp t1)= .string ⟨l.toArray⟩:=hs1.g t1 (xb l) (by simp [St.set,h2,look])
  have hrun:(execOp a1.eval o2).run P W1= .ok (.value (.pointer (some ⟨W1.heap.size,0,none⟩))) (W1.iter ⟨l.toArray⟩ 0):=by
   simp [execOp,h4,hv,run_range_string W1 ty _ (IsStr.h (P:=P) (t:=ty))]
  refine xG (by simp [h4]) hrun ?_
  obtain⟨hm2,f2⟩:=uW hs1.m (.stringIter ⟨l.toArray⟩ 0) (own (St.set ⟨n,g,h,d,(0,false)⟩ o1.dst (xb l)) F1)
  have hF1:∀ b,¬F1 b:=hs1.e
  have hext:Ext I1 W1 I1 (W1.alloc (.stringIter ⟨l.toArray⟩ 0)):=⟨rfl,rfl,rfl,Imm.le_refl _,by simp,fun b hb _=>xB _ _ hb,fun b h7 h8=>absurd h7 h8,fun b hb=>hb.elim⟩
  have hs2:=(hs1.keep hext hm2).put (d:=some t2) (s:=eqS (.pointer (some ⟨W1.heap.size,0,none⟩))) rfl (fun t ht=>by cases ht;rw [show (St.set ⟨n,g,h,d,(0,false)⟩ o1.dst (xb l)).n=n by simp [St.set,h2]];exact Nat.le_of_ble_eq_true hd2)
  have hst:(St.set (St.set ⟨n,g,h,d,(0,false)⟩ o1.dst (xb l)) (some t2) (eqS (.pointer (some ⟨W1.heap.size,0,none⟩))))=⟨n,(t2,eqS (.pointer (some ⟨W1.heap.size,0,none⟩)))::(t1,xb l)::g,h,d,(0,false)⟩:=by simp [St.set,h2]
  rw [hst] at hs2
  have hat:(W1.alloc (.stringIter ⟨l.toArray⟩ 0)).heap[W1.heap.size]? =some (.stringIter ⟨l.toArray⟩ 0):=alloc_heap_at _ _
  have hnb:∀ b,b∈bs h→b≠W1.heap.size:=fun b hb e=>by
   have:=(hs1.h.lt (b:=b) (by simpa [St.set,h2] using hb)).1;omega
  have hnd:∀ b,b∈d→b≠W1.heap.size:=fun b hb e=>by
   have:=yp (hs1.dk b (by simpa [St.set,h2] using hb));omega
  have hs3:Sat G (Xu W1.heap.size ⟨l.toArray⟩) r ⟨n,(t2,eqS (.pointer (some ⟨W1.heap.size,0,none⟩)))::(t1,xb l)::g,h,d,(0,false)⟩ I1 (fun b=>b=W1.heap.size) (a1.put (some t2) (.pointer (some ⟨W1.heap.size,0,none⟩))) (W1.alloc (.stringIter ⟨l.toArray⟩ 0)):=
   ⟨hs2.n,hs2.g,hs2.m,hs2.h,hs2.d,hs2.dn,hs2.dk,⟨fun _=>Iff.rfl,hs1.m.none_new,hat⟩,fun b hb=>by
    subst hb
    exact⟨by simp,hs1.m.none_new,fun h7=>hnb _ h7 rfl,fun h7=>hnd _ h7 rfl⟩,fun k hk=>by
    obtain⟨⟨rec,h7⟩,h8⟩:=hs2.l k hk
    refine⟨⟨rec,h7⟩,fun h9=>?_⟩
    rcases h9 with h9 | h9 | h9
    ·exact h8 (.inl h9)
    ·exact h8 (.inr (.inl h9))
    ·subst h9;rw [hat] at h7;cases h7⟩
  have hgo:=hr W1.heap.size nn I1 _ _ _ hs3
  show y.wpIn (Fr r) nn P _ (a1.put o2.dst _) _
  rw [h5]
  refine wpIn_mono hgo fun e a' W' ⟨S',I',F',g1,g2,g3⟩=>?_
  refine⟨{S' with i:=(0,false)},I',fun _=>False,⟨g1.n,g1.g,g1.m,g1.h,g1.d,g1.dn,g1.dk,fun _ h=>h,fun _ h=>h.elim,fun k hk=>?_⟩,g2,?_⟩
  ·obtain⟨h7,h8⟩:=g1.l k hk
   refine⟨h7,fun h9=>h8 ?_⟩
   rcases h9 with h9 | h9 | h9
   ·exact .inl h9
   ·exact .inr (.inl h9)
   ·exact h9.elim
  ·have f3:Fram (own (St.set ⟨n,g,h,d,(0,false)⟩ o1.dst (xb l)) F1) I1 W1 (own ⟨n,(t2,eqS (.pointer (some ⟨W1.heap.size,0,none⟩)))::(t1,xb l)::g,h,d,(0,false)⟩ (fun b=>b=W1.heap.size)) I1 (W1.alloc (.stringIter ⟨l.toArray⟩ 0)):=
    f2.weaken (fun _ h=>h) fun b hb=>.inl (by
     rcases hb with hb | hb | hb
     ·exact .inl (.inl (by simpa [St.set,h2] using hb))
     ·exact .inl (.inr (.inl (by simpa [St.set,h2] using hb)))
     ·exact .inr hb)
   refine ((f1.trans f3).trans g3).weaken (fun _ h=>h) fun b hb=>.inl ?_
   rcases hb with hb | hb | hb
   ·exact .inl hb
   ·exact .inr (.inl hb)
   ·exact hb.elim
 exact key
theorem Run.nextS {n d0 pos b0:Nat} {l:List UInt8} {g:List (Nat×SV)} {h:HL} {d:List Nat} {x:Operand} (hp:p=false) (hop:o.op= .next x true) (hx:xd g x=some (eqS (.pointer (some ⟨b0,0,none⟩)))) (hg:zH gd g o true) (ht:o.dst=some d0) (hd:Nat.blt d0 n=true)
  (h1:pos<l.length→Run P G (Xu b0 ⟨l.toArray⟩) r gd p ops ⟨n,(d0,xn [zm true,intS .i64 (pos:Nat),intS .i32 (Utf8.decode ⟨l.toArray⟩ pos).1])::g,h,d,(pos+(Utf8.decode ⟨l.toArray⟩ pos).2,false)⟩ K)
  (h2:¬ pos<l.length→Run P G (Xu b0 ⟨l.toArray⟩) r gd p ops ⟨n,(d0,xn [zm false])::g,h,d,(pos,false)⟩ K):Run P G (Xu b0 ⟨l.toArray⟩) r gd p (o::ops) ⟨n,g,h,d,(pos,false)⟩ K:=by
 refine Run.eff (fun S'=>(pos<l.length∧S'=⟨n,(d0,xn [zm true,intS .i64 (pos:Nat),intS .i32 (Utf8.decode ⟨l.toArray⟩ pos).1])::g,h,d,(pos+(Utf8.decode ⟨l.toArray⟩ pos).2,false)⟩)∨(¬pos<l.length∧S'=⟨n,(d0,xn [zm false])::g,h,d,(pos,false)⟩)) hp ?_ hg fun S' hS'=>?_
 ·intro nn I F a W next Q hs k
  obtain⟨hF,hI,hw⟩:=hs.e
  have hv:a.eval x= .pointer (some ⟨b0,0,none⟩):=vz hs o x (by simp [hop,Op.operands]) _ hx
  have hdn:∀ (S0:St),S0.n=n→∀ t,o.dst=some t→t<S0.n:=fun S0 h0 t h'=>by rw [ht] at h';cases h';rw [h0];exact Nat.le_of_ble_eq_true hd
  by_cases hlt:pos<l.length
  ·have hrun:(execOp a.eval o).run P W= .ok (.value (.tuple #[.bool true,.int .i64 pos,.int .i32 (Utf8.decode ⟨l.toArray⟩ pos).1])) (W.iterAt b0 ⟨l.toArray⟩ (pos+(Utf8.decode ⟨l.toArray⟩ pos).2)):=by
    have:=Lib.run_next_any_at (P:=P) W b0 ⟨l.toArray⟩ pos o.type hw (by rw [ZE];exact hlt)
    simp [execOp,hop,hv,this]
   refine xG (by simp [hop]) hrun ?_
   obtain⟨hm',hf'⟩:=uO (W':=W.iterAt b0 ⟨l.toArray⟩ (pos+(Utf8.decode ⟨l.toArray⟩ pos).2)) hs.m hI rfl rfl rfl (Lib.iterAt_size ..) (fun k hk=>Lib.iterAt_other _ _ _ _ _ hk)
   have hFb:F b0:=(hF b0).2 rfl
   have hs':Sat G (Xu b0 ⟨l.toArray⟩) r ⟨n,g,h,d,(pos+(Utf8.decode ⟨l.toArray⟩ pos).2,false)⟩ I F a (W.iterAt b0 ⟨l.toArray⟩ (pos+(Utf8.decode ⟨l.toArray⟩ pos).2)):=
    ⟨hs.n,hs.g,hm',hs.h.keep hf' (fun b hb e=>by subst e;exact (hs.f b hFb).2.2.1 hb),hs.d,hs.dn,fun b hb=>by
     rw [Lib.iterAt_other _ _ _ _ _ (fun e=>by subst e;exact (hs.f b hFb).2.2.2 hb)];exact hs.dk b hb,⟨hF,hI,Lib.iterAt_heap _ _ _ _ _ hw⟩,fun b hb=>by
     obtain⟨k1,k2,k3,k4⟩:=hs.f b hb
     exact⟨by rw [Lib.iterAt_size];exact k1,k2,k3,k4⟩,fun k hk=>by
     obtain⟨⟨rec,k1⟩,k2⟩:=hs.l k hk
     refine⟨⟨rec,?_⟩,k2⟩
     rw [Lib.iterAt_other _ _ _ _ _ (fun e=>by subst e;exact k2 (.inr (.inr hFb)))];exact k1⟩
   have hs2:=hs'.put (d:=o.dst) (s:=xn [zm true,intS .i64 (pos:Nat),intS .i32 (Utf8.decode ⟨l.toArray⟩ pos).1]) (v:=.tuple #[.bool true,.int .i64 pos,.int .i32 (Utf8.decode ⟨l.toArray⟩ pos).1]) ⟨_,rfl,zW rfl (zW rfl (zW rfl dens_nil))⟩ (hdn _ rfl)
   refine k _ I F _ _ hs2 (.inl ⟨hlt,by simp [St.set,ht]⟩) ?_
   rw [Yp]
   exact hf'.weaken (fun b hb=>by subst hb;exact .inr (.inr hFb)) fun b hb=>.inr hb
  ·have hrun:(execOp a.eval o).run P W= .ok (.value (.tuple #[.bool false])) W:=by
    have:=Lib.run_next_end_at (P:=P) W b0 ⟨l.toArray⟩ pos o.type hw (by rw [ZE];exact hlt)
    simp [execOp,hop,hv,this]
   refine xG (by simp [hop]) hrun ?_
   have hs2:=hs.put (d:=o.dst) (s:=xn [zm false]) (v:=.tuple #[.bool false]) ⟨_,rfl,zW rfl dens_nil⟩ (hdn _ rfl)
   refine k _ I F _ _ hs2 (.inr ⟨hlt,by simp [St.set,ht]⟩) ?_
   rw [Yp]
   exact Fram.refl _ _ _
 ·rcases hS' with ⟨h3,rfl⟩ | ⟨h3,rfl⟩
  ·exact h1 h3
  ·exact h2 h3
theorem zdi {l:List UInt8} {pos:Nat} (h:pos<l.length):(l[pos].toNat<128∧Utf8.decode ⟨l.toArray⟩ pos=(l[pos].toNat,1))∨(128≤l[pos].toNat∧128≤(Utf8.decode ⟨l.toArray⟩ pos).1):=by
 rcases Nat.lt_or_ge l[pos].toNat 128 with h1 | h1
 ·exact .inl ⟨h1,by have:=decode_ascii ⟨l.toArray⟩ pos (by rw [ZE];exact h) h1;rw [this];rfl⟩
 ·refine .inr ⟨h1,?_⟩
  have e:(ByteArray.mk l.toArray).get! (pos+0)=l[pos]:=by
   show (ByteArray.mk l.toArray).get! pos=_
   simp [ByteArray.get!,h]
  unfold Utf8.decode
  simp only [e]
  have h2:¬ l[pos].toNat<0x80:=by omega
  rw [if_neg h2]
  split
  ·split
   ·assumption
   ·simp [Utf8.runeError]
  ·split
   ·split
    ·rename_i h3
     simp only [ge_iff_le,Bool.and_eq_true,decide_eq_true_eq] at h3
     show 128≤_
     simp only
     omega
    ·simp [Utf8.runeError]
   ·split
    ·split
     ·rename_i h3
      simp only [ge_iff_le,Bool.and_eq_true,decide_eq_true_eq] at h3
      show 128≤_
      simp only
      omega
     ·simp [Utf8.runeError]
    ·simp [Utf8.runeError]
theorem zim (s:ByteArray) (i:Nat):(Utf8.decode s i).1≤1114111:=by
 unfold Utf8.decode
 have hb:∀ k,(s.get! k).toNat<256:=fun k=>(s.get! k).toNat_lt
 simp only
 split
 ·have:=hb (i+0);simp only;omega
 ·split
  ·split
   ·simp only;omega
   ·simp [Utf8.runeError]
  ·split
   ·split
    ·simp only;omega
    ·simp [Utf8.runeError]
   ·split
    ·split
     ·rename_i h3
      simp only [Utf8.valid,ge_iff_le,Bool.and_eq_true,Bool.or_eq_true,decide_eq_true_eq] at h3
      simp only;omega
     ·simp [Utf8.runeError]
    ·simp [Utf8.runeError]
theorem Run.nextZ {n d0 pos b0:Nat} {l:List UInt8} {g:List (Nat×SV)} {h:HL} {d:List Nat} {x:Operand} (hp:p=false) (hop:o.op= .next x true) (hx:xd g x=some (eqS (.pointer (some ⟨b0,0,none⟩)))) (hg:zH gd g o true) (ht:o.dst=some d0) (hd:Nat.blt d0 n=true)
  (h1:∀ (hk:pos<l.length) (z w:Nat),z≤1114111→((z<128∧l[pos].toNat=z∧w=1)∨(128≤z∧128≤l[pos].toNat))→Run P G (Xu b0 ⟨l.toArray⟩) r gd p ops ⟨n,(d0,xn [zm true,intS .i64 (pos:Nat),intS .i32 (z:Nat)])::g,h,d,(pos+w,false)⟩ K)
  (h2:¬ pos<l.length→Run P G (Xu b0 ⟨l.toArray⟩) r gd p ops ⟨n,(d0,xn [zm false])::g,h,d,(pos,false)⟩ K):Run P G (Xu b0 ⟨l.toArray⟩) r gd p (o::ops) ⟨n,g,h,d,(pos,false)⟩ K:=
 Run.nextS hp hop hx hg ht hd (fun hk=>h1 hk _ _ (zim _ _) (by
  rcases zdi hk with ⟨k1,k2⟩ | ⟨k1,k2⟩
  ·exact .inl ⟨by rw [k2];exact k1,by rw [k2],by rw [k2]⟩
  ·exact .inr ⟨k2,k1⟩)) h2
end
end Go.Sv
