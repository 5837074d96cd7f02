/- What the arguments of the laws are: naturals and integers. -/
import Derived.Test.YtceodgbmninaoaaGreatDoorSnk
import Derived.Test.YtceodgbmninaoaaGreatDoorSv1
import Derived.Test.YtceodgbmninaoaaGreatDoorRows
import Derived.Lay
import Derived.Laws.Strings
import Derived.Laws.Concat
import Derived.Laws.BytesArg
import Derived.Lib.OthersKept
import Derived.Below
set_option linter.all false
namespace Go.Proofs
open Go Go.Sv Num Go.RowKit Go.ChangeShapes Go.WideShapes
section
variable {H:Type} {enc:TypeId×Value->H} {W:World} {base:Nat} {spare:Nat->Bool} {held:Bool}
end
end Go.Proofs
namespace Go.Sv
open Go Go.RowKit
def ge (l:G6):Value:=.string ⟨l.toArray⟩
abbrev strS (l:List UInt8):SV:=eqS (ge l)
instance {l:G6}:One (eqS (ge l)):=⟨YP Z⟩
def Ye (l:G6):(ByteArray.mk l.toArray).size=l.length:=by rfl
def zxR (l:G6) (i:Nat) (h:i<(ByteArray.mk l.toArray).size) (h':i<l.length):(ByteArray.mk l.toArray)[i]'h=l[i]:=rfl
def WS {l m:G6} (h:l=m) (I:Imm) (v:Value) (a:(strS l).den I v):(strS m).den I v:=h▸a
section
variable {P:Program} {G:Imm} {E:aD} {r:Option Nat} {S:St} {gd:G4} {p:Bool} {o:Oper} {ops:List Oper} {K:St->Prop} {H:HL} {g:Ha}
variable {t src dst:TypeId} {x y:Operand} {l m:G6} {cs:List SV} {lo hi:Nat} {s:SV}
def wS [aV P t] (hop:o.op= .call {callee:=.builtin .len,args:= #[x],argTypes:= #[t]}) (hx:yW g x=some (strS l)):OpOK P G H o g (MK l.length):=
 yy GW fun I W a _ _ c=>by
  have b:a.eval x= .string ⟨l.toArray⟩:=c.get Gl hx;refine⟨.int .i64 l.length,?_,Z⟩;simp [execOp,hop,resolve,invoke,builtin,run_len_string W t _ _ (aV.h),b,goInt,Ye]
def zrc:BinOp->G6->G6->Option Bool
 | .eql,x,y=>some (x==y)
 | .neq,x,y=>some (!(x==y))
 | .lss,x,y=>some (Op.bytesLess x y)
 | _,_,_=>none
def xL {op:BinOp} {u:TypeId} {b:Bool} (hop:o.op= .binOp op t x y u) (hx:yW g x=some (strS l)) (hy:yW g y=some (strS m)) (c:zrc op l m=some b):OpOK P G H o g (zp b):=
 yy GW fun I W a _ _ e=>by
  have h1:a.eval x= .string ⟨l.toArray⟩:=e.get GB hx;have d:a.eval y= .string ⟨m.toArray⟩:=e.get GB hy;refine⟨.bool b,?_,Z⟩;cases op <;> simp only [zrc,Dk,reduceCtorEq] at c
  .subst c;simp [execOp,hop,h1,d,eqGuard,binOp,Op.stringOp,ByteArray.toList_mk]
  .subst c;simp [execOp,hop,h1,d,eqGuard,binOp,Op.stringOp,ByteArray.toList_mk]
  .subst c;simp [execOp,hop,h1,d,eqGuard,binOp,Op.stringOp,ByteArray.toList_mk]
def vD {u:TypeId} (b:o.op= .binOp .add t x y u) (hx:yW g x=some (strS l)) (hy:yW g y=some (strS m)) (e:l.length+m.length<=9223372036854775807):OpOK P G H o g (strS (l++m)):=
 yy (by simp [b]) fun I W a _ _ c=>by
  have h1:a.eval x= .string ⟨l.toArray⟩:=c.get (by simp [b,Op.operands]) hx;have f:a.eval y= .string ⟨m.toArray⟩:=c.get (by simp [b,Op.operands]) hy;refine⟨ge (l++m),?_,Z⟩;have d:=run_string_add_sum (P:=P) W ⟨l.toArray⟩ ⟨m.toArray⟩ (by assumption);rw [ByteArray.mk_append_mk] at d
  simp only [execOp,b,h1,f,eqGuard,binOp_string_add,Sem.run_bind,Bool.not_false,if_true,Sem.run_pure,Result.andThen_ok,d];rfl
def Zi [aV P t] {d:Operand} {k:IntKind} {i:Int} {c:UInt8} (hop:o.op= .index t x d) (hx:yW g x=some (strS l)) (hi:yW g d=some (ze k i)) (p:0<=i) (e:l[i.toNat]? =some c):OpOK P G H o g (ze .u8 c.toNat):=
 yy GW fun I W a _ _ j=>by
  have h1:a.eval x= .string ⟨l.toArray⟩:=j.get GB hx;have n:a.eval d= .int k i:=j.get GB hi;have b:=yJ e;refine⟨.int .u8 c.toNat,?_,Z⟩;have f:=run_index_string W t ⟨l.toArray⟩ k i (aV.h (P:=P));rw [MZ ⟨p,by rw [Ye];omega⟩,zxR _ _ _ b] at f
  have m:l[i.toNat]=c:=by rw [AL b] at e;exact BA e
  rw [m] at f
  simp [execOp,hop,h1,n,f]
def XC [aV P t] {low high:Option Operand} (hop:o.op= .slice t x low high none) (hx:yW g x=some (strS l))
 (c:(low=none/\lo=0)\/∃ y k,low=some y/\yW g y=some (ze k lo)) (b:(high=none/\hi=l.length)\/∃ y k,high=some y/\yW g y=some (ze k hi)) (h1:lo<=hi) (p:hi<=l.length):OpOK P G H o g (strS ((l.take hi).drop lo)):=
 yy GW fun I W a _ _ f=>by
  have m:a.eval x= .string ⟨l.toArray⟩:=f.get GB hx;refine⟨ge ((l.take hi).drop lo),?_,Z⟩;have i:(ByteArray.mk l.toArray).extract lo hi=⟨((l.take hi).drop lo).toArray⟩:=by
   apply ByteArray.ext;simp [ByteArray.data_extract,BI]
  have n:∀ (d e:Option Value),((d=none/\lo=0)\/∃ k,d=some (.int k lo))->((e=none/\hi=l.length)\/∃ k,e=some (.int k hi))->(Instr.sliceBounds false l.length l.length d e none).run P W= .ok (lo,hi,l.length) W:=by
   rintro d e (⟨rfl,rfl⟩ | ⟨k,rfl⟩) (⟨rfl,rfl⟩ | ⟨q,rfl⟩)
   .rfl
   .simp [Instr.sliceBounds,Instr.sliceBound,asIntOf];omega
   .simp [Instr.sliceBounds,Instr.sliceBound,asIntOf];omega
   .simp [Instr.sliceBounds,Instr.sliceBound,asIntOf,h1,p]
  have j:=n (low.map a.eval) (high.map a.eval) (by
   rcases c with ⟨rfl,rfl⟩ | ⟨y,k,rfl,hy⟩
   .simp
   .exact .inr ⟨k,by have:a.eval y=_:=f.get GB hy;grind⟩) (by
   rcases b with ⟨rfl,rfl⟩ | ⟨y,k,rfl,hy⟩
   .simp
   .exact .inr ⟨k,by have:a.eval y=_:=f.get GB hy;grind⟩)
  simp [execOp,hop,m,Instr.sliceAt,Instr.slice,run_underlying (aV.h),Ye,j,i,ge]
def zmx (l:G6):strOfNums (l.map fun c=>((c.toNat:Nat):Int))=⟨l.toArray⟩:=by
 unfold strOfNums;rw [As];congr 2;exact (Bk fun c _=>by simp).trans (Dm l)
abbrev u8S (c:UInt8):List SV:=[ze .u8 c.toNat]
def zhT {i:Nat} (h:i<l.length):(l.map fun c=>((c.toNat:Nat):Int)).getD i 0=(l[i].toNat:Int):=by simp [h]
theorem zki {e:TypeId} [am P src e 1] [aR P e .u8] [aV P dst] {I:Imm} {W:World} {v:Value} (p:Holds G I W) (h:(zR 1 u8S l).den I v):(convert src dst v).run P W= .ok (ge l) W:=by
  obtain⟨a,cap,rfl,h1,r,d⟩:=h;have g:=am.u (P:=P) (t:=src);rcases d with d | ⟨b,n,rfl,d⟩
  . subst d
    cases a with
    | none=>exact run_convert_bytes_nil W src e g aR.h 0 cap dst aV.h
    | some a=>
      have q:(loadCells a 0).run P W= .ok (([]:List Int).map (Value.int .u8)).toArray W:=by
        have:=run_loadCells_list (P:=P) W a [] (fun j v hj=>by grind)
        simpa using this
      have:=run_convert_bytes_string W src dst e a 0 cap g aR.h aV.h;assumption
  . have:=run_convert_bytes_arg (P:=P) W src e g aR.h b n l.length cap (l.map fun c=>((c.toNat:Nat):Int)) B (fun i hi=>by
      obtain⟨c,m,k⟩:=d i l[i] (AL hi);obtain⟨y,hy1,hy2,_⟩:=k 0 _ Z;obtain⟨s,f,o⟩:=p.mem _ _ m;rw [xC o,zhT hi];have:y= .int .u8 l[i].toNat:=hy2;grind) dst aV.h
    rw [zmx] at this;exact this
def zeC {e:TypeId} [am P src e 1] [aR P e .u8] [aV P dst] (b:o.op= .convert src dst x) (hx:yW g x=some s) (d:∀ I v,s.den I v->(zR 1 u8S l).den I v):OpOK P G H o g (strS l):=
 yy (by simp [b]) fun I W a h _ f=>by
  have c:=d I _ (f.get (by simp [b,Op.operands]) hx);refine⟨ge l,?_,Z⟩;simp only [execOp,b,Sem.run_bind,zki h c];rfl
def zkj (j:Nat) {e:TypeId} [am P src e 1] [aR P e .u8] [aV P dst] {b f n cap p k:Nat} (d:o.op= .convert src dst x) (hx:yW g x=some (eqS (.slice (some ⟨b,f,none⟩) n cap))) (D:H[j]? =some ⟨some b,p,cs,k⟩) (w:l.length=n) (m:∀ i,i<n->cs[f+i]? =some (ze .u8 ((l.getD i 0).toNat:Int))):OpOK P G H o g (strS l):=
 yy (by simp [d]) fun I W a E z v=>by
  have r:a.eval x= .slice (some ⟨b,f,none⟩) n cap:=v.get (by simp [d,Op.operands]) hx;obtain⟨c,q,A⟩:=YC ((z.mem _ (AE D)).some rfl);have s:=am.u (P:=P) (t:=src);refine⟨ge l,?_,Z⟩;have:=run_convert_bytes_arg (P:=P) W src e s aR.h b f n cap (l.map fun c=>((c.toNat:Nat):Int)) (by simp [w]) (fun i hi=>by
   obtain⟨y,hy1,hy2,_⟩:=A _ _ (m i hi);rw [xC q,hy1,show y=_ from hy2,zhT (by omega)]
   grind) dst aV.h
  rw [zmx] at this;simp only [execOp,d,r,Sem.run_bind,this]
  rfl
def vX {f:FuncId} {args:List SV} (g:∀ args w,(callFunc f args).run P w= .ok (.enter f args) w) (h:∀ I W (vs:List Value),Holds G I W->dens I args vs->Calls P f vs.toArray W fun e W'=>∃ v,e= .returned v/\(∀J,I.le J->s.den J v)/\Below W.heap.size W W'):zm P G f args s:=
 ⟨g,fun I W vs h1 k i=>(h I W vs h1 i).mono fun e W' ⟨v,h4,h5,h6⟩=>
  ⟨v,I,s,[],h4,⟨Z,Z⟩,h5 I (Imm.le_refl _),⟨h1.glob,fun b c a=>by
   obtain⟨j,f',d⟩:=h1.mem b c a
   exact⟨j,f',(h6.block _ (yv d)).trans d⟩⟩,⟨by simp [bs],B⟩,h6.os,h6.tape,h6.output,Imm.le_refl _,h6.size,fun b a _=>h6.block b a,fun b h7 h8=>M1 h7 h8,fun b a=>by grind⟩⟩
end
section
variable {P:Program} {G:Imm} {E:aD} {r:Option Nat} {S:St} {gd:G4} {p:Bool} {o:Oper} {ops:List Oper} {K:St->Prop}
def bJ (pre Hp suf:HL) {a c:Nat} {g:Ha} {h:HL} {d:G7} {i:Nat×Bool} {x:Operand} {xs:Array Operand} {e:Array TypeId} {f:FuncId} {args caps:List SV} {Q:SV->HL->Prop} (hp:p=false) (b:o.op= .call {callee:=.value x,args:=xs,argTypes:=e})
 (hf:yW g x=some (wD f caps)) (m:uk g xs.toList=some args) (n:h=pre++Hp++suf) (j:CallSpec P G f (args++caps) Hp Q) (l:zO gd g o true) (ht:o.dst=some c) (hd:Nat.blt c a=true)
 (k:∀ s H',Q s H'->ae P G E r gd p ops ⟨a,(c,s)::g,pre++H'++suf,d,i⟩ K):ae P G E r gd p (o::ops) ⟨a,g,h,d,i⟩ K:=by
 refine ae.loc hp n (zqI b Z hf m j) l Gt fun s H' hq=>?_;rw [ht];exact k s H' hq
end
variable {α β:Type} {f:α->List SV} {g:β->List SV} {l:List α} {I:Imm} {st:Nat} {v:Value}
def zpj {b o:Nat} {cs ds:List SV} (h:cellsAt I b o cs) (hi:∀ (i:Nat) (s:SV),ds[i]? =some s->∃ r:SV,cs[i]? =some r/\∀ v,r.den I v->s.den I v):cellsAt I b o ds:=by
 obtain⟨c,f,hx⟩:=h;refine⟨c,f,fun i s d=>?_⟩;grind
def zmY (k:α->β) (hf:∀ x∈l,∀(i:Nat) (s:SV),(g (k x))[i]? =some s->∃ r:SV,(f x)[i]? =some r/\∀ v,r.den I v->s.den I v) (h:(zR st f l).den I v):(zR st g (l.map k)).den I v:=by
 obtain⟨a,cap,d,h1,m,c⟩:=h;refine⟨a,cap,by grind,by rwa [BR],by rwa [BR],?_⟩;rcases c with c | ⟨b,o,e,j⟩
 .grind
 .refine .inr ⟨b,o,e,fun i y hy=>?_⟩;rw [Ba] at hy
  rcases hx:l[i]? with _ | x
  .grind
  .rw [hx] at hy;cases hy
   exact zpj (j i x hx) (hf x (AE hx))
def ld (k:α->β) (hf:∀ x,g (k x)=f x) (h:(zR st f l).den I v):(zR st g (l.map k)).den I v:=
 zmY k (fun x _ i s a=>⟨s,by grind,fun _ h=>h⟩) h
section
variable {P:Program} {G:Imm} {E:aD} {r:Option Nat} {S:St} {gd:G4} {o:Oper} {ops:List Oper} {K:St->aD->Prop}
variable {l:List Oper} {i:Nat×Bool} {n id:Nat} {g:Ha} {h:HL} {d:G7}
inductive aQ (P:Program) (G:Imm) (r:Option Nat) (gd:G4):List Oper->aD->St->(St->aD->Prop)->Prop
 | run {ops:List Oper} {E:aD} {S:St} {K:St->aD->Prop} (h:ae P G E r gd false ops S fun S'=>K S' E):aQ P G r gd ops E S K
 | sw {o:Oper} {ops:List Oper} {E:aD} {S:St} {K:St->aD->Prop} (K':St->aD->Prop) (ho:gw P G E r o S K') (hg:zO gd S.g o true) (h:∀ S' E',K' S' E'->aQ P G r gd ops E' S' K):aQ P G r gd (o::ops) E S K
def Sat.shut {I:Imm} {F:Nat->Prop} {a:Act} {W:World} (b:Sat G E r S I F a W) (i:Nat×Bool):Sat G aX r {S with i:=i} I (fun _=>False) a W/\Fram (own S F) I W (own {S with i:=i} fun _=>False) I W:=
 b.move (h':=S.h) (Fram.refl (fun _=>False) I W) (fun _ h=>h.elim) b.m b.h (fun _ h=>h) (fun _=>.inl) fun _ h=>h.elim
def aQ.snd {b:List Oper} (h:aQ P G r (xX l) b E S K):eW P G E r l.toArray b S K:=by
 induction h with
 | run h=>exact fun k d n Q I F a W c f=>nL l.toArray (fun j=>by simp [xX]) h k d n Q I F a W c fun S' E' I' F' a' W' h1 ⟨h2,e⟩ h3=>f S' E' I' F' a' W' h1 (e▸h2) h3
 | sw K' ho hg _ ih=>exact eW.sw (fun j=>by simp [xX]) ho hg ih
def zm6 {y:Code} {Q:Hb} (h:aQ P G r (xX l) l aX S K) (c:∀ S' E',K S' E'->T P G E' r y S' fun e S2=>∃ i,Q e {S2 with i:=i}):T P G aX r (.seq (.region id l.toArray false) y) S Q:=by
 intro n I F a W b;refine wpIn_seq (wpIn_region ?_);have:=h.snd 0 (by simp) n (Exit.then (y.wpIn (Fr r) n P (post G aX r Q (own S F) I W)) (post G aX r Q (own S F) I W)) I F a W b fun S' E' I' F' g W' h1 f d=>wpIn_mono (c _ _ f n I' F' g W' h1) fun e a2 W2 ⟨S2,I2,F2,g1,⟨i,g2⟩,g3⟩=>
  let ⟨g4,g5⟩:=g1.shut i;⟨_,I2,_,g4,g2,(d.trans g3).trans g5⟩
 simp_all
def aQ.one {t:Nat} {s:SV} (b:OpOK P G h o g s) (c:zO gd g o true) (ht:o.dst=some t) (e:Nat.blt t n=true) (a:aQ P G r gd ops E ⟨n,(t,s)::g,h,d,i⟩ K):aQ P G r gd (o::ops) E ⟨n,g,h,d,i⟩ K:=
 .sw _ (ct.sw (OpOK.eff (S:=⟨n,g,h,d,i⟩) b fun j h'=>by simp_all)) c fun S' E' ⟨f,e2⟩=>by subst f;subst e2;simpa only [St.set,ht] using a
def zyE {vf:Nat->Value} {Ef:Nat->aD} {obj:Obj} {i':Nat×Bool} {l:Nat} (v:∀ c,o.op≠ .defer c) (ht:o.dst=some l) (q:Nat.blt l n=true) (j:∀ I a W,reads g I o a->(execOp a.eval o).run P W= .ok (.value (vf W.heap.size)) (W.alloc obj))
 (w:∀ I F W b,(∀k,F k↔k=b)->I b=none->W.heap[b]? =some obj->(Ef b).ok i' I F W):gw P G aX r o ⟨n,g,h,d,i⟩ fun S' E'=>∃ b,S'=⟨n,(l,eqS (vf b))::g,h,d,i'⟩/\E'=Ef b:=by
 intro m I F a W p Q f k;obtain⟨u,hf⟩:=ZB f.m obj (fun _=>False);obtain⟨s1,x⟩:=f.move (h':=h) hf (fun _ h=>h.elim) u (f.h.keep hf fun _ _ h=>h) (w I _ _ W.heap.size (fun _=>Iff.rfl) f.m.none_new (aM _ _)) (fun _=>.inl) fun b e=>by subst e;exact⟨.inr (Af _),B,f.m.none_new,fun h=>M1 (f.h.lt h).1 C⟩
 refine xg v (j I a W (vT f o)) ?_;have:=k _ _ I _ _ _ (s1.put (d:=some l) Z fun t e=>by cases e;simpa [Bv] using q) ⟨W.heap.size,Z,Z⟩ x;rw [<-ht] at this;exact this
end
def VS (r0:Nat) (s:ByteArray):aD where
 ok:=fun i I F W=>(∀b,F b↔b=r0)/\I r0=none/\W.heap[r0]? =some (.stringIter s i.1)
 stab:=fun _ _ _ _ _ _ ⟨h1,_,h3⟩ _ _ _ _ _ hw hn=>⟨h1,hn r0 ((h1 r0).2 Z),(hw r0 ((h1 r0).2 Z)).trans h3⟩
section
variable {P:Program} {G:Imm} {r:Option Nat} {gd:G4} {p:Bool} {o:Oper} {ops:List Oper} {K:St->Prop}
variable {x:Operand} {n b0 a c:Nat} {l:G6} {g:Ha} {h:HL} {d:G7}
def zkk {k:Nat} {ty:TypeId} [aV P ty] {j f:Oper} {y:Code} {Q:Hb} (h1:j.op= .move x) (v:j.dst=some c) (u:j.guard=none) (q:f.op= .range ty (.tmp c)) (A:f.dst=some k) (z:f.guard=none)
 (hx:yW g x=some (strS l)) (p:Nat.blt c n=true) (o:Nat.blt k n=true) (m:∀ b,T P G (VS b ⟨l.toArray⟩) r y ⟨n,(k,G9 b)::(c,strS l)::g,h,d,(0,false)⟩ (fun e S'=>Q e {S' with i:=(0,false)})):
 T P G aX r (.seq (.region b0 [j,f].toArray false) y) ⟨n,g,h,d,(0,false)⟩ Q:=
 zm6 (l:=[j,f]) (K:=fun S' E'=>T P G E' r y S' fun e S2=>Q e {S2 with i:=(0,false)}) (.one (zC h1 hx) (by simp [zO,u]) v p (.sw _ (zyE (vf:=fun b=>.pointer (some ⟨b,0,none⟩)) (Ef:=fun b=>VS b ⟨l.toArray⟩) (obj:=.stringIter ⟨l.toArray⟩ 0) (i':=(0,false)) (by simp [q]) A o (fun I a W m=>by
  have w:a.eval (.tmp c)= .string ⟨l.toArray⟩:=m.get (s:=strS l) (by simp [q,Op.operands]) (by simp [yW,look])
  simp [execOp,q,w,run_range_string W ty _ (aV.h)];rfl) fun I F W b h1 v u=>⟨h1,v,u⟩) (by simp [zO,z]) fun S' E' ⟨b,e1,e2⟩=>by subst e1;subst e2;exact .run (.nil (m b)))) fun S' E' h=>VE h fun e S2 hq=>⟨_,hq⟩
def zCo (hop:o.op= .next x true) (hx:yW g x=some (G9 b0)):ev P G (VS b0 ⟨l.toArray⟩) o g (c,false) fun s i'=>(c<l.length/\s=yR [zp true,ML c,ze .i32 (Utf8.decode ⟨l.toArray⟩ c).1]/\i'=(c+(Utf8.decode ⟨l.toArray⟩ c).2,false))\/(¬c<l.length/\s=yR [zp false]/\i'=(c,false)):=by
 intro v r I F W a n Q q t ⟨m,hI,h⟩ f k;have p:a.eval x= .pointer (some ⟨b0,0,none⟩):=t.get GB hx;obtain rfl:=funext fun k=>propext (m k)
 by_cases e:c<l.length
 .have d:(execOp a.eval o).run P W= .ok (.value (.tuple #[.bool true,.int .i64 c,.int .i32 (Utf8.decode ⟨l.toArray⟩ c).1])) (W.iterAt b0 ⟨l.toArray⟩ (c+(Utf8.decode ⟨l.toArray⟩ c).2)):=by
   have:=Lib.run_next_any_at (P:=P) W b0 ⟨l.toArray⟩ c o.type h (by assumption);simp [execOp,hop,p,this]
  obtain⟨i,j⟩:=uz (W':=W.iterAt b0 ⟨l.toArray⟩ (c+(Utf8.decode ⟨l.toArray⟩ c).2)) q hI Z Z Z (Lib.iterAt_size ..) (fun k hk=>Lib.iterAt_other _ _ _ _ _ hk);exact xg GW d (k _ I _ _ _ _ (.inl ⟨e,Z,Z⟩) j i ⟨m,hI,Lib.iterAt_heap _ _ _ _ _ h⟩ (fun b u=>by rw [Lib.iterAt_size];grind) ⟨_,Z,yB Z (yB Z (yB Z aq))⟩)
 .have d:(execOp a.eval o).run P W= .ok (.value (.tuple #[.bool false])) W:=by
   have:=Lib.run_next_end_at (P:=P) W b0 ⟨l.toArray⟩ c o.type h (by assumption);simp [execOp,hop,p,this]
  exact xg GW d (k _ I _ _ _ _ (.inr ⟨e,Z,Z⟩) (Fram.refl _ _ _) q ⟨m,hI,h⟩ f ⟨_,Z,yB Z aq⟩)
def eO {b:Nat} (hp:p=false) (c:o.op= .next x true) (hx:yW g x=some (G9 b0)) (j:zO gd g o true) (ht:o.dst=some b) (hd:Nat.blt b n=true)
 (h1:a<l.length->ae P G (VS b0 ⟨l.toArray⟩) r gd p ops ⟨n,(b,yR [zp true,ML a,ze .i32 (Utf8.decode ⟨l.toArray⟩ a).1])::g,h,d,(a+(Utf8.decode ⟨l.toArray⟩ a).2,false)⟩ K)
 (k:¬ a<l.length->ae P G (VS b0 ⟨l.toArray⟩) r gd p ops ⟨n,(b,yR [zp false])::g,h,d,(a,false)⟩ K):ae P G (VS b0 ⟨l.toArray⟩) r gd p (o::ops) ⟨n,g,h,d,(a,false)⟩ K:=
 .eff _ hp ((zCo c hx).eff (S:=⟨n,g,h,d,(a,false)⟩) Gt) j fun S' ⟨s,i',i,e⟩=>by
  subst e;simp only [St.set,ht];rcases i with ⟨f,rfl,rfl⟩ | ⟨f,rfl,rfl⟩
  .exact h1 f
  .exact k f
def zhU (h:a<l.length):(l[a].toNat<128/\Utf8.decode ⟨l.toArray⟩ a=(l[a].toNat,1))\/(128<=l[a].toNat/\128<=(Utf8.decode ⟨l.toArray⟩ a).1):=by
 rcases Ab l[a].toNat 128 with h1 | h1
 .exact .inl ⟨h1,by have:=decode_ascii ⟨l.toArray⟩ a (by assumption) h1;rw [this];rfl⟩
 .refine .inr ⟨h1,?_⟩;have e:(ByteArray.mk l.toArray).get! (a+0)=l[a]:=by
   show (ByteArray.mk l.toArray).get! a=_;simp [ByteArray.get!,h]
  unfold Utf8.decode;simp only [e];have c:¬ l[a].toNat<0x80:=C;rw [MY c];split
  .split
   .omega
   .simp [Utf8.runeError]
  .split
   .split
    .grind
    .simp [Utf8.runeError]
   .split
    .split
     .grind
     .simp [Utf8.runeError]
    .simp [Utf8.runeError]
def zoK (s:ByteArray) (i:Nat):(Utf8.decode s i).1<=1114111:=by
 unfold Utf8.decode;have a:∀ k,(s.get! k).toNat<256:=fun k=>(s.get! k).toNat_lt;simp only
 split
 .omega
 .split
  .split
   .omega
   .simp [Utf8.runeError]
  .split
   .split
    .omega
    .simp [Utf8.runeError]
   .split
    .split
     .rename_i b;simp only [Utf8.valid,ge_iff_le,AD,Av,decide_eq_true_eq] at b
      omega
     .simp [Utf8.runeError]
    .simp [Utf8.runeError]
def eN {b:Nat} (hp:p=false) (c:o.op= .next x true) (hx:yW g x=some (G9 b0)) (f:zO gd g o true) (ht:o.dst=some b) (i:Nat.blt b n=true)
 (h1:∀ (e:a<l.length) (z w:Nat),z<=1114111->((z<128/\l[a].toNat=z/\w=1)\/(128<=z/\128<=l[a].toNat))->ae P G (VS b0 ⟨l.toArray⟩) r gd p ops ⟨n,(b,yR [zp true,ML a,ze .i32 (z:Nat)])::g,h,d,(a+w,false)⟩ K)
 (j:¬ a<l.length->ae P G (VS b0 ⟨l.toArray⟩) r gd p ops ⟨n,(b,yR [zp false])::g,h,d,(a,false)⟩ K):ae P G (VS b0 ⟨l.toArray⟩) r gd p (o::ops) ⟨n,g,h,d,(a,false)⟩ K:=
 eO hp c hx f ht i (fun e=>h1 e _ _ (zoK _ _) (by
  rcases zhU e with ⟨k1,k2⟩ | ⟨k1,k2⟩
  .grind
  omega)) j
end
end Go.Sv
