/- The rules of the operations that turn nothing that was there. -/
import Derived.Test.YthhamejdmpjjlaaGreatDoorSva
import Derived.Laws.Cover3
import Derived.Maps.AppendAt
import Derived.Shelf.Abstract
namespace Go.Sv
open Go Go.RowKit
class IsSl (P:Program) (t:TypeId) (e st:outParam Nat):Prop where
 u:P.underlying t=some (.slice e)
 i:∃ i,P.info? e=some i∧i.size=st
class IsScalar (P:Program) (t:TypeId):Prop where
 h:∃ d,P.underlying t=some d∧(match d with | .struct _ | .array _ _=>False | _=>True)
class IsAgg (P:Program) (t:TypeId) (n:outParam Nat):Prop where
 h:∃ d,P.underlying t=some d∧(match d with | .struct _ | .array _ _=>True | _=>False)
 i:∃ i,P.info? t=some i∧i.size=n
class IsField (P:Program) (s k:Nat) (off:outParam Nat):Prop where
 h:∃ fs f i,P.underlying s=some (.struct fs)∧fs[k]? =some f∧f.offset=off∧P.info? f.type=some i∧i.size≠0
class IsInt (P:Program) (t:TypeId) (k:outParam IntKind):Prop where
 h:P.underlying t=some (.int k)
class HasTy (P:Program) (t:TypeId):Prop where
 h:(P.underlying t).isSome=true
section basic
variable {P:Program} {G:Imm} {H:HL} {o:Oper} {g:List (Nat×SV)} {s:SV}
theorem xG {n:Nat} {r:Option Nat} {a:Act} {W:World} {next:Act→World→Prop} {Q:Exit→Act→World→Prop} (hd:∀ c,o.op≠ .defer c) {x:Result Next}
  (h:(execOp a.eval o).run P W=x) (k:o.uponIn (Fr r) n P a next Q x):o.wpIn (Fr r) n P a W next Q:=
 ⟨fun f _=>WJ r f,by rw [Oper.semAt_eq _ _ _ hd,h];exact k⟩
theorem yC (hd:∀ c,o.op≠ .defer c) (h:∀ I W a,Holds G I W→HoldsH H I W→reads g I o a→∃ v,(execOp a.eval o).run P W= .ok (.value v) W∧s.den I v):OpOK P G H o g s:=by
 intro n r I W a next Q hm hh hr k
 obtain⟨v,hv,hs⟩:=h I W a hm hh hr
 exact xG hd hv (k v I W (Fram.refl _ _ _) hm hs)
theorem reads.get {I:Imm} {a:Act} (h:reads g I o a) {x:Operand} (hx:x∈o.op.operands.toList) (hs:xd g x=some s):s.den I (a.eval x):=h x hx s hs
theorem zG {x:Operand} (hop:o.op= .move x) (hx:xd g x=some s):OpOK P G H o g s:=
 yC (by simp [hop]) fun I W a _ _ hr=>⟨_,by simp [execOp,hop],hr.get (by simp [hop,Op.operands]) hx⟩
theorem yS {x:Operand} (hop:o.op= .assign x) (hx:xd g x=some s):OpOK P G H o g s:=
 yC (by simp [hop]) fun I W a _ _ hr=>⟨_,by simp [execOp,hop],hr.get (by simp [hop,Op.operands]) hx⟩
theorem wg {c x y:Operand} {b:Bool} (hop:o.op= .pick c x y) (hc:xd g c=some (zm b)) (hx:xd g (if b then x else y)=some s):OpOK P G H o g s:=
 yC (by simp [hop]) fun I W a _ _ hr=>by
  have h1:a.eval c= .bool b:=hr.get (by simp [hop,Op.operands]) hc
  cases b with
  | true=>exact⟨_,by simp [execOp,hop,h1,asBool],hr.get (by simp [hop,Op.operands]) hx⟩
  | false=>exact⟨_,by simp [execOp,hop,h1,asBool],hr.get (by simp [hop,Op.operands]) hx⟩
theorem uI {x:Operand} {cs:List SV} (hop:o.op= .nilCheck x) (hx:xd g x=some (zT cs)):OpOK P G H o g (zT cs):=
 yC (by simp [hop]) fun I W a _ _ hr=>by
  have h1:=hr.get (by simp [hop,Op.operands]) hx
  obtain⟨b,off,hv,hc⟩:=h1
  exact⟨_,by simp [execOp,hop,hv],b,off,rfl,hc⟩
theorem yT {x:Operand} {p:Addr} (hop:o.op= .nilCheck x) (hx:xd g x=some (eqS (.pointer (some p)))):OpOK P G H o g (eqS (.pointer (some p))):=
 yC (by simp [hop]) fun I W a _ _ hr=>by
  have h1:a.eval x=_:=hr.get (by simp [hop,Op.operands]) hx
  exact⟨_,by simp [execOp,hop,h1],rfl⟩
/-! numbers -/
def zpY:BinOp→Int→Int→Option Bool
 | .eql,x,y=>some (x==y)
 | .neq,x,y=>some (x != y)
 | .lss,x,y=>some (decide (x<y))
 | .leq,x,y=>some (decide (x≤y))
 | .gtr,x,y=>some (decide (y<x))
 | .geq,x,y=>some (decide (y≤x))
 | _,_,_=>none
theorem zZ {op:BinOp} {t u:TypeId} {x y:Operand} {k:IntKind} {m n:Int} {b:Bool} (hop:o.op= .binOp op t x y u) (hx:xd g x=some (intS k m)) (hy:xd g y=some (intS k n)) (hb:zpY op m n=some b):
  OpOK P G H o g (zm b):=
 yC (by simp [hop]) fun I W a _ _ hr=>by
  have h1:a.eval x= .int k m:=hr.get (by simp [hop,Op.operands]) hx
  have h2:a.eval y= .int k n:=hr.get (by simp [hop,Op.operands]) hy
  refine⟨.bool b,?_,rfl⟩
  cases op <;> simp [zpY] at hb <;> subst hb <;> simp [execOp,hop,h1,h2,eqGuard,binOp,Op.intCmp]
def zoM:BinOp→Int→Int→Option Int
 | .add,x,y=>some (x+y)
 | .sub,x,y=>some (x-y)
 | .mul,x,y=>some (x*y)
 | _,_,_=>none
theorem wX {op:BinOp} {t u:TypeId} {x y:Operand} {k:IntKind} {m n z:Int} (hop:o.op= .binOp op t x y u) (hx:xd g x=some (intS k m)) (hy:xd g y=some (intS k n)) (hz:zoM op m n=some z):
  OpOK P G H o g (intS k (k.wrap z)):=
 yC (by simp [hop]) fun I W a _ _ hr=>by
  have h1:a.eval x= .int k m:=hr.get (by simp [hop,Op.operands]) hx
  have h2:a.eval y= .int k n:=hr.get (by simp [hop,Op.operands]) hy
  refine⟨.int k (k.wrap z),?_,rfl⟩
  cases op <;> simp [zoM] at hz <;> subst hz <;> simp [execOp,hop,h1,h2,eqGuard,binOp,Op.intArith]
theorem yA {op:BinOp} {t u:TypeId} {x y:Operand} {k:IntKind} {m n z:Int} (hop:o.op= .binOp op t x y u) (hx:xd g x=some (intS k m)) (hy:xd g y=some (intS k n)) (hz:zoM op m n=some z) (hw:k.wrap z=z):
 OpOK P G H o g (intS k z):=by have:=wX (P:=P) (G:=G) (H:=H) hop hx hy hz;rwa [hw] at this
theorem wrap_i64 {z:Int} (h1: -9223372036854775808≤z) (h2:z≤9223372036854775807):IntKind.i64.wrap z=z:=by
 simp [IntKind.wrap,IntKind.bits,IntKind.signed];omega
theorem xf {z:Int} (h1:0≤z) (h2:z≤18446744073709551615):IntKind.u64.wrap z=z:=by
 simp [IntKind.wrap,IntKind.bits,IntKind.signed];omega
theorem vH {z:Int} (h1:0≤z) (h2:z≤4294967295):IntKind.u32.wrap z=z:=by
 simp [IntKind.wrap,IntKind.bits,IntKind.signed];omega
theorem VY {z:Int} (h1:0≤z) (h2:z≤255):IntKind.u8.wrap z=z:=by
 simp [IntKind.wrap,IntKind.bits,IntKind.signed];omega
theorem xx {z:Int}:IntKind.u32.wrap z=z%4294967296:=by simp [IntKind.wrap,IntKind.bits,IntKind.signed]
theorem wk {z:Int}:IntKind.u64.wrap z=z%18446744073709551616:=by simp [IntKind.wrap,IntKind.bits,IntKind.signed]
theorem wU {t u:TypeId} {x y:Operand} {k:IntKind} {m n:Int} (hop:o.op= .binOp .quo t x y u) (hx:xd g x=some (intS k m)) (hy:xd g y=some (intS k n)) (hm:0≤m) (hn:0<n) (hw:k.wrap (m/n)=m/n):
  OpOK P G H o g (intS k (m/n)):=
 yC (by simp [hop]) fun I W a _ _ hr=>by
  have h1:a.eval x= .int k m:=hr.get (by simp [hop,Op.operands]) hx
  have h2:a.eval y= .int k n:=hr.get (by simp [hop,Op.operands]) hy
  refine⟨.int k (m/n),?_,rfl⟩
  simp [execOp,hop,h1,h2,eqGuard,binOp,Op.intDiv,show ¬n=0 by omega,Int.tdiv_eq_ediv_of_nonneg hm,hw]
theorem wV {t u:TypeId} {x y:Operand} {k:IntKind} {m n:Int} (hop:o.op= .binOp .rem t x y u) (hx:xd g x=some (intS k m)) (hy:xd g y=some (intS k n)) (hm:0≤m) (hn:0<n):
  OpOK P G H o g (intS k (m%n)):=
 yC (by simp [hop]) fun I W a _ _ hr=>by
  have h1:a.eval x= .int k m:=hr.get (by simp [hop,Op.operands]) hx
  have h2:a.eval y= .int k n:=hr.get (by simp [hop,Op.operands]) hy
  refine⟨.int k (m%n),?_,rfl⟩
  simp [execOp,hop,h1,h2,eqGuard,binOp,Op.intDiv,show ¬n=0 by omega,Int.tmod_eq_emod_of_nonneg hm]
theorem wr {t u:TypeId} {x y:Operand} {k k':IntKind} {m n:Int} (hop:o.op= .binOp .shr t x y u) (hx:xd g x=some (intS k m)) (hy:xd g y=some (intS k' n)) (hn:0≤n) (hb:n≤k.bits):
  OpOK P G H o g (intS k (m/2^n.toNat)):=
 yC (by simp [hop]) fun I W a _ _ hr=>by
  have h1:a.eval x= .int k m:=hr.get (by simp [hop,Op.operands]) hx
  have h2:a.eval y= .int k' n:=hr.get (by simp [hop,Op.operands]) hy
  refine⟨.int k (m/2^n.toNat),?_,rfl⟩
  have hmin:min n.toNat k.bits=n.toNat:=Nat.min_eq_left (by omega)
  simp [execOp,hop,h1,h2,eqGuard,binOp,Op.shift,show ¬n<0 by omega,hmin]
  exact Int.fdiv_eq_ediv_of_nonneg m (Int.le_of_lt (Int.pow_pos (by decide)))
theorem Zs {t u:TypeId} {x y:Operand} {k k':IntKind} {m n:Int} (hop:o.op= .binOp .shl t x y u) (hx:xd g x=some (intS k m)) (hy:xd g y=some (intS k' n)) (hn:0≤n) (hb:n≤k.bits):
  OpOK P G H o g (intS k (k.wrap (m*2^n.toNat))):=
 yC (by simp [hop]) fun I W a _ _ hr=>by
  have h1:a.eval x= .int k m:=hr.get (by simp [hop,Op.operands]) hx
  have h2:a.eval y= .int k' n:=hr.get (by simp [hop,Op.operands]) hy
  refine⟨.int k (k.wrap (m*2^n.toNat)),?_,rfl⟩
  have hmin:min n.toNat k.bits=n.toNat:=Nat.min_eq_left (by omega)
  simp [execOp,hop,h1,h2,eqGuard,binOp,Op.shift,show ¬n<0 by omega,hmin]
def zew (op:BinOp) (k:IntKind) (x y:Int):Int:=
 let a:=BitVec.ofInt k.bits x
 let b:=BitVec.ofInt k.bits y
 k.wrap (match op with | .and=>a &&& b | .or=>a ||| b | .xor=>a ^^^ b | _=>a &&& ~~~b).toNat
theorem wI {op:BinOp} {t u:TypeId} {x y:Operand} {k:IntKind} {m n:Int} (hop:o.op= .binOp op t x y u) (hbit:op= .and∨op= .or∨op= .xor∨op= .andNot) (hx:xd g x=some (intS k m)) (hy:xd g y=some (intS k n)):
  OpOK P G H o g (intS k (zew op k m n)):=
 yC (by simp [hop]) fun I W a _ _ hr=>by
  have h1:a.eval x= .int k m:=hr.get (by simp [hop,Op.operands]) hx
  have h2:a.eval y= .int k n:=hr.get (by simp [hop,Op.operands]) hy
  refine⟨.int k (zew op k m n),?_,rfl⟩
  rcases hbit with rfl | rfl | rfl | rfl <;> simp [execOp,hop,h1,h2,eqGuard,binOp,Op.intBits,zew]
theorem XX {t:TypeId} (W:World) (b c:Bool) (hty:P.underlying t=some .bool):(Op.equal t (.bool b) (.bool c)).run P W= .ok (b==c) W:=by
 have e:∀ d,(Op.equalIn (d+1) t (.bool b) (.bool c)).run P W= .ok (b==c) W:=by intro d;simp [Op.equalIn,run_underlying hty]
 exact e 9999
theorem XY {t u:TypeId} {x y:Operand} {b c:Bool} (hop:o.op= .binOp .eql t x y u) (hx:xd g x=some (zm b)) (hy:xd g y=some (zm c)) (hty:P.underlying t=some .bool):OpOK P G H o g (zm (b==c)):=
 yC (by simp [hop]) fun I W a _ _ hr=>by
  have h1:a.eval x= .bool b:=hr.get (by simp [hop,Op.operands]) hx
  have h2:a.eval y= .bool c:=hr.get (by simp [hop,Op.operands]) hy
  refine⟨.bool (b==c),?_,rfl⟩
  have e:=XX W b c hty
  have e2:(binOp .eql t (.bool b) (.bool c)).run P W= .ok (.bool (b==c)) W:=by
   show ((do pure (.bool (←Op.equal t (.bool b) (.bool c)))):Sem Value).run P W=_
   simp [e]
  simp [execOp,hop,h1,h2,eqGuard,e2]
theorem QK {t u:TypeId} {x y:Operand} {b c:Bool} (hop:o.op= .binOp .neq t x y u) (hx:xd g x=some (zm b)) (hy:xd g y=some (zm c)) (hty:P.underlying t=some .bool):OpOK P G H o g (zm (!(b==c))):=
 yC (by simp [hop]) fun I W a _ _ hr=>by
  have h1:a.eval x= .bool b:=hr.get (by simp [hop,Op.operands]) hx
  have h2:a.eval y= .bool c:=hr.get (by simp [hop,Op.operands]) hy
  refine⟨.bool (!(b==c)),?_,rfl⟩
  have e:=XX W b c hty
  have e2:(binOp .neq t (.bool b) (.bool c)).run P W= .ok (.bool (!(b==c))) W:=by
   show ((do pure (.bool (!(←Op.equal t (.bool b) (.bool c))))):Sem Value).run P W=_
   simp [e]
  simp [execOp,hop,h1,h2,eqGuard,e2]
theorem ZU {t:TypeId} {x:Operand} {b:Bool} (hop:o.op= .unOp .not t x) (hx:xd g x=some (zm b)):OpOK P G H o g (zm (!b)):=
 yC (by simp [hop]) fun I W a _ _ hr=>by
  have h1:a.eval x= .bool b:=hr.get (by simp [hop,Op.operands]) hx
  exact⟨.bool (!b),by simp [execOp,hop,h1,Op.unary],rfl⟩
theorem zex {t:TypeId} {x:Operand} {k:IntKind} {m:Int} (hop:o.op= .unOp .neg t x) (hx:xd g x=some (intS k m)):OpOK P G H o g (intS k (k.wrap (0-m))):=
 yC (by simp [hop]) fun I W a _ _ hr=>by
  have h1:a.eval x= .int k m:=hr.get (by simp [hop,Op.operands]) hx
  exact⟨.int k (k.wrap (0-m)),by simp [execOp,hop,h1,Op.unary,Op.intArith],rfl⟩
theorem zey {src dst:TypeId} [HasTy P src] {k':IntKind} [IsInt P dst k'] {x:Operand} {k:IntKind} {m:Int} (hop:o.op= .convert src dst x) (hx:xd g x=some (intS k m)):OpOK P G H o g (intS k' (k'.wrap m)):=
 yC (by simp [hop]) fun I W a _ _ hr=>by
  have h1:a.eval x= .int k m:=hr.get (by simp [hop,Op.operands]) hx
  refine⟨.int k' (k'.wrap m),?_,rfl⟩
  have hk:P.intKind dst=k':=by have:=IsInt.h (P:=P) (t:=dst) (k:=k');simp [Program.intKind,this]
  have:=run_convert_int (P:=P) W src dst k m (HasTy.h) (by rw [hk];exact IsInt.h)
  rw [hk] at this
  simp [execOp,hop,h1,this]
theorem yQ {src dst:TypeId} [HasTy P src] {k':IntKind} [IsInt P dst k'] {x:Operand} {k:IntKind} {m z:Int} (hop:o.op= .convert src dst x) (hx:xd g x=some (intS k m)) (hz:k'.wrap m=z):OpOK P G H o g (intS k' z):=by
 have:=zey (P:=P) (G:=G) (H:=H) (dst:=dst) hop hx;rwa [hz] at this
end basic
end Go.Sv
/- The rules of the operations on memory that turn nothing that was there: loads, addresses, new immutable blocks, slices. -/
namespace Go.Sv
open Go Go.RowKit
class One (s:SV):Prop where
 h:s.One
instance {cs:List SV}:One (zT cs):=⟨zjZ⟩
instance {α:Type} {st:Nat} {f:α→List SV} {l:List α}:One (zU st f l):=⟨Xd⟩
instance {f:FuncId} {cs:List SV}:One (wp f cs):=⟨zmA⟩
instance:One zbh:=⟨zcB⟩
instance {k:IntKind} {n:Int}:One (eqS (.int k n)):=⟨Zg rfl⟩
instance {b:Bool}:One (eqS (.bool b)):=⟨Zg rfl⟩
instance {b:Option Addr}:One (eqS (.pointer b)):=⟨Zg rfl⟩
instance {b:Option Addr} {n c:Nat}:One (eqS (.slice b n c)):=⟨Zg rfl⟩
instance {s:ByteArray}:One (eqS (.string s)):=⟨Zg rfl⟩
instance:One (eqS .nilFunc):=⟨Zg rfl⟩
instance {f:Fn} {x y:Array Value}:One (eqS (.func f x y)):=⟨Zg rfl⟩
class FlatC (s:SV) (cs:outParam (List SV)):Prop where
 h:Flat s cs
instance flat_agg {cs:List SV}:FlatC (zl cs) cs:=⟨.agg⟩
instance (priority:=low) flat_one {s:SV} [One s]:FlatC s [s]:=⟨.one One.h⟩
class FlatL (l:List (Nat×SV)) (r:outParam (List (Nat×List SV))):Prop where
 h:l.length=r.length∧∀ (j:Nat) p q,l[j]? =some p→r[j]? =some q→p.1=q.1∧Flat p.2 q.2
instance:FlatL [] []:=⟨rfl,by simp⟩
instance {i:Nat} {s:SV} {cs:List SV} {l:List (Nat×SV)} {r:List (Nat×List SV)} [FlatC s cs] [FlatL l r]:FlatL ((i,s)::l) ((i,cs)::r):=
 ⟨by simp [(FlatL.h (l:=l) (r:=r)).1],fun j p q hp hq=>by
  cases j with
  | zero=>simp at hp hq;subst hp;subst hq;exact⟨rfl,FlatC.h⟩
  | succ j=>exact (FlatL.h (l:=l) (r:=r)).2 j p q (by simpa using hp) (by simpa using hq)⟩
class IsZero (P:Program) (t:TypeId) (zs:outParam (List Value)):Prop where
 i:∃ i z,P.info? t=some i∧i.zero=some z∧z.cells=zs.toArray∧i.size=zs.length
 one:xF zs
section mem
variable {P:Program} {G:Imm} {H:HL} {o:Oper} {g:List (Nat×SV)} {s:SV}
theorem wm {W:World} {b off:Nat} {c:Array Value} {e:TypeId} {f:Nat×Nat} (h:W.heap[b]? =some (.cells c e f)):W.cell? ⟨b,off,none⟩=c[off]? :=by simp [World.cell?,h]
theorem XZ (b off n:Nat):Addr.add ⟨b,off,none⟩ n=⟨b,off+n,none⟩:=by unfold Addr.add;split <;> simp_all
theorem wP {t:TypeId} [IsScalar P t] {W:World} {b off:Nat} {x:Value} (h:W.cell? ⟨b,off,none⟩=some x):(loadVar t ⟨b,off,none⟩).run P W= .ok x W:=by
 obtain⟨d,hd,hs⟩:=IsScalar.h (P:=P) (t:=t)
 have:(isAgg t).run P W= .ok false W:=by
  unfold isAgg;simp only [Sem.run_bind,run_underlying hd,Result.andThen_ok]
  cases d <;> simp_all
 simp [loadVar,this,h]
theorem Zt {t n:Nat} [IsAgg P t n] {W:World} {b off:Nat} {cs:List Value} (hl:cs.length=n) (h:∀ j v,cs[j]? =some v→W.cell? ⟨b,off+j,none⟩=some v):
  (loadVar t ⟨b,off,none⟩).run P W= .ok (.agg cs.toArray) W:=by
 obtain⟨d,hd,hs⟩:=IsAgg.h (P:=P) (t:=t) (n:=n)
 obtain⟨i,hi,hn⟩:=IsAgg.i (P:=P) (t:=t) (n:=n)
 have h1:(isAgg t).run P W= .ok true W:=by
  unfold isAgg;simp only [Sem.run_bind,run_underlying hd,Result.andThen_ok]
  cases d <;> simp_all
 have h2:(sizeOf t).run P W= .ok cs.length W:=by simp [sizeOf,typeInfo,hi,hn,hl]
 have h3:=run_loadCells_list (P:=P) W ⟨b,off,none⟩ cs (fun j v hj=>by rw [XZ];exact h j v hj)
 simp [loadVar,h1,h2,h3]
theorem yN {t:TypeId} [IsScalar P t] {x:Operand} {cs:List SV} (hop:o.op= .load t x) (hx:xd g x=some (zT (s::cs))):OpOK P G H o g s:=
 yC (by simp [hop]) fun I W a hm _ hr=>by
  obtain⟨b,off,hv,c,hI,hd⟩:=hr.get (by simp [hop,Op.operands]) hx
  obtain⟨e,f,hc⟩:=hm.mem b c hI
  obtain⟨y,hy,hs,_⟩:=hd 0 s rfl
  refine⟨y,?_,hs⟩
  have:=wP (P:=P) (t:=t) (W:=W) (b:=b) (off:=off) (x:=y) (by rw [wm hc];exact hy)
  simp [execOp,hop,hv,Instr.loadAt,Instr.sureAddr,this]
theorem Xh {I:Imm} {c:Array Value} {off n:Nat} {cs:List SV} (hn:cs.length=n) (hd:∀ i s,cs[i]? =some s→∃ x,c[off+i]? =some x∧s.den I x∧x.oneCell'=true):
    ∃xs:List Value,xs.length=n∧(∀j v,xs[j]? =some v→c[off+j]? =some v)∧dens I cs xs∧xF xs:=by
  induction cs generalizing off n with
  | nil=>exact⟨[],by simpa using hn,by simp,dens_nil,by intro x hx;cases hx⟩
  | cons s cs ih=>
    obtain⟨x,hx,hs,ho⟩:=hd 0 s rfl
    obtain⟨xs,h1,h2,h3,h4⟩:=ih (off:=off+1) (n:=cs.length) rfl (fun i s hi=>by have:=hd (i+1) s (by simpa using hi);rwa [show off+(i+1)=off+1+i from by omega] at this)
    refine⟨x::xs,by simp [h1,←hn],fun j v hj=>?_,zW hs h3,fun y hy=>(List.mem_cons.1 hy).elim (fun e=>by subst e;exact ho) (h4 y)⟩
    cases j with
    | zero=>simp at hj;subst hj;exact hx
    | succ j=>rw [show off+(j+1)=off+1+j from by omega];exact h2 j v (by simpa using hj)
theorem zF {t n:Nat} [IsAgg P t n] {x:Operand} {cs ds:List SV} (hop:o.op= .load t x) (hx:xd g x=some (zT cs)) (hd:cs.take n=ds) (hn:ds.length=n):OpOK P G H o g (zl ds):=
 yC (by simp [hop]) fun I W a hm _ hr=>by
  obtain⟨b,off,hv,c,hI,hc'⟩:=hr.get (by simp [hop,Op.operands]) hx
  obtain⟨e,f,hc⟩:=hm.mem b c hI
  obtain⟨xs,hx1,hx2,hx3,hx4⟩:=Xh (c:=c) (off:=off) hn (fun i s hi=>hc' i s (by rw [←hd] at hi;rw [List.getElem?_take] at hi;split at hi <;> simp_all))
  refine⟨.agg xs.toArray,?_,xs,rfl,hx3,hx4⟩
  have:=Zt (P:=P) (t:=t) (n:=n) (W:=W) (b:=b) (off:=off) (cs:=xs) hx1 (fun j v hj=>by rw [wm hc];exact hx2 j v hj)
  simp [execOp,hop,hv,Instr.loadAt,Instr.sureAddr,this]
/-! loads out of an owned block -/
theorem YJ {I:Imm} {W:World} {b e k:Nat} {cs:List SV} (h:blockIs I W b e cs k):∃ c,W.heap[b]? =some (.cells c e (0,0))∧∀ (i:Nat) (s:SV),cs[i]? =some s→∃ x,c[i]? =some x∧s.den I x∧x.oneCell'=true:=by
 obtain⟨_,c,hc,hs,h1,hd⟩:=h
 refine⟨c,hc,fun i s hi=>?_⟩
 obtain⟨x,hx,hsx⟩:=hd.get hi
 have h2:=h1 x (List.mem_of_getElem? hx)
 refine⟨x,?_,hsx,h2⟩
 rw [List.getElem?_take] at hx
 split at hx
 ·simpa using hx
 ·cases hx
theorem yn (j:Nat) {t:TypeId} [IsScalar P t] {x:Operand} {b off e k:Nat} {cs:List SV} (hop:o.op= .load t x) (hx:xd g x=some (eqS (.pointer (some ⟨b,off,none⟩)))) (hH:H[j]? =some ⟨some b,e,cs,k⟩) (hs:cs[off]? =some s):OpOK P G H o g s:=
 yC (by simp [hop]) fun I W a _ hh hr=>by
  have hv:a.eval x=_:=hr.get (by simp [hop,Op.operands]) hx
  obtain⟨c,hc,hd⟩:=YJ ((hh.mem _ (List.mem_of_getElem? hH)).some rfl)
  obtain⟨y,hy,hys,_⟩:=hd off s hs
  refine⟨y,?_,hys⟩
  have:=wP (P:=P) (t:=t) (W:=W) (b:=b) (off:=off) (x:=y) (by rw [wm hc];exact hy)
  simp [execOp,hop,hv,Instr.loadAt,Instr.sureAddr,this]
theorem zC (j:Nat) {t n:Nat} [IsAgg P t n] {x:Operand} {b off e k:Nat} {cs ds:List SV} (hop:o.op= .load t x) (hx:xd g x=some (eqS (.pointer (some ⟨b,off,none⟩)))) (hH:H[j]? =some ⟨some b,e,cs,k⟩) (hd:(cs.drop off).take n=ds) (hn:ds.length=n):OpOK P G H o g (zl ds):=
 yC (by simp [hop]) fun I W a _ hh hr=>by
  have hv:a.eval x=_:=hr.get (by simp [hop,Op.operands]) hx
  obtain⟨c,hc,hcs⟩:=YJ ((hh.mem _ (List.mem_of_getElem? hH)).some rfl)
  obtain⟨xs,hx1,hx2,hx3,hx4⟩:=Xh (c:=c) (off:=off) hn (fun i s hi=>by
   rw [←hd,List.getElem?_take] at hi
   split at hi
   ·rw [List.getElem?_drop] at hi;exact hcs _ s hi
   ·cases hi)
  refine⟨.agg xs.toArray,?_,xs,rfl,hx3,hx4⟩
  have:=Zt (P:=P) (t:=t) (n:=n) (W:=W) (b:=b) (off:=off) (cs:=xs) hx1 (fun j v hj=>by rw [wm hc];exact hx2 j v hj)
  simp [execOp,hop,hv,Instr.loadAt,Instr.sureAddr,this]
/-! addresses -/
theorem QL {st k off:Nat} [IsField P st k off] {W:World} (b p:Nat):(Instr.fieldAt st (.pointer (some ⟨b,p,none⟩)) k).run P W= .ok (.pointer (some ⟨b,p+off,none⟩)) W:=by
 obtain⟨fs,f,i,hu,hf,ho,hi,hz⟩:=IsField.h (P:=P) (s:=st) (k:=k) (off:=off)
 have h2:(fieldPlace ⟨b,p,none⟩ f).run P W= .ok ⟨b,p+off,none⟩ W:=by
  simp [fieldPlace,sizeOf,typeInfo,hi,hz,XZ,ho]
 simp only [Instr.fieldAt,Sem.run_bind,run_underlying hu,Result.andThen_ok,hf,Instr.sureAddr,Sem.run_pure,h2]
theorem zX {st k off:Nat} [IsField P st k off] {x:Operand} {cs ds:List SV} (hop:o.op= .fieldAddr st x k) (hx:xd g x=some (zT cs)) (hd:cs.drop off=ds):OpOK P G H o g (zT ds):=
 yC (by simp [hop]) fun I W a _ _ hr=>by
  obtain⟨b,p,hv,c,hI,hc⟩:=hr.get (by simp [hop,Op.operands]) hx
  refine⟨.pointer (some ⟨b,p+off,none⟩),?_,b,p+off,rfl,c,hI,fun i s hi=>?_⟩
  ·simp [execOp,hop,hv,QL (P:=P) (st:=st) (k:=k) (off:=off)]
  ·rw [←hd,List.getElem?_drop] at hi
   rw [show p+off+i=p+(off+i) from by omega];exact hc _ s hi
theorem zN {st k off:Nat} [IsField P st k off] {x:Operand} {b p q:Nat} (hop:o.op= .fieldAddr st x k) (hx:xd g x=some (eqS (.pointer (some ⟨b,p,none⟩)))) (hq:p+off=q):OpOK P G H o g (eqS (.pointer (some ⟨b,q,none⟩))):=
 yC (by simp [hop]) fun I W a _ _ hr=>by
  have hv:a.eval x=_:=hr.get (by simp [hop,Op.operands]) hx
  refine⟨.pointer (some ⟨b,q,none⟩),?_,rfl⟩
  simp [execOp,hop,hv,QL (P:=P) (st:=st) (k:=k) (off:=off),hq]
theorem Wa {t e st:Nat} [IsSl P t e st] {W:World} (b p len cap:Nat) (k:IntKind) (i:Int) (h0:0≤i) (h1:i<len):
  (Instr.indexAt t (.slice (some ⟨b,p,none⟩) len cap) (.int k i)).run P W= .ok (.pointer (some ⟨b,p+i.toNat*st,none⟩)) W:=by
 obtain⟨j,hj,hs⟩:=IsSl.i (P:=P) (t:=t) (e:=e) (st:=st)
 simp [Instr.indexAt,run_underlying (IsSl.u (P:=P) (t:=t) (e:=e) (st:=st)),asIntOf,h0,h1,sizeOf,typeInfo,hj,hs,XZ]
theorem zi {t e st:Nat} [IsSl P t e st] {x ix:Operand} {α:Type} {f:α→List SV} {l:List α} {k:IntKind} {i:Int} {y:α} (hop:o.op= .indexAddr t x ix) (hx:xd g x=some (zU st f l)) (hi:xd g ix=some (intS k i)) (h0:0≤i) (hy:l[i.toNat]? =some y):
  OpOK P G H o g (zT (f y)):=
 yC (by simp [hop]) fun I W a _ _ hr=>by
  obtain⟨ad,cap,hv,h1,h2,h3⟩:=hr.get (by simp [hop,Op.operands]) hx
  have hvi:a.eval ix= .int k i:=hr.get (by simp [hop,Op.operands]) hi
  have hlt:i.toNat<l.length:=yt hy
  rcases h3 with rfl | ⟨b,p,rfl,hc⟩
  ·simp at hlt
  ·refine⟨.pointer (some ⟨b,p+i.toNat*st,none⟩),?_,b,_,rfl,hc _ _ hy⟩
   simp [execOp,hop,hv,hvi,Wa (P:=P) (t:=t) (e:=e) (st:=st) b p l.length cap k i h0 (by omega)]
theorem vI {t e st:Nat} [IsSl P t e st] {x ix:Operand} {b p len cap:Nat} {k:IntKind} {i:Int} {q:Nat} (hop:o.op= .indexAddr t x ix) (hx:xd g x=some (eqS (.slice (some ⟨b,p,none⟩) len cap))) (hi:xd g ix=some (intS k i)) (h0:0≤i) (h1:i<len) (hq:p+i.toNat*st=q):
  OpOK P G H o g (eqS (.pointer (some ⟨b,q,none⟩))):=
 yC (by simp [hop]) fun I W a _ _ hr=>by
  have hv:a.eval x=_:=hr.get (by simp [hop,Op.operands]) hx
  have hvi:a.eval ix= .int k i:=hr.get (by simp [hop,Op.operands]) hi
  refine⟨.pointer (some ⟨b,q,none⟩),?_,rfl⟩
  simp [execOp,hop,hv,hvi,Wa (P:=P) (t:=t) (e:=e) (st:=st) b p len cap k i h0 h1,hq]
/-! lengths, extremes -/
theorem xh {t e st:Nat} [IsSl P t e st] {x:Operand} {α:Type} {f:α→List SV} {l:List α} {n:Nat} (hop:o.op= .call {callee:=.builtin .len,args:= #[x],argTypes:= #[t]}) (hx:xd g x=some (zU n f l)):OpOK P G H o g (intS .i64 l.length):=
 yC (by simp [hop]) fun I W a _ _ hr=>by
  obtain⟨ad,cap,hv,_⟩:=hr.get (by simp [hop,Op.operands,Call.operands]) hx
  refine⟨.int .i64 l.length,?_,rfl⟩
  simp [execOp,hop,resolve,invoke,builtin,Builtin.len_,run_underlying (IsSl.u (P:=P) (t:=t) (e:=e) (st:=st)),hv,goInt]
theorem WL {t e st:Nat} [IsSl P t e st] {x:Operand} {ad:Option Addr} {n cap:Nat} (hop:o.op= .call {callee:=.builtin .len,args:= #[x],argTypes:= #[t]}) (hx:xd g x=some (eqS (.slice ad n cap))):OpOK P G H o g (intS .i64 n):=
 yC (by simp [hop]) fun I W a _ _ hr=>by
  have hv:a.eval x=_:=hr.get (by simp [hop,Op.operands,Call.operands]) hx
  refine⟨.int .i64 n,?_,rfl⟩
  simp [execOp,hop,resolve,invoke,builtin,Builtin.len_,run_underlying (IsSl.u (P:=P) (t:=t) (e:=e) (st:=st)),hv,goInt]
theorem YC {x y:Operand} {ts:Array TypeId} {k:IntKind} {m n:Int} (hop:o.op= .call {callee:=.builtin .max,args:= #[x,y],argTypes:=ts}) (hx:xd g x=some (intS k m)) (hy:xd g y=some (intS k n)):OpOK P G H o g (intS k (max m n)):=
 yC (by simp [hop]) fun I W a _ _ hr=>by
  have h1:a.eval x= .int k m:=hr.get (by simp [hop,Op.operands,Call.operands]) hx
  have h2:a.eval y= .int k n:=hr.get (by simp [hop,Op.operands,Call.operands]) hy
  refine⟨.int k (max m n),?_,rfl⟩
  have:(if n>m then n else m)=max m n:=by rw [Int.max_def];split <;> split <;> omega
  simp [execOp,hop,resolve,invoke,builtin,Builtin.max_,Builtin.max2,h1,h2,this]
theorem UY {x y:Operand} {ts:Array TypeId} {k:IntKind} {m n:Int} (hop:o.op= .call {callee:=.builtin .min,args:= #[x,y],argTypes:=ts}) (hx:xd g x=some (intS k m)) (hy:xd g y=some (intS k n)):OpOK P G H o g (intS k (min m n)):=
 yC (by simp [hop]) fun I W a _ _ hr=>by
  have h1:a.eval x= .int k m:=hr.get (by simp [hop,Op.operands,Call.operands]) hx
  have h2:a.eval y= .int k n:=hr.get (by simp [hop,Op.operands,Call.operands]) hy
  refine⟨.int k (min m n),?_,rfl⟩
  have:(if n<m then n else m)=min m n:=by rw [Int.min_def];split <;> split <;> omega
  simp [execOp,hop,resolve,invoke,builtin,Builtin.min_,Builtin.min2,h1,h2,this]
/-! parts of a tuple; closures -/
theorem xo {x:Operand} {i:Nat} {cs:List SV} (hop:o.op= .extract x i) (hx:xd g x=some (xn cs)) (hs:cs[i]? =some s):OpOK P G H o g s:=
 yC (by simp [hop]) fun I W a _ _ hr=>by
  obtain⟨xs,hv,hd⟩:=hr.get (by simp [hop,Op.operands]) hx
  obtain⟨y,hy,hys⟩:=hd.get hs
  exact⟨y,by simp [execOp,hop,hv,Instr.extract,hy],hys⟩
def uJ (g:List (Nat×SV)):List Operand→Option (List SV)
  | []=>some []
  | x::l=>match xd g x,uJ g l with
    | some s,some r=>some (s::r)
    | _,_=>none
theorem uA {g:List (Nat×SV)} {I:Imm} {a:Act}:∀ {l:List Operand} {cs:List SV},uJ g l=some cs→(∀x∈l,∀s,xd g x=some s→s.den I (a.eval x))→dens I cs (l.map a.eval)
  | [],cs,h,_=>by simp [uJ] at h;subst h;exact dens_nil
  | x::l,cs,h,hr=>by
    simp only [uJ] at h
    split at h
    · rename_i s r h1 h2
      cases h
      exact zW (hr x (by simp) s h1) (uA h2 fun y hy=>hr y (by simp [hy]))
    · cases h
theorem QM {f:FuncId} {cap:Array Operand} {cs:List SV} (hop:o.op= .makeFunc (.func f) #[] cap) (hx:uJ g cap.toList=some cs):OpOK P G H o g (wp f cs):=
 yC (by simp [hop]) fun I W a _ _ hr=>by
  have hd:=uA (a:=a) (I:=I) hx fun x hx' s hs=>hr x (by simp [hop,Op.operands];simpa using hx') s hs
  refine⟨.func (.func f) #[] (cap.toList.map a.eval).toArray,?_,_,rfl,hd⟩
  have e:Array.map a.eval cap=(cap.toList.map a.eval).toArray:=by apply Array.ext';simp
  simp [execOp,hop,Instr.makeFunc,e]
end mem
end Go.Sv
/- Rules of the operations that lay a new block which nobody writes, build a struct, or take a part of a slice. -/
namespace Go.Sv
open Go Go.RowKit
section
variable {P:Program} {G:Imm} {H:HL} {o:Oper} {g:List (Nat×SV)} {s:SV}
theorem zj4 (hd:∀ c,o.op≠ .defer c) (h:∀ I W a,Holds G I W→HoldsH H I W→reads g I o a→∃ v c e,(execOp a.eval o).run P W= .ok (.value v) (W.alloc (.cells c e))∧s.den (I.with W.heap.size c) v):OpOK P G H o g s:=by
 intro n r I W a next Q hm hh hr k
 obtain⟨v,c,e,hv,hs⟩:=h I W a hm hh hr
 have:=zhN hm (c:=c) (e:=e)
 exact xG hd hv (k v _ _ this.2 this.1 hs)
theorem zgv (I:Imm) (b:Nat) (c:Array Value):(I.with b c) b=some c:=by simp [Imm.with]
theorem QN {I:Imm} {W:World} (hm:Holds G I W) {cs:List SV} {c:Array Value} (hd:dens I cs c.toList) (h1:xF c.toList):cellsAt (I.with W.heap.size c) W.heap.size 0 cs:=by
 refine⟨c,zgv _ _ _,fun i s hi=>?_⟩
 obtain⟨x,hx,hs⟩:=hd.get hi
 exact⟨x,by simpa using hx,s.mono _ _ _ (Imm.with_le hm.none_new) hs,h1 x (List.mem_of_getElem? hx)⟩
theorem zj5 {t:TypeId} {x:Operand} {cs:List SV} [hf:FlatC s cs] (hop:o.op= .box t x) (hx:xd g x=some s):OpOK P G H o g (zT cs):=
 zj4 (by simp [hop]) fun I W a hm _ hr=>by
  have hv:=hr.get (by simp [hop,Op.operands]) hx
  obtain⟨hd,h1⟩:=hf.h.cells hv
  refine⟨.pointer (some ⟨W.heap.size,0,none⟩),(a.eval x).cells,t,?_,W.heap.size,0,rfl,QN hm hd h1⟩
  simp [execOp,hop,Instr.box,newVar,newRow]
/-! building -/
def xM (cs:List SV) (off:Nat):List SV→List SV
 | []=>cs
 | x::xs=>xM (cs.set off x) (off+1) xs
def setAllV (cs:Array Value) (off:Nat):List Value→Array Value
 | []=>cs
 | x::xs=>setAllV (cs.setIfInBounds off x) (off+1) xs
def Vr (pl:List (Nat×Nat)):List SV→List (Nat×List SV)→Option (List SV)
  | cs,[]=>some cs
  | cs,(i,xs)::r=>match pl[i]? with
    | none=>none
    | some (off,size)=>match Nat.beq xs.length size&&Nat.ble (off+xs.length) cs.length with
      | true=>Vr pl (xM cs off xs) r
      | false=>none
theorem zbk (v:Array Value) (off:Nat) (cs:Array Value):v.zipIdx.foldl (fun cs (c,j)=>cs.setIfInBounds (off+j) c) cs=setAllV cs off v.toList:=by
 have:∀ (l:List Value) (k:Nat) (cs:Array Value),(l.zipIdx k).foldl (fun cs (p:Value×Nat)=>cs.setIfInBounds (off+p.2) p.1) cs=setAllV cs (off+k) l:=by
  intro l
  induction l with
  | nil=>intro k cs;rfl
  | cons x l ih=>intro k cs;simp only [List.zipIdx_cons,List.foldl_cons,setAllV];rw [ih];rfl
 have h:=this v.toList 0 cs
 rw [Nat.add_zero] at h
 rw [←h,←Array.foldl_toList]
 simp
theorem zj6 {I:Imm} {cs:List SV} {xs:List Value} (h:dens I cs xs) (k:Nat) {s:SV} {x:Value} (hs:s.den I x):dens I (cs.set k s) (xs.set k x):=by
 refine⟨by simp [h.1],fun i s' x' hi hx=>?_⟩
 by_cases e:k=i
 ·subst e
  rw [List.getElem?_set] at hi hx
  simp only [if_true] at hi hx
  split at hi
  ·split at hx
   ·cases hi;cases hx;exact hs
   ·cases hx
  ·cases hi
 ·rw [List.getElem?_set_ne e] at hi hx
  exact h.2 i s' x' hi hx
theorem zez {xs:List Value} (h:xF xs) (k:Nat) {x:Value} (hx:x.oneCell'=true):xF (xs.set k x):=by
 intro y hy
 rcases List.mem_or_eq_of_mem_set hy with h1 | h1
 ·exact h y h1
 ·subst h1;exact hx
theorem Xi {I:Imm} {ys:List SV}:∀ {zs:List Value} {cs:List SV} {c:Array Value} {off:Nat},dens I ys zs→xF zs→dens I cs c.toList→xF c.toList →
    dens I (xM cs off ys) (setAllV c off zs).toList∧xF (setAllV c off zs).toList:=by
  induction ys with
  | nil=>intro zs cs c off hy _ hc h1;cases dens_nil_inv hy;exact⟨hc,h1⟩
  | cons y ys ih=>
    intro zs cs c off hy h1y hc h1
    obtain⟨z,zs',rfl,hz,hzs⟩:=xW hy
    refine ih hzs (fun x hx=>h1y x (by simp [hx])) (c:=c.setIfInBounds off z) ?_ ?_
    · simpa using zj6 hc off hz
    · simpa using zez h1 off (h1y z (by simp))
def YD (g:List (Nat×SV)):List (Nat×Operand)→Option (List (Nat×SV))
  | []=>some []
  | (i,x)::l=>match xd g x,YD g l with
    | some s,some r=>some ((i,s)::r)
    | _,_=>none
theorem Xj {I:Imm} {a:Act} {pl:List (Nat×Nat)}:∀ {parts:List (Nat×Operand)} {ps:List (Nat×SV)} {qs:List (Nat×List SV)} {cs ds:List SV} {c:Array Value},
    YD g parts=some ps→FlatL ps qs→(∀p∈parts,∀s,xd g p.2=some s→s.den I (a.eval p.2))→Vr pl cs qs=some ds→dens I cs c.toList→xF c.toList →
    ∃c',Instr.fill (fun i=>pl[i]?) c (parts.map fun (i,x)=>(i,a.eval x))=some c'∧dens I ds c'.toList∧xF c'.toList
  | [],ps,qs,cs,ds,c,hp,hf,_,hfi,hc,h1=>by
    simp [YD] at hp;subst hp
    have:qs=[]:=List.eq_nil_of_length_eq_zero (by have:=hf.h.1;simpa using this.symm)
    subst this
    simp only [Vr] at hfi;cases hfi
    exact⟨c,rfl,hc,h1⟩
  | (i,x)::parts,ps,qs,cs,ds,c,hp,hf,hr,hfi,hc,h1=>by
    simp only [YD] at hp
    split at hp
    · rename_i s r hs hrr
      cases hp
      cases qs with
      | nil=>have:=hf.h.1;simp at this
      | cons q qs=>
        obtain⟨j,ys⟩:=q
        have h0:=hf.h.2 0 _ _ rfl rfl
        simp only at h0
        obtain⟨rfl,hflat⟩:=h0
        have hf':FlatL r qs:=⟨by have:=hf.h.1;simp at this;exact this,fun k p q hk hq=>hf.h.2 (k+1) p q (by simpa using hk) (by simpa using hq)⟩
        simp only [Vr] at hfi
        split at hfi
        · cases hfi
        · rename_i off size hpl
          split at hfi
          · rename_i hcond
            simp only [Bool.and_eq_true] at hcond
            have e1:=Nat.eq_of_beq_eq_true hcond.1
            have e2:=Nat.le_of_ble_eq_true hcond.2
            have hv:s.den I (a.eval x):=hr (i,x) (by simp) s hs
            obtain⟨hvd,hv1⟩:=hflat.cells hv
            have hsz:(a.eval x).cells.size=ys.length:=by have:=hvd.1;simpa using this
            have hcs:c.size=cs.length:=by have:=hc.1;simpa using this
            obtain⟨hd',h1'⟩:=Xi (off:=off) hvd hv1 hc h1
            obtain⟨c',hc',hd'',h1''⟩:=Xj (parts:=parts) hrr hf' (fun p hp=>hr p (by simp [hp])) hfi hd' h1'
            refine⟨c',?_,hd'',h1''⟩
            simp only [List.map_cons,Instr.fill,hpl]
            rw [if_neg (by simp only [hsz,e1,hcs,ne_eq,not_true_eq_false,decide_false,Bool.false_or,decide_eq_true_eq];omega),zbk]
            exact hc'
          · cases hfi
    · cases hp
def zgw (P:Program) (t:TypeId):Option (List Value×List (Nat×Nat)):=
  match P.info? t with
  | none=>none
  | some i=>match i.zero,P.underlying t with
    | some z,some (.struct fs)=>match fs.toList.mapM fun f=>(P.info? f.type).map fun j=>(f.offset,j.size) with
      | some pl=>some (z.cells.toList,pl)
      | none=>none
    | some z,some (.array n e)=>match P.info? e with
      | some j=>some (z.cells.toList,(List.range n).map fun i=>(i*j.size,j.size))
      | none=>none
    | _,_=>none
def JS (l:List Value):Bool:=l.all Value.oneCell'
class IsBuild (P:Program) (t:TypeId) (zs:outParam (List Value)) (pl:outParam (List (Nat×Nat))):Prop where
 h:zgw P t=some (zs,pl)
 one:JS zs=true
theorem zeA {fs:List Field} {pl:List (Nat×Nat)} (h:fs.mapM (fun f=>(P.info? f.type).map fun j=>(f.offset,j.size))=some pl) (W:World):
    (fs.mapM (m:=Sem) fun f=>do pure (f.offset,←sizeOf f.type)).run P W= .ok pl W:=by
  induction fs generalizing pl with
  | nil=>simp at h;subst h;simp
  | cons f fs ih=>
    simp only [List.mapM_cons,Option.bind_eq_bind,Option.bind_eq_some_iff] at h
    obtain⟨p,hp,r,hr,he⟩:=h
    cases he
    obtain⟨j,hj,rfl⟩:=Option.map_eq_some_iff.1 hp
    have h1:(sizeOf f.type).run P W= .ok j.size W:=by simp [sizeOf,typeInfo,hj]
    simp only [List.mapM_cons,Sem.run_bind,h1,Result.andThen_ok,Sem.run_pure,ih hr]
theorem fill_mono {p q:Nat→Option (Nat×Nat)} (hpq:∀ i x,p i=some x→q i=some x):∀ {parts:List (Nat×Value)} {c c':Array Value},Instr.fill p c parts=some c'→Instr.fill q c parts=some c'
  | [],_,_,h=>h
  | (i,v)::r,c,c',h=>by
    simp only [Instr.fill] at h ⊢
    cases hp:p i with
    | none=>rw [hp] at h;cases h
    | some x=>
      obtain⟨off,size⟩:=x
      rw [hp] at h;rw [hpq i _ hp]
      simp only at h ⊢
      split at h
      · cases h
      · rename_i hc;rw [if_neg hc];exact fill_mono hpq h
theorem zhQ {t:TypeId} {zs:List Value} {pl:List (Nat×Nat)} [hb:IsBuild P t zs pl] {W:World} {parts:Array (Nat×Value)} {c':Array Value} (h:Instr.fill (fun i=>pl[i]?) zs.toArray parts.toList=some c'):
  (Instr.build t parts).run P W= .ok (.agg c') W:=by
 have h1:=hb.h
 unfold zgw at h1
 split at h1
 ·cases h1
 ·rename_i i hi
  split at h1
  ·rename_i z fs hz hu
   split at h1
   ·rename_i pl' hpl
    cases h1
    have hm:(fs.mapM (m:=Sem) fun f=>do pure (f.offset,←sizeOf f.type)).run P W= .ok pl.toArray W:=by
     rw [Array.mapM_eq_mapM_toList,Sem.run_map,zeA hpl W];rfl
    have hz':(zeroValue t).run P W= .ok z W:=by simp [zeroValue,typeInfo,hi,hz]
    have hf:Instr.fill (fun x=>pl.toArray[x]?) z.cells parts.toList=some c':=by simpa using h
    simp only [Instr.build,Sem.run_bind,hz',Result.andThen_ok,run_underlying hu,hm,hf,Sem.run_pure]
   ·cases h1
  ·rename_i z n e hz hu
   split at h1
   ·rename_i j hj
    cases h1
    have hz':(zeroValue t).run P W= .ok z W:=by simp [zeroValue,typeInfo,hi,hz]
    have hs:(sizeOf e).run P W= .ok j.size W:=by simp [sizeOf,typeInfo,hj]
    have hf:Instr.fill (fun i=>some (i*j.size,j.size)) z.cells parts.toList=some c':=by
     refine fill_mono (p:=fun i=>((List.range n).map fun i=>(i*j.size,j.size))[i]?) (fun i x hx=>?_) (by rw [Array.toArray_toList] at h;exact h)
     rw [List.getElem?_map] at hx
     obtain⟨y,hy,rfl⟩:=Option.map_eq_some_iff.1 hx
     have:=List.getElem?_eq_some_iff.1 hy
     obtain⟨h1,h2⟩:=this
     simp at h2;subst h2;rfl
    simp only [Instr.build,Sem.run_bind,hz',Result.andThen_ok,run_underlying hu,hs,hf,Sem.run_pure]
   ·cases h1
  ·cases h1
theorem ZV {I:Imm} (l:List Value):dens I (l.map eqS) l:=⟨by simp,fun i s x hi hx=>by rw [List.getElem?_map,hx] at hi;cases hi;rfl⟩
theorem allOne_of {l:List Value} (h:JS l=true):xF l:=fun x hx=>List.all_eq_true.1 h x hx
theorem Wb {I:Imm} {a:Act} {parts:Array (Nat×Operand)} (hop:o.op.operands=(parts.toList.map (·.2)).toArray) (hr:reads g I o a):∀ p∈parts.toList,∀s,xd g p.2=some s→s.den I (a.eval p.2):=
 fun p hp s hs=>hr p.2 (by rw [hop];simp;exact⟨p.1,by simpa using hp⟩) s hs
theorem yW {t:TypeId} {parts:Array (Nat×Operand)} {ps:List (Nat×SV)} {qs:List (Nat×List SV)} {zs:List Value} {pl:List (Nat×Nat)} {cs:List SV} [IsBuild P t zs pl] (hop:o.op= .build t parts) (hp:YD g parts.toList=some ps) [hf:FlatL ps qs]
  (hc:Vr pl (zs.map eqS) qs=some cs):OpOK P G H o g (zl cs):=
 yC (by simp [hop]) fun I W a _ _ hr=>by
  have h1:=IsBuild.one (P:=P) (t:=t) (zs:=zs) (pl:=pl)
  obtain⟨c',hc',hd,h1'⟩:=Xj (a:=a) (I:=I) (c:=zs.toArray) hp hf (Wb (by simp [hop,Op.operands]) hr) hc (by simpa using ZV zs) (by simpa using allOne_of h1)
  refine⟨.agg c',?_,c'.toList,by simp,hd,h1'⟩
  have:=zhQ (P:=P) (t:=t) (zs:=zs) (pl:=pl) (W:=W) (parts:=(parts.map fun (i,x)=>(i,a.eval x))) (c':=c') (by rw [Array.toList_map];exact hc')
  simp only [execOp,hop,Sem.run_bind,this,Result.andThen_ok,Sem.run_pure]
/-! a slice written out -/
def yB (zs:List Value) (n:Nat):List Value:=(List.range n).map fun i=>zs.getD (i%zs.length) default
theorem zeroRow_one {zs:List Value} (h:xF zs) (n:Nat) (hz:n=0∨zs≠[]):xF (yB zs n):=by
 intro x hx
 simp only [yB,List.mem_map,List.mem_range] at hx
 obtain⟨i,hi,rfl⟩:=hx
 rcases hz with h0 | h0
 ·omega
 ·have hl:0<zs.length:=List.length_pos_iff.2 h0
  have:i%zs.length<zs.length:=Nat.mod_lt _ hl
  rw [List.getD_eq_getElem?_getD,List.getElem?_eq_getElem this]
  exact h _ (List.getElem_mem _)
theorem uB {α:Type} {st:Nat}:∀ {css:List (List α)},(∀c∈css,c.length=st)→∀ {i j:Nat} {c:List α} {x:α},css[i]? =some c→c[j]? =some x→css.flatten[i*st+j]? =some x
  | [],_,i,j,c,x,hi,_=>by simp at hi
  | d::css,h,i,j,c,x,hi,hj=>by
    have hd:d.length=st:=h d (by simp)
    cases i with
    | zero=>
      simp at hi;subst hi
      rw [List.flatten_cons,List.getElem?_append_left (by have:=yt hj;omega)]
      simpa using hj
    | succ i=>
      have hc:c.length=st:=h c (by simp only [List.getElem?_cons_succ] at hi;exact List.mem_cons_of_mem _ (List.mem_of_getElem? hi))
      have:=uB (css:=css) (fun c hc=>h c (by simp [hc])) (by simpa using hi) hj
      rw [List.flatten_cons,List.getElem?_append_right (by rw [hd,Nat.succ_mul];omega)]
      rw [hd,show (i+1)*st+j-st=i*st+j from by rw [Nat.succ_mul];omega]
      exact this
def Wc (st:Nat):List (List SV)→Bool
 | []=>true
 | c::r=>Nat.beq c.length st&&Wc st r
theorem Wd {st:Nat}:∀ {css:List (List SV)},Wc st css=true→∀ c∈css,c.length=st
  | [],_,c,hc=>by simp at hc
  | d::r,h,c,hc=>by
    simp only [Wc,Bool.and_eq_true] at h
    rcases List.mem_cons.1 hc with rfl | h'
    · exact Nat.eq_of_beq_eq_true h.1
    · exact Wd h.2 c h'
theorem We {t e st n:Nat} {zs:List Value} [IsSl P t e st] [hz:IsZero P e zs] {W:World} {parts:Array (Nat×Value)} {c':Array Value} (hn:n*st≤16777216)
  (h:Instr.fill (fun i=>((List.range n).map fun i=>(i*st,st))[i]?) (yB zs (n*st)).toArray parts.toList=some c'):
  (Instr.buildSlice t n parts).run P W= .ok (.slice (some ⟨W.heap.size,0,none⟩) n n) (W.alloc (.cells c' e)):=by
 obtain⟨j,hj,hs⟩:=IsSl.i (P:=P) (t:=t) (e:=e) (st:=st)
 obtain⟨i,z,hi,hz1,hz2,hz3⟩:=hz.i
 rw [hj] at hi;cases hi
 have hf:Instr.fill (fun i=>some (i*st,st)) (yB zs (n*st)).toArray parts.toList=some c':=by
  refine fill_mono (fun i x hx=>?_) h
  rw [List.getElem?_map] at hx
  obtain⟨y,hy,rfl⟩:=Option.map_eq_some_iff.1 hx
  obtain⟨h1,h2⟩:=List.getElem?_eq_some_iff.1 hy
  simp at h2;subst h2;rfl
 have e0:∀ (zero:Array Value),(n*st=0∨zero=zs.toArray)→(Array.range (n*st)).map (zero[· % zero.size]!)=(yB zs (n*st)).toArray:=by
  intro zero h0
  apply Array.ext'
  rcases h0 with h0 | h0
  ·simp [h0,yB]
  ·subst h0
   simp only [yB,Array.toList_map,Array.toList_range]
   apply List.map_congr_left
   intro k _
   simp [List.getD_eq_getElem?_getD,getElem!_def]
   cases zs[k%zs.length]? <;> rfl
 have hsz:(sizeOf e).run P W= .ok st W:=by simp [sizeOf,typeInfo,hj,hs]
 have hzv:(zeroValue e).run P W= .ok z W:=by simp [zeroValue,typeInfo,hj,hz1]
 by_cases h0:n*st=0
 ·have e1:=e0 #[] (.inl h0)
  simp only [Instr.buildSlice,Sem.run_bind,run_underlying (IsSl.u (P:=P) (t:=t) (e:=e) (st:=st)),Result.andThen_ok,hsz]
  rw [if_neg (by omega)]
  simp only [h0,if_true,Sem.run_bind,Sem.run_pure,Result.andThen_ok]
  rw [h0] at e1 hf
  rw [e1,hf]
  simp [newRow]
 ·have e1:=e0 zs.toArray (.inr rfl)
  simp only [Instr.buildSlice,Sem.run_bind,run_underlying (IsSl.u (P:=P) (t:=t) (e:=e) (st:=st)),Result.andThen_ok,hsz]
  rw [if_neg (by omega)]
  simp only [h0,if_false,Sem.run_bind,Sem.run_pure,Result.andThen_ok,hzv,hz2]
  rw [e1,hf]
  simp [newRow]
theorem zB {t e st n:Nat} {zs:List Value} [IsSl P t e st] [hz:IsZero P e zs] {parts:Array (Nat×Operand)} {ps:List (Nat×SV)} {qs:List (Nat×List SV)} (hop:o.op= .buildSlice t n parts) (hp:YD g parts.toList=some ps) [hf:FlatL ps qs]
  (hn:n*st≤16777216) (hq:qs.length=n) (hne:n=0∨zs≠[]) (hl:Wc st (qs.map (·.2))=true)
  (hc:Vr ((List.range n).map fun i=>(i*st,st)) ((yB zs (n*st)).map eqS) qs=some (qs.map (·.2)).flatten):OpOK P G H o g (zU st id (qs.map (·.2))):=
 zj4 (by simp [hop]) fun I W a hm _ hr=>by
  have hst:st=zs.length:=by
   obtain⟨j,hj,hs⟩:=IsSl.i (P:=P) (t:=t) (e:=e) (st:=st)
   obtain⟨i,z,hi,_,_,hz3⟩:=hz.i
   rw [hj] at hi;cases hi;omega
  have h1:xF (yB zs (n*st)):=zeroRow_one hz.one _ (hne.imp (fun h=>by simp [h]) id)
  obtain⟨c',hc',hd,h1'⟩:=Xj (a:=a) (I:=I) (c:=(yB zs (n*st)).toArray) hp hf (Wb (by simp [hop,Op.operands]) hr) hc (by simpa using ZV (yB zs (n*st))) (by simpa using h1)
  refine⟨.slice (some ⟨W.heap.size,0,none⟩) n n,c',e,?_,?_⟩
  ·have:=We (P:=P) (t:=t) (e:=e) (st:=st) (n:=n) (W:=W) (parts:=(parts.map fun (i,x)=>(i,a.eval x))) (c':=c') hn (by rw [Array.toList_map];exact hc')
   simp only [execOp,hop,Sem.run_bind,this,Result.andThen_ok,Sem.run_pure]
  ·have hlen:(qs.map (·.2)).length=n:=by simpa using hq
   refine⟨some ⟨W.heap.size,0,none⟩,n,by rw [hlen],by omega,?_,.inr ⟨W.heap.size,0,rfl,fun i x hx=>?_⟩⟩
   ·rw [hlen];unfold yP
    rcases Nat.eq_zero_or_pos st with h0 | h0
    ·rcases hne with h2 | h2
     ·omega
     ·exact absurd (List.eq_nil_of_length_eq_zero (by omega)) h2
    ·have:=Nat.le_mul_of_pos_right n h0;omega
   ·obtain⟨c,hc1,hc2⟩:=QN hm hd h1'
    refine⟨c,hc1,fun j s' hj=>?_⟩
    have:=uB (Wd hl) hx hj
    rw [Nat.zero_add]
    have:=hc2 _ _ this
    simpa using this
/-! parts of a slice -/
theorem zmD {α:Type} {st:Nat} {f:α→List SV} {l:List α} {I:Imm} {ad:Option Addr} {lo hi cap m:Nat} (h3:l=[]∨∃ b o,ad=some ⟨b,o,none⟩∧∀ i x,l[i]? =some x→cellsAt I b (o+i*st) (f x)) (h1:lo≤hi) (h2:hi≤l.length) (hm:hi≤m) (_hc:m≤cap) (hbig:l.length≤yP):
  (zU st f ((l.take hi).drop lo)).den I (.slice (if m=lo then ad else ad.map (·.add (lo*st))) (hi-lo) (m-lo)):=by
 have hl:((l.take hi).drop lo).length=hi-lo:=by simp;omega
 refine⟨_,_,by rw [hl],by rw [hl];omega,by rw [hl];omega,?_⟩
 by_cases he:hi=lo
 ·left;apply List.eq_nil_of_length_eq_zero;omega
 ·right
  rw [if_neg (by omega)]
  rcases h3 with rfl | ⟨b,o,rfl,h⟩
  ·simp at h2;omega
  ·refine⟨b,o+lo*st,by simp [XZ],fun i x hx=>?_⟩
   rw [List.getElem?_drop,List.getElem?_take] at hx
   split at hx
   ·have:=h _ _ hx
    rw [Nat.add_assoc,←Nat.add_mul];exact this
   ·cases hx
theorem uu {len cap lo hi m:Nat} {low high mx:Option Value} {W:World} (hlow:(low=none∧lo=0)∨∃ k,low=some (.int k lo)) (hhigh:(high=none∧hi=len∧mx=none)∨∃ k,high=some (.int k hi))
  (hmx:(mx=none∧m=cap)∨∃ k,mx=some (.int k m)) (h1:lo≤hi) (h2:hi≤m) (h3:m≤cap):(Instr.sliceBounds true len cap low high mx).run P W= .ok (lo,hi,m) W:=by
 rcases hmx with ⟨rfl,rfl⟩ | ⟨km,rfl⟩ <;> rcases hlow with ⟨rfl,rfl⟩ | ⟨kl,rfl⟩ <;> rcases hhigh with ⟨rfl,rfl,hx⟩ | ⟨kh,rfl⟩ <;> first | cases hx | skip
 all_goals simp [Instr.sliceBounds,Instr.sliceBound,asIntOf,h1,h2,h3]
theorem xX {t e st:Nat} [IsSl P t e st] {x:Operand} {low high mx:Option Operand} {α:Type} {f:α→List SV} {l:List α} {lo hi m:Nat} (hop:o.op= .slice t x low high mx) (hx:xd g x=some (zU st f l))
  (hlow:(low=none∧lo=0)∨∃ y k,low=some y∧xd g y=some (intS k lo)) (hhigh:(high=none∧hi=l.length∧mx=none)∨∃ y k,high=some y∧xd g y=some (intS k hi)) (hmx:mx=none∨∃ y k,mx=some y∧xd g y=some (intS k m)∧hi≤m∧m≤l.length)
  (h1:lo≤hi) (h2:hi≤l.length):OpOK P G H o g (zU st f ((l.take hi).drop lo)):=
 yC (by simp [hop]) fun I W a _ _ hr=>by
  obtain⟨ad,cap,hv,hc1,hbig,h3⟩:=hr.get (by simp [hop,Op.operands]) hx
  obtain⟨j,hj,hs⟩:=IsSl.i (P:=P) (t:=t) (e:=e) (st:=st)
  have key:∀ m',(mx.map a.eval=none∧m'=cap)∨(∃k,mx.map a.eval=some (.int k m'))→hi≤m'→m'≤cap→∃ v,(execOp a.eval o).run P W= .ok (.value v) W∧(zU st f ((l.take hi).drop lo)).den I v:=by
   intro m' hm' h4 h5
   refine⟨_,?_,zmD (st:=st) (cap:=cap) h3 h1 h2 h4 h5 hbig⟩
   have hb:=uu (P:=P) (len:=l.length) (cap:=cap) (lo:=lo) (hi:=hi) (m:=m') (low:=low.map a.eval) (high:=high.map a.eval) (mx:=mx.map a.eval) (W:=W) ?_ ?_ hm' h1 h4 h5
   ·simp only [execOp,hop,Instr.sliceAt,Instr.slice,Sem.run_bind,run_underlying (IsSl.u (P:=P) (t:=t) (e:=e) (st:=st)),Result.andThen_ok,hv,hb,sizeOf,typeInfo,Sem.run_pure,run_program,hj,hs]
   ·rcases hlow with ⟨rfl,rfl⟩ | ⟨y,k,rfl,hy⟩
    ·exact .inl ⟨rfl,rfl⟩
    ·exact .inr ⟨k,by have:a.eval y=_:=hr.get (by simp [hop,Op.operands]) hy;simp [this]⟩
   ·rcases hhigh with ⟨rfl,rfl,rfl⟩ | ⟨y,k,rfl,hy⟩
    ·exact .inl ⟨rfl,rfl,rfl⟩
    ·exact .inr ⟨k,by have:a.eval y=_:=hr.get (by simp [hop,Op.operands]) hy;simp [this]⟩
  rcases hmx with rfl | ⟨y,k,rfl,hy,h4,h5⟩
  ·exact key cap (.inl ⟨rfl,rfl⟩) (by omega) (Nat.le_refl _)
  ·exact key m (.inr ⟨k,by have:a.eval y=_:=hr.get (by simp [hop,Op.operands]) hy;simp [this]⟩) h4 (by omega)
end
end Go.Sv
/- Operations that turn owned blocks, or lay them; calls by contract; a function's contract from its body. -/
namespace Go.Sv
open Go Go.RowKit
section turn
variable {P:Program} {G:Imm} {E:Env} {r:Option Nat} {S:St}
theorem Sat.turn {h':HL} {I I':Imm} {F:Nat→Prop} {a:Act} {W W':World} {O O':Nat→Prop} (hs:Sat G E r S I F a W) (hO:∀ b,O b→b∈bs S.h) (f:Fram O I W O' I' W') (hO':∀ b,b∈bs h'→b∈bs S.h∨W.heap.size≤b) (hm:Holds G I' W') (hh:HoldsH h' I' W'):
    Sat G E r {S with h:=h'} I' F a W'∧Fram (own S F) I W (own {S with h:=h'} F) I' W':=by
  have hFO:∀ b,F b→¬ O b:=fun b hb ho=>(hs.f b hb).2.2.1 (hO b ho)
  have hFn:∀ b,F b→I' b=none:=fun b hb=>by
    obtain⟨h1,h2,h3,h4⟩:=hs.f b hb
    cases hI:I' b with
    | none=>rfl
    | some c => rcases f.new b h2 (by simp [hI]) with h5 | h5
                · exact absurd h5 (hFO b hb)
                · omega
  refine⟨⟨hs.n,fun t s hl=>s.mono _ _ _ f.imm (hs.g t s hl),hm,hh,hs.d,hs.dn,fun b hb=>?_,?_,fun b hb=>?_,fun k hk=>?_⟩,?_⟩
  · have h1:=hs.dk b hb
    refine (f.old b (yp h1) fun ho=>?_).trans h1
    obtain⟨p,hp,he⟩:=UV (hO b ho)
    obtain⟨_,c,hc,_⟩:=(hs.h.mem p hp).some he
    rw [hc] at h1;cases h1
  · exact E.stab _ _ _ _ _ _ hs.e f.imm f.os f.tape f.output f.size (fun b hb=>f.old b (hs.f b hb).1 (hFO b hb)) hFn
  · obtain⟨h1,h2,h3,h4⟩:=hs.f b hb
    refine⟨Nat.lt_of_lt_of_le h1 f.size,hFn b hb,fun hb'=>?_,h4⟩
    · rcases hO' b hb' with h5 | h5
      · exact h3 h5
      · omega
  · obtain⟨⟨rec,hr⟩,ho⟩:=hs.l k hk
    refine⟨⟨rec,(f.old k (yp hr) fun hk'=>ho (.inl (hO k hk'))).trans hr⟩,fun ho'=>?_⟩
    rcases ho' with h1 | h1 | h1
    · rcases hO' k h1 with h2 | h2
      · exact ho (.inl h2)
      · have:=yp hr;omega
    · exact ho (.inr (.inl h1))
    · exact ho (.inr (.inr h1))
  · refine⟨f.os,f.tape,f.output,f.imm,f.size,fun b hb hn=>f.old b hb fun ho=>hn (.inl (hO b ho)),fun b hn hn'=>(f.new b hn hn').imp (fun ho=>.inl (hO b ho)) id,fun b hb=>?_⟩
    rcases hb with h1 | h1 | h1
    · exact (hO' b h1).imp .inl id
    · exact .inl (.inr (.inl h1))
    · exact .inl (.inr (.inr h1))
theorem xN (h k:HL):bs (h++k)=bs h++bs k:=by simp [bs]
theorem HoldsH.frame {pre Hp Hq suf:HL} {I I':Imm} {W W':World} (h:HoldsH (pre++Hp++suf) I W) (k:HoldsH Hq I' W') (f:Fram (· ∈bs Hp) I W (· ∈bs Hq) I' W'):HoldsH (pre++Hq++suf) I' W':=by
 have hnd:=h.nodup
 simp only [xN,List.nodup_append,List.mem_append] at hnd
 obtain⟨⟨n1,n2,n3⟩,n4,n5⟩:=hnd
 have hpre:∀ p∈pre,p∈pre++Hp++suf:=fun p hp=>by simp [hp]
 have hsuf:∀ p∈suf,p∈pre++Hp++suf:=fun p hp=>by simp [hp]
 have old:∀ (H:HL),(∀p∈H,p∈pre++Hp++suf)→(∀b∈bs H,b∉bs Hp)→(bs H).Nodup→HoldsH H I' W':=fun H hH hn hnd=>
  HoldsH.keep ⟨hnd,fun p hp=>h.mem p (hH p hp)⟩ f hn
 have k1:=old pre hpre (fun b hb hb'=>n3 b hb b hb' rfl) n1
 have k2:=old suf hsuf (fun b hb hb'=>n5 b (.inr hb') b hb rfl) n4
 have new:∀ b,b∈bs Hq→b∈bs Hp∨W.heap.size≤b:=f.own
 have lt1:∀ b∈bs pre,b<W.heap.size:=fun b hb=>(h.lt (b:=b) (by simp [xN,hb])).1
 have lt2:∀ b∈bs suf,b<W.heap.size:=fun b hb=>(h.lt (b:=b) (by simp [xN,hb])).1
 refine⟨?_,fun p hp=>?_⟩
 ·simp only [xN,List.nodup_append,List.mem_append]
  refine⟨⟨n1,k.nodup,fun a ha b hb e=>?_⟩,n4,fun a ha b hb e=>?_⟩
  ·subst e
   rcases new a hb with h1 | h1
   ·exact n3 a ha a h1 rfl
   ·have:=lt1 a ha;omega
  ·subst e
   rcases ha with ha | ha
   ·exact n5 a (.inl ha) a hb rfl
   ·rcases new a ha with h1 | h1
    ·exact n5 a (.inr h1) a hb rfl
    ·have:=lt2 a hb;omega
 ·simp only [List.mem_append] at hp
  rcases hp with (hp | hp) | hp
  ·exact k1.mem p hp
  ·exact k.mem p hp
  ·exact k2.mem p hp
def OpL (P:Program) (G:Imm) (o:Oper) (g:List (Nat×SV)) (Hp:HL) (K:SV→HL→Prop):Prop:=
  ∀n r I W a (next:Act→World→Prop) (Q:Exit→Act→World→Prop),Holds G I W→HoldsH Hp I W→reads g I o a →
    (∀v I' W' s H',K s H'→Fram (· ∈bs Hp) I W (· ∈bs H') I' W'→Holds G I' W'→HoldsH H' I' W'→s.den I' v→next (a.put o.dst v) W')→o.wpIn (Fr r) n P a W next Q
def dstOk (o:Oper) (n:Nat):Bool:=match o.dst with
 | none=>true
 | some t=>Nat.blt t n
theorem vP {o:Oper} {n:Nat} (h:dstOk o n=true):∀ t,o.dst=some t→t<n:=by
 intro t ht;unfold dstOk at h;rw [ht] at h;exact by simpa [Nat.blt_eq] using h
theorem OpL.eff {o:Oper} {pre Hp suf:HL} {K:SV→HL→Prop} (h:OpL P G o S.g Hp K) (hh:S.h=pre++Hp++suf) (hd:dstOk o S.n=true):
  zag P G E r o S (fun S'=>∃ s H',K s H'∧S'={S with h:=pre++H'++suf}.set o.dst s):=by
 intro n I F a W next Q hs k
 have hHp:HoldsH Hp I W:=by
  have:=hs.h;rw [hh] at this
  refine⟨?_,fun p hp=>this.mem p (by simp [hp])⟩
  have hnd:=this.nodup
  simp only [xN,List.nodup_append] at hnd
  exact hnd.1.2.1
 refine h n r I W a next Q hs.m hHp (vz hs o) fun v I' W' s H' hK hf hm' hh' hv=>?_
 have hfr:=HoldsH.frame (by rw [←hh];exact hs.h) hh' hf
 obtain⟨s1,s2⟩:=hs.turn (h':=pre++H'++suf) (fun b hb=>by rw [hh];simp [xN,hb]) hf (fun b hb=>by
  simp only [xN,List.mem_append] at hb
  rw [hh];simp only [xN,List.mem_append]
  rcases hb with (hb | hb) | hb
  ·exact .inl (.inl (.inl hb))
  ·exact (hf.own b hb).imp (fun h=>.inl (.inr h)) id
  ·exact .inl (.inr hb)) hm' hfr
 exact k _ I' F _ W' (s1.put hv (vP hd)) ⟨s,H',hK,rfl⟩ (by rw [Yp];exact s2)
/-! the steps -/
variable {gd:Nat→Option Nat} {p:Bool} {o:Oper} {ops:List Oper} {K:St→Prop}
theorem Run.one {n t:Nat} {g:List (Nat×SV)} {h:HL} {d:List Nat} {i:Nat×Bool} {s:SV} (ho:OpOK P G h o g s) (hg:zH gd g o true) (ht:o.dst=some t) (hd:Nat.blt t n=true) (hr:Run P G E r gd p ops ⟨n,(t,s)::g,h,d,i⟩ K):Run P G E r gd p (o::ops) ⟨n,g,h,d,i⟩ K:=
 .ok ho hg (fun t' h'=>by rw [ht] at h';cases h';simpa [Nat.blt_eq] using hd) (by simpa only [St.set,ht] using hr)
theorem Run.no {n t:Nat} {g:List (Nat×SV)} {h:HL} {d:List Nat} {i:Nat×Bool} (hg:zH gd g o false) (ht:o.dst=some t) (hd:Nat.blt t n=true) (hr:Run P G E r gd p ops ⟨n,(t,eqS undef)::g,h,d,i⟩ K):Run P G E r gd p (o::ops) ⟨n,g,h,d,i⟩ K:=
 .skip hg (fun t' h'=>by rw [ht] at h';cases h';simpa [Nat.blt_eq] using hd) (by simpa only [St.set,ht] using hr)
theorem Run.loc {pre Hp suf:HL} {Kl:SV→HL→Prop} (hp:p=false) (hh:S.h=pre++Hp++suf) (ho:OpL P G o S.g Hp Kl) (hg:zH gd S.g o true) (hd:dstOk o S.n=true)
  (h:∀ s H',Kl s H'→Run P G E r gd p ops ({S with h:=pre++H'++suf}.set o.dst s) K):Run P G E r gd p (o::ops) S K:=
 .eff _ hp (ho.eff hh hd) hg fun S' ⟨s,H',hK,e⟩=>by subst e;exact h s H' hK
theorem uk {H:HL} {j:Nat} {q:HE} (h:H[j]? =some q):H=H.take j++[q]++H.drop (j+1):=by
 have hlt:=yt h
 rw [List.append_assoc,List.singleton_append]
 have:q=H[j]:=by rw [List.getElem?_eq_getElem hlt] at h;exact (Option.some.inj h).symm
 rw [this,←List.drop_eq_getElem_cons hlt,List.take_append_drop]
/-! a new owned block -/
theorem zoo {q:Nat→HE} {g:List (Nat×SV)} (hd:∀ c,o.op≠ .defer c) (h:∀ I W a,Holds G I W→reads g I o a→∃ v c e cs k,(execOp a.eval o).run P W= .ok (.value v) (W.alloc (.cells c e))∧v= .pointer (some ⟨W.heap.size,0,none⟩) ∧
   q W.heap.size=⟨some W.heap.size,e,cs,k⟩∧c.size=cs.length+k∧xF (c.toList.take cs.length)∧dens I cs (c.toList.take cs.length)):
  OpL P G o g [] (fun s H'=>∃ b,s=eqS (.pointer (some ⟨b,0,none⟩))∧H'=[q b]):=by
 intro n r I W a next Q hm _ hr k
 obtain⟨v,c,e,cs,kk,hv,rfl,hq,hsz,h1,hdn⟩:=h I W a hm hr
 obtain⟨hm',hf⟩:=uW hm (.cells c e) (fun b=>b∈bs [])
 have hn:=hm.none_new
 refine xG hd hv (k _ I _ _ [q W.heap.size] ⟨_,rfl,rfl⟩ ?_ hm' ?_ rfl)
 ·refine hf.weaken (fun _ h=>h) fun b hb=>.inl (.inr ?_)
  simp [bs,hq] at hb;exact hb
 ·refine⟨by simp [bs,hq],fun p hp=>?_⟩
  simp at hp;subst hp
  rw [hq]
  exact .of_some rfl ⟨hn,c,alloc_heap_at _ _,hsz,h1,hdn⟩
theorem WM {t:TypeId} {zs:List Value} {g:List (Nat×SV)} [hz:IsZero P t zs] (hop:o.op= .alloc t):OpL P G o g [] (fun s H'=>∃ b,s=eqS (.pointer (some ⟨b,0,none⟩))∧H'=[⟨some b,t,zs.map eqS,0⟩]):=
 zoo (q:=fun b=>⟨some b,t,zs.map eqS,0⟩) (by simp [hop]) fun I W a _ _=>by
  obtain⟨i,z,hi,hz1,hz2,hz3⟩:=hz.i
  refine⟨_,zs.toArray,t,zs.map eqS,0,?_,rfl,rfl,by simp,?_,?_⟩
  ·have hzv:(zeroValue t).run P W= .ok z W:=by simp [zeroValue,typeInfo,hi,hz1]
   simp [execOp,hop,Instr.alloc,hzv,newVar,newRow,hz2]
  ·rw [List.take_of_length_le (by simp)];exact hz.one
  ·rw [List.take_of_length_le (by simp)];exact ZV zs
theorem zpZ {t:TypeId} {x:Operand} {s:SV} {cs:List SV} {g:List (Nat×SV)} [hf:FlatC s cs] (hop:o.op= .box t x) (hx:xd g x=some s):OpL P G o g [] (fun s H'=>∃ b,s=eqS (.pointer (some ⟨b,0,none⟩))∧H'=[⟨some b,t,cs,0⟩]):=
 zoo (q:=fun b=>⟨some b,t,cs,0⟩) (by simp [hop]) fun I W a _ hr=>by
  have hv:=hr.get (by simp [hop,Op.operands]) hx
  obtain⟨hd,h1⟩:=hf.h.cells hv
  have hl:(a.eval x).cells.toList.length=cs.length:=hd.1
  refine⟨_,(a.eval x).cells,t,cs,0,?_,rfl,rfl,by simpa using hl,?_,?_⟩
  ·simp [execOp,hop,Instr.box,newVar,newRow]
  ·rw [List.take_of_length_le (by omega)];exact h1
  ·rw [List.take_of_length_le (by omega)];exact hd
/-! a store -/
class HasSize (P:Program) (t:TypeId) (n:outParam Nat):Prop where
 i:∃ i,P.info? t=some i∧i.size=n
theorem wK (cs:List SV) (off:Nat) (ds:List SV):(xM cs off ds).length=cs.length:=by
 induction ds generalizing cs off with
 | nil=>rfl
 | cons d ds ih=>simp only [xM];rw [ih];simp
theorem uQ (c:Array Value) (off:Nat) (vs:List Value) (h:off+vs.length≤c.size):(setAllV c off vs).toList=c.toList.take off++vs++c.toList.drop (off+vs.length):=by
  induction vs generalizing c off with
  | nil=>simp [setAllV]
  | cons v vs ih=>
    simp only [setAllV]
    simp only [List.length_cons] at h
    rw [ih _ _ (by simp;omega)]
    have:=list_seg_step c.toList off v vs (by simp;omega)
    simpa [Array.toList_setIfInBounds,Nat.add_assoc,Nat.add_comm 1] using this
theorem VZ (c:Array Value) (off:Nat) (vs:List Value):(setAllV c off vs).size=c.size:=by
 induction vs generalizing c off with
 | nil=>rfl
 | cons v vs ih=>simp only [setAllV];rw [ih];simp
theorem Zy (c:Array Value) (off:Nat) (vs:List Value) (n:Nat) (h:off+vs.length≤n) (hn:n≤c.size):(setAllV c off vs).toList.take n=(setAllV (c.toList.take n).toArray off vs).toList:=by
 rw [uQ _ _ _ (by omega),uQ _ _ _ (by simp;omega)]
 simp only [List.take_append,List.take_take,List.length_take,Array.length_toList,List.length_append]
 rw [show min n off=off from by omega,show min off n=off from by omega,show min off c.size=off from by omega]
 rw [List.take_of_length_le (l:=vs) (by omega)]
 congr 1
 rw [List.drop_take]
theorem xI {t m:TypeId} [hsz:HasSize P t m] {x y:Operand} {b off e k:Nat} {cs ds:List SV} {s:SV} {g:List (Nat×SV)} [hf:FlatC s ds] (hop:o.op= .store t x y) (hx:xd g x=some (eqS (.pointer (some ⟨b,off,none⟩)))) (hy:xd g y=some s) (hm:ds.length=m) (hoff:off+ds.length≤cs.length):
  OpL P G o g [⟨some b,e,cs,k⟩] (fun s H'=>s=eqS undef∧H'=[⟨some b,e,xM cs off ds,k⟩]):=by
 intro n r I W a next Q hm' hh hr kk
 have hv:a.eval x=_:=hr.get (by simp [hop,Op.operands]) hx
 have hvy:=hr.get (by simp [hop,Op.operands]) hy
 obtain⟨hd,h1⟩:=hf.h.cells hvy
 obtain⟨hn,c,hc,hcs,ho,hdc⟩:=(hh.mem ⟨some b,e,cs,k⟩ (by simp)).some rfl
 simp only at hcs ho hdc hc
 have hlen:(a.eval y).cells.toList.length=ds.length:=hd.1
 obtain⟨i,hi,his⟩:=hsz.i
 have hrun:(execOp a.eval o).run P W= .ok .skip (W.setRow b (setAllV c off (a.eval y).cells.toList)):=by
  have h2:=run_storeCells_at P b off e (a.eval y).cells.toList 0 c W hc (by simp only [hlen];omega) h1
  simp only [Nat.add_zero] at h2
  have h3:(storeVar t ⟨b,off,none⟩ (a.eval y)).run P W= .ok () (W.setRow b (setAllV c off (a.eval y).cells.toList)):=by
   have:(a.eval y).cells.size=i.size:=by have:=hlen;simp at this;omega
   simp only [storeVar,Sem.run_bind,sizeOf,typeInfo,run_program,Result.andThen_ok,hi,Sem.run_pure,this,ne_eq,not_true_eq_false,if_false,h2]
   rw [←uQ c off _ (by rw [hlen];omega)]
  simp only [execOp,hop,Instr.storeAt,hv,Instr.sureAddr,Sem.run_bind,Sem.run_pure,Result.andThen_ok,h3]
 have hsz':cs.length≤c.size:=by omega
 obtain⟨hm2,hf2⟩:=uO (W':=W.setRow b (setAllV c off (a.eval y).cells.toList)) hm' hn rfl rfl rfl (by simp) (fun k hk=>setRow_other _ _ _ _ hk)
 refine xG (by simp [hop]) hrun ?_
 refine kk undef I _ _ _ ⟨rfl,rfl⟩ ?_ hm2 ?_ rfl
 ·refine hf2.weaken (fun k hk=>by subst hk;simp [bs]) fun k hk=>.inl ?_
  simp [bs] at hk;exact hk
 ·refine⟨by simp [bs],fun p hp=>?_⟩
  simp at hp;subst hp
  have hs:=Xi (off:=off) hd h1 (c:=(c.toList.take cs.length).toArray) (by simpa using hdc) (by simpa using ho)
  refine .of_some rfl ⟨hn,_,setRow_heap _ _ _ _ _ _ hc,by rw [VZ,wK];exact hcs,?_,?_⟩
  ·rw [wK,Zy _ _ _ _ (by rw [hlen];omega) hsz'];exact hs.2
  ·rw [wK,Zy _ _ _ _ (by rw [hlen];omega) hsz'];exact hs.1
def wh:HL→Nat→HL→HL
 | [],_,_=>[]
 | _::h,0,k=>cat k h
 | q::h,j+1,k=>q::wh h j k
where cat:HL→HL→HL
 | [],h=>h
 | q::k,h=>q::cat k h
theorem zj7 (k h:HL):wh.cat k h=k++h:=by
 induction k with
 | nil=>rfl
 | cons q k ih=>simp only [wh.cat,ih];rfl
theorem vn {H:HL} {j:Nat} {q:HE} (h:H[j]? =some q) (k:HL):wh H j k=H.take j++k++H.drop (j+1):=by
  induction H generalizing j with
  | nil=>simp at h
  | cons p H ih=>cases j with
    | zero=>simp [wh,zj7]
    | succ j=>simp only [wh];rw [ih (by simpa using h)];simp
theorem Run.loc1 (j:Nat) {n t:Nat} {g:List (Nat×SV)} {h:HL} {d:List Nat} {i:Nat×Bool} {q:HE} {Kl:SV→HL→Prop} (hp:p=false) (hH:h[j]? =some q) (ho:OpL P G o g [q] Kl) (hg:zH gd g o true) (ht:o.dst=some t) (hd:Nat.blt t n=true)
  (hr:∀ s H',Kl s H'→Run P G E r gd p ops ⟨n,(t,s)::g,wh h j H',d,i⟩ K):Run P G E r gd p (o::ops) ⟨n,g,h,d,i⟩ K:=
 .loc (S:=⟨n,g,h,d,i⟩) hp (uk hH) ho hg (by simp [dstOk,ht];simpa [Nat.blt_eq] using hd) fun s H' hk=>by
  have:=hr s H' hk
  rw [vn hH] at this
  simpa only [St.set,ht] using this
theorem Run.loc0 {n t:Nat} {g:List (Nat×SV)} {h:HL} {d:List Nat} {i:Nat×Bool} {Kl:SV→HL→Prop} (hp:p=false) (ho:OpL P G o g [] Kl) (hg:zH gd g o true) (ht:o.dst=some t) (hd:Nat.blt t n=true)
  (hr:∀ s H',Kl s H'→Run P G E r gd p ops ⟨n,(t,s)::g,wh.cat H' h,d,i⟩ K):Run P G E r gd p (o::ops) ⟨n,g,h,d,i⟩ K:=
 .loc (S:=⟨n,g,h,d,i⟩) (pre:=[]) (Hp:=[]) (suf:=h) hp rfl ho hg (by simp [dstOk,ht];simpa [Nat.blt_eq] using hd) fun s H' hk=>by
  have:=hr s H' hk
  rw [zj7] at this
  simpa only [St.set,ht,List.nil_append] using this
theorem Run.store (j:Nat) {n:Nat} {g:List (Nat×SV)} {h:HL} {d:List Nat} {i:Nat×Bool} {t m:TypeId} [HasSize P t m] {x y:Operand} {b off e k:Nat} {cs ds:List SV} {s:SV} [FlatC s ds] (hp:p=false) (hop:o.op= .store t x y) (hx:xd g x=some (eqS (.pointer (some ⟨b,off,none⟩)))) (hy:xd g y=some s)
  (hH:h[j]? =some ⟨some b,e,cs,k⟩) (hm:ds.length=m) (hoff:Nat.ble (off+ds.length) cs.length=true) (hd:o.dst=none) (hg:zH gd g o true)
  (hr:Run P G E r gd p ops ⟨n,g,wh h j [⟨some b,e,xM cs off ds,k⟩],d,i⟩ K):Run P G E r gd p (o::ops) ⟨n,g,h,d,i⟩ K:=
 .loc (S:=⟨n,g,h,d,i⟩) hp (uk hH) (xI hop hx hy hm (Nat.le_of_ble_eq_true hoff)) hg (by simp [dstOk,hd]) fun s H' ⟨_,e2⟩=>by
  subst e2;rw [hd];rw [vn hH] at hr;exact hr
theorem Run.alloc {n d0:Nat} {g:List (Nat×SV)} {h:HL} {d:List Nat} {i:Nat×Bool} {t:TypeId} {zs:List Value} [IsZero P t zs] (hp:p=false) (hop:o.op= .alloc t) (hg:zH gd g o true) (ht:o.dst=some d0) (hd:Nat.blt d0 n=true)
  (hr:∀ b,Run P G E r gd p ops ⟨n,(d0,eqS (.pointer (some ⟨b,0,none⟩)))::g,⟨some b,t,zs.map eqS,0⟩::h,d,i⟩ K):Run P G E r gd p (o::ops) ⟨n,g,h,d,i⟩ K:=
 .loc0 hp (WM (t:=t) (zs:=zs) hop) hg ht hd fun s H' ⟨b,e1,e2⟩=>by subst e1;subst e2;exact hr b
theorem Run.box {n d0:Nat} {g:List (Nat×SV)} {h:HL} {d:List Nat} {i:Nat×Bool} {t:TypeId} {x:Operand} {s:SV} {cs:List SV} [FlatC s cs] (hp:p=false) (hop:o.op= .box t x) (hx:xd g x=some s) (hg:zH gd g o true) (ht:o.dst=some d0) (hd:Nat.blt d0 n=true)
  (hr:∀ b,Run P G E r gd p ops ⟨n,(d0,eqS (.pointer (some ⟨b,0,none⟩)))::g,⟨some b,t,cs,0⟩::h,d,i⟩ K):Run P G E r gd p (o::ops) ⟨n,g,h,d,i⟩ K:=
 .loc0 hp (zpZ hop hx) hg ht hd fun s H' ⟨b,e1,e2⟩=>by subst e1;subst e2;exact hr b
end turn
end Go.Sv
