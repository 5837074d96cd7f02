/- The rules of the operations that turn nothing that was there. -/
import Derived.Test.YtceodgbmninaoaaGreatDoorSva
import Derived.Laws.Cover3
import Derived.Maps.AppendAt
import Derived.Shelf.Abstract
set_option linter.all false
namespace Go.Sv
open Go Go.RowKit
class am (P:Program) (t:TypeId) (e st:outParam Nat):Prop where
 u:P.underlying t=some (.slice e)
 i:∃ i,P.info? e=some i/\i.size=st
class ak (P:Program) (t:TypeId):Prop where
 h:∃ d,P.underlying t=some d/\(match d with | .struct _ | .array _ _=>False | _=>True)
class az (P:Program) (t:TypeId) (n:outParam Nat):Prop where
 h:∃ d,P.underlying t=some d/\(match d with | .struct _ | .array _ _=>True | _=>False)
 i:∃ i,P.info? t=some i/\i.size=n
class aj (P:Program) (s k:Nat) (off:outParam Nat):Prop where
 h:∃ fs f i,P.underlying s=some (.struct fs)/\fs[k]? =some f/\f.offset=off/\P.info? f.type=some i/\i.size≠0
class aR (P:Program) (t:TypeId) (k:outParam IntKind):Prop where
 h:P.underlying t=some (.int k)
class bW (P:Program) (t:TypeId):Prop where
 h:(P.underlying t).isSome=true
section basic
variable {P:Program} {G:Imm} {H:HL} {o:Oper} {g:Ha} {s:SV}
variable {x y:Operand} {t u:TypeId} {k c:IntKind} {m z l:Int} {b n:Bool} {op:BinOp} {a:Act}
def xg {n:Nat} {r:Option Nat} {W:World} {b:Act->World->Prop} {Q:Exit->Act->World->Prop} (d:∀ c,o.op≠ .defer c) {x:Result Next}
 (h:(execOp a.eval o).run P W=x) (k:o.uponIn (Fr r) n P a b Q x):o.wpIn (Fr r) n P a W b Q:=
 ⟨fun f _=>Qr r f,by rw [Oper.semAt_eq _ _ _ d,h];omega⟩
def yy (l:∀ c,o.op≠ .defer c) (h:∀ I W a,Holds G I W->HoldsH H I W->reads g I o a->∃ v,(execOp a.eval o).run P W= .ok (.value v) W/\s.den I v):OpOK P G H o g s:=by
 intro n r I W a b Q d j i k;obtain⟨v,e,f⟩:=h I W a d j i;exact xg l e (k v I W (Fram.refl _ _ _) d f)
def reads.get {I:Imm} (h:reads g I o a) (hx:x∈o.op.operands.toList) (b:yW g x=some s):s.den I (a.eval x):=h x hx s b
def zC (hop:o.op= .move x) (hx:yW g x=some s):OpOK P G H o g s:=
 yy GW fun I W a _ _ b=>⟨_,by simp [execOp,hop],b.get GB hx⟩
def yt (hop:o.op= .assign x) (hx:yW g x=some s):OpOK P G H o g s:=
 yy GW fun I W a _ _ b=>⟨_,by simp [execOp,hop],b.get GB hx⟩
def xl {c:Operand} (hop:o.op= .pick c x y) (e:yW g c=some (zp b)) (hx:yW g (if b then x else y)=some s):OpOK P G H o g s:=
 yy GW fun I W a _ _ d=>by
  have h1:a.eval c= .bool b:=d.get GB e;cases b with
  | true=>exact⟨_,by simp [execOp,hop,h1,asBool],d.get GB hx⟩
  | false=>exact⟨_,by simp [execOp,hop,h1,asBool],d.get GB hx⟩
def ZJ {cs:List SV} (hop:o.op= .nilCheck x) (hx:yW g x=some (yo cs)):OpOK P G H o g (yo cs):=
 yy GW fun I W a _ _ d=>by
  have h1:=d.get GB hx;obtain⟨b,off,c,e⟩:=h1;exact⟨_,by simp [execOp,hop,c],b,off,Z,e⟩
def yN {p:Addr} (hop:o.op= .nilCheck x) (hx:yW g x=some (eqS (.pointer (some p)))):OpOK P G H o g (eqS (.pointer (some p))):=
 yy GW fun I W a _ _ b=>by
  have h1:a.eval x=_:=b.get GB hx;exact⟨_,by simp [execOp,hop,h1],Z⟩
def zAl:BinOp->Int->Int->Option Bool
 | .eql,x,y=>some (x==y)
 | .neq,x,y=>some (x != y)
 | .lss,x,y=>some (decide (x<y))
 | .leq,x,y=>some (decide (x<=y))
 | .gtr,x,y=>some (decide (y<x))
 | .geq,x,y=>some (decide (y<=x))
 | _,_,_=>none
def zZ {n:Int} (hop:o.op= .binOp op t x y u) (hx:yW g x=some (ze k m)) (hy:yW g y=some (ze k n)) (d:zAl op m n=some b):
 OpOK P G H o g (zp b):=
 yy GW fun I W a _ _ c=>by
  have h1:a.eval x= .int k m:=c.get GB hx;have e:a.eval y= .int k n:=c.get GB hy;refine⟨.bool b,?_,Z⟩;cases op <;> simp [zAl] at d <;> subst d <;> simp [execOp,hop,h1,e,eqGuard,binOp,Op.intCmp]
def lG:BinOp->Int->Int->Option Int
 | .add,x,y=>some (x+y)
 | .sub,x,y=>some (x-y)
 | .mul,x,y=>some (x*y)
 | _,_,_=>none
def ur {n:Int} (hop:o.op= .binOp op t x y u) (hx:yW g x=some (ze k m)) (hy:yW g y=some (ze k n)) (b:lG op m n=some z):
 OpOK P G H o g (ze k (k.wrap z)):=
 yy GW fun I W a _ _ c=>by
  have h1:a.eval x= .int k m:=c.get GB hx;have d:a.eval y= .int k n:=c.get GB hy;refine⟨.int k (k.wrap z),?_,Z⟩;cases op <;> simp [lG] at b <;> subst b <;> simp [execOp,hop,h1,d,eqGuard,binOp,Op.intArith]
def yK {n:Int} (a:o.op= .binOp op t x y u) (hx:yW g x=some (ze k m)) (hy:yW g y=some (ze k n)) (b:lG op m n=some z) (c:k.wrap z=z):
 OpOK P G H o g (ze k z):=by have:=ur (P:=P) (G:=G) (H:=H) a hx hy b;grind
def wrap_i64 (h1: -9223372036854775808<=z) (a:z<=9223372036854775807):IntKind.i64.wrap z=z:=by
 simp [IntKind.wrap,IntKind.bits,IntKind.signed];omega
def xA (h1:0<=z) (a:z<=18446744073709551615):IntKind.u64.wrap z=z:=by
 simp [IntKind.wrap,IntKind.bits,IntKind.signed];omega
def vt (h1:0<=z) (a:z<=4294967295):IntKind.u32.wrap z=z:=by
 simp [IntKind.wrap,IntKind.bits,IntKind.signed];omega
def Wq (h1:0<=z) (a:z<=255):IntKind.u8.wrap z=z:=by
 simp [IntKind.wrap,IntKind.bits,IntKind.signed];omega
def wh:IntKind.u32.wrap z=z%4294967296:=by rfl
def wP:IntKind.u64.wrap z=z%18446744073709551616:=by rfl
def vl {n:Int} (hop:o.op= .binOp .quo t x y u) (hx:yW g x=some (ze k m)) (hy:yW g y=some (ze k n)) (d:0<=m) (f:0<n) (c:k.wrap (m/n)=m/n):
 OpOK P G H o g (ze k (m/n)):=
 yy GW fun I W a _ _ b=>by
  have h1:a.eval x= .int k m:=b.get GB hx;have e:a.eval y= .int k n:=b.get GB hy;refine⟨.int k (m/n),?_,Z⟩;simp [execOp,hop,h1,e,eqGuard,binOp,Op.intDiv,(C:¬n=0),Int.tdiv_eq_ediv_of_nonneg d,c]
def wt {n:Int} (hop:o.op= .binOp .rem t x y u) (hx:yW g x=some (ze k m)) (hy:yW g y=some (ze k n)) (c:0<=m) (e:0<n):
 OpOK P G H o g (ze k (m%n)):=
 yy GW fun I W a _ _ b=>by
  have h1:a.eval x= .int k m:=b.get GB hx;have d:a.eval y= .int k n:=b.get GB hy;refine⟨.int k (m%n),?_,Z⟩;simp [execOp,hop,h1,d,eqGuard,binOp,Op.intDiv,(C:¬n=0),Int.tmod_eq_emod_of_nonneg c]
def wH {n:Int} (hop:o.op= .binOp .shr t x y u) (hx:yW g x=some (ze k m)) (hy:yW g y=some (ze c n)) (f:0<=n) (h:n<=k.bits):
 OpOK P G H o g (ze k (m/2^n.toNat)):=
 yy GW fun I W a _ _ d=>by
  have h1:a.eval x= .int k m:=d.get GB hx;have e:a.eval y= .int c n:=d.get GB hy;refine⟨.int k (m/2^n.toNat),?_,Z⟩;have b:min n.toNat k.bits=n.toNat:=AU (by omega);simp [execOp,hop,h1,e,eqGuard,binOp,Op.shift,(C:¬n<0),b];grind
def ZC {n:Int} (hop:o.op= .binOp .shl t x y u) (hx:yW g x=some (ze k m)) (hy:yW g y=some (ze c n)) (f:0<=n) (h:n<=k.bits):
 OpOK P G H o g (ze k (k.wrap (m*2^n.toNat))):=
 yy GW fun I W a _ _ d=>by
  have h1:a.eval x= .int k m:=d.get GB hx;have e:a.eval y= .int c n:=d.get GB hy;refine⟨.int k (k.wrap (m*2^n.toNat)),?_,Z⟩;have b:min n.toNat k.bits=n.toNat:=AU (by omega);simp [execOp,hop,h1,e,eqGuard,binOp,Op.shift,(C:¬n<0),b]
def qG (op:BinOp) (k:IntKind) (x y:Int):Int:=
 let a:=BitVec.ofInt k.bits x
 let b:=BitVec.ofInt k.bits y
 k.wrap (match op with | .and=>a &&& b | .or=>a ||| b | .xor=>a ^^^ b | _=>a &&& ~~~b).toNat
def vg {n:Int} (hop:o.op= .binOp op t x y u) (b:op= .and\/op= .or\/op= .xor\/op= .andNot) (hx:yW g x=some (ze k m)) (hy:yW g y=some (ze k n)):
 OpOK P G H o g (ze k (qG op k m n)):=
 yy GW fun I W a _ _ c=>by
  have h1:a.eval x= .int k m:=c.get GB hx;have d:a.eval y= .int k n:=c.get GB hy;refine⟨.int k (qG op k m n),?_,Z⟩;rcases b with rfl | rfl | rfl | rfl <;> simp [execOp,hop,h1,d,eqGuard,binOp,Op.intBits,qG]
def Ux (W:World) (b c:Bool) (a:P.underlying t=some .bool):(Op.equal t (.bool b) (.bool c)).run P W= .ok (b==c) W:=by
 have e:∀ d,(Op.equalIn (d+1) t (.bool b) (.bool c)).run P W= .ok (b==c) W:=by intro d;simp [Op.equalIn,run_underlying a]
 exact e 9999
def zaM {c:Bool} (hop:o.op= .binOp .eql t x y u) (hx:yW g x=some (zp b)) (hy:yW g y=some (zp c)) (d:P.underlying t=some .bool):OpOK P G H o g (zp (b==c)):=
 yy GW fun I W a _ _ f=>by
  have h1:a.eval x= .bool b:=f.get GB hx;have h:a.eval y= .bool c:=f.get GB hy;refine⟨.bool (b==c),?_,Z⟩;have e:=Ux W b c d;have e2:(binOp .eql t (.bool b) (.bool c)).run P W= .ok (.bool (b==c)) W:=by
   show ((do pure (.bool (<-Op.equal t (.bool b) (.bool c)))):Sem Value).run P W=_;simp [e]
  simp [execOp,hop,h1,h,eqGuard,e2]
def Uy {c:Bool} (hop:o.op= .binOp .neq t x y u) (hx:yW g x=some (zp b)) (hy:yW g y=some (zp c)) (d:P.underlying t=some .bool):OpOK P G H o g (zp (!(b==c))):=
 yy GW fun I W a _ _ f=>by
  have h1:a.eval x= .bool b:=f.get GB hx;have h:a.eval y= .bool c:=f.get GB hy;refine⟨.bool (!(b==c)),?_,Z⟩;have e:=Ux W b c d;have e2:(binOp .neq t (.bool b) (.bool c)).run P W= .ok (.bool (!(b==c))) W:=by
   show ((do pure (.bool (!(<-Op.equal t (.bool b) (.bool c))))):Sem Value).run P W=_;simp [e]
  simp [execOp,hop,h1,h,eqGuard,e2]
def Xm (hop:o.op= .unOp .not t x) (hx:yW g x=some (zp b)):OpOK P G H o g (zp (!b)):=
 yy GW fun I W a _ _ c=>by
  have h1:a.eval x= .bool b:=c.get GB hx;exact⟨.bool (!b),by simp [execOp,hop,h1,Op.unary],Z⟩
def mW (hop:o.op= .unOp .neg t x) (hx:yW g x=some (ze k m)):OpOK P G H o g (ze k (k.wrap (0-m))):=
 yy GW fun I W a _ _ b=>by
  have h1:a.eval x= .int k m:=b.get GB hx;exact⟨.int k (k.wrap (0-m)),by simp [execOp,hop,h1,Op.unary,Op.intArith],Z⟩
def zjO {src dst:TypeId} [bW P src] {b:IntKind} [aR P dst b] (hop:o.op= .convert src dst x) (hx:yW g x=some (ze k m)):OpOK P G H o g (ze b (b.wrap m)):=
 yy GW fun I W a _ _ d=>by
  have h1:a.eval x= .int k m:=d.get GB hx;refine⟨.int b (b.wrap m),?_,Z⟩;have c:P.intKind dst=b:=by have:=aR.h (P:=P) (t:=dst) (k:=b);simp [Program.intKind,this]
  have:=run_convert_int W src dst k m (bW.h) (by rw [c];exact aR.h);rw [c] at this;simp [execOp,hop,h1,this]
def yO {src dst:TypeId} [bW P src] {a:IntKind} [aR P dst a] (b:o.op= .convert src dst x) (hx:yW g x=some (ze k m)) (c:a.wrap m=z):OpOK P G H o g (ze a z):=by
 have:=zjO (P:=P) (G:=G) (H:=H) b hx;grind
end basic
end Go.Sv
namespace Go.Sv
open Go Go.RowKit
class One (s:SV):Prop where
 h:s.One
instance {cs:List SV}:One (yo cs):=⟨zqA⟩
instance {α:Type} {st:Nat} {f:α->List SV} {l:List α}:One (zR st f l):=⟨zuo⟩
instance {f:FuncId} {cs:List SV}:One (wD f cs):=⟨zup⟩
instance:One zfE:=⟨zhe⟩
instance {k:IntKind} {n:Int}:One (eqS (.int k n)):=⟨YP Z⟩
instance {b:Bool}:One (eqS (.bool b)):=⟨YP Z⟩
instance {b:Option Addr}:One (eqS (.pointer b)):=⟨YP Z⟩
instance {b:Option Addr} {n c:Nat}:One (eqS (.slice b n c)):=⟨YP Z⟩
instance {s:ByteArray}:One (eqS (.string s)):=⟨YP Z⟩
instance:One (eqS .nilFunc):=⟨YP Z⟩
instance {f:Fn} {x y:Array Value}:One (eqS (.func f x y)):=⟨YP Z⟩
class bj (s:SV) (cs:outParam (List SV)):Prop where
 h:eQ s cs
instance flat_agg {cs:List SV}:bj (zl cs) cs:=⟨.agg⟩
instance (priority:=low) flat_one {s:SV} [One s]:bj s [s]:=⟨.one One.h⟩
class FlatL (l:Ha) (r:outParam (List (Nat×List SV))):Prop where
 h:l.length=r.length/\∀ (j:Nat) p q,l[j]? =some p->r[j]? =some q->p.1=q.1/\eQ p.2 q.2
instance:FlatL [] []:=⟨Z,B⟩
instance {i:Nat} {s:SV} {cs:List SV} {l:Ha} {r:List (Nat×List SV)} [bj s cs] [FlatL l r]:FlatL ((i,s)::l) ((i,cs)::r):=
 ⟨by simp [(FlatL.h).1],fun j p q hp hq=>by
  cases j with
  | zero=>simp at hp hq;subst hp;subst hq;exact⟨Z,bj.h⟩
  | succ j=>exact (FlatL.h).2 j p q (by simpa using hp) (by simpa using hq)⟩
class al (P:Program) (t:TypeId) (zs:outParam (List Value)):Prop where
 i:∃ i z,P.info? t=some i/\i.zero=some z/\z.cells=zs.toArray/\i.size=zs.length
 one:KK zs
section mem
variable {P:Program} {G:Imm} {H:HL} {o:Oper} {g:Ha} {s:SV}
variable {α:Type} {x y:Operand} {off b t st p q:Nat} {cs ds:List SV} {W:World} {k:IntKind} {e:TypeId} {c:Array TypeId} {n:Array Value} {f:α->List SV} {i m:Int} {l:List α} {I:Imm}
def xC {c:Array Value} {f:Nat×Nat} (h:W.heap[b]? =some (.cells c e f)):W.cell? ⟨b,off,none⟩=c[off]? :=by simp [World.cell?,h]
def XU (b off n:Nat):Addr.add ⟨b,off,none⟩ n=⟨b,off+n,none⟩:=by unfold Addr.add;simp
def vm {t:TypeId} [ak P t] {x:Value} (h:W.cell? ⟨b,off,none⟩=some x):(loadVar t ⟨b,off,none⟩).run P W= .ok x W:=by
 obtain⟨d,a,c⟩:=ak.h (P:=P) (t:=t);have:(isAgg t).run P W= .ok false W:=by
  unfold isAgg;simp only [Sem.run_bind,run_underlying a,Result.andThen_ok];cases d <;> simp_all
 simp [loadVar,this,h]
def Zx {n:Nat} [az P t n] {cs:List Value} (c:cs.length=n) (h:∀ j v,cs[j]? =some v->W.cell? ⟨b,off+j,none⟩=some v):
 (loadVar t ⟨b,off,none⟩).run P W= .ok (.agg cs.toArray) W:=by
 obtain⟨d,e,k⟩:=az.h (P:=P) (t:=t);obtain⟨i,hi,a⟩:=az.i (P:=P) (t:=t);have h1:(isAgg t).run P W= .ok true W:=by
  unfold isAgg;simp only [Sem.run_bind,run_underlying e,Result.andThen_ok];cases d <;> simp_all
 have g:(sizeOf t).run P W= .ok cs.length W:=by simp [sizeOf,typeInfo,hi,a,c]
 have f:=run_loadCells_list (P:=P) W ⟨b,off,none⟩ cs (fun j v hj=>by rw [XU];grind);simp [loadVar,h1,g,f]
def xP {t:TypeId} [ak P t] (hop:o.op= .load t x) (hx:yW g x=some (yo (s::cs))):OpOK P G H o g s:=
 yy GW fun I W a j _ i=>by
  obtain⟨b,off,d,c,hI,k⟩:=i.get GB hx;obtain⟨e,f,l⟩:=j.mem b c hI;obtain⟨y,hy,h,_⟩:=k 0 s Z;refine⟨y,?_,h⟩;have:=vm (P:=P) (t:=t) (off:=off) (by rw [xC l];exact hy);simp [execOp,hop,d,Instr.loadAt,Instr.sureAddr,this]
def YB {c:Array Value} {n:Nat} (b:cs.length=n) (d:∀ i s,cs[i]? =some s->∃ x,c[off+i]? =some x/\s.den I x/\x.oneCell'=true):
 ∃xs:List Value,xs.length=n/\(∀j v,xs[j]? =some v->c[off+j]? =some v)/\dens I cs xs/\KK xs:=by
 induction cs generalizing off n with
 | nil=>exact⟨[],by omega,B,aq,by intro x hx;grind⟩
 | cons s cs ih=>
  obtain⟨x,hx,f,g⟩:=d 0 s Z;obtain⟨xs,h1,l,k,h⟩:=ih (off:=off+1) (n:=cs.length) Z (fun i s hi=>by have:=d (i+1) s GM;grind);refine⟨x::xs,by grind,fun j v a=>?_,yB f k,fun y hy=>(DZ.1 hy).elim (fun e=>by grind) (h y)⟩;grind
def zG {n:Nat} [az P t n] (hop:o.op= .load t x) (hx:yW g x=some (yo cs)) (q:cs.take n=ds) (m:ds.length=n):OpOK P G H o g (zl ds):=
 yy GW fun I W a p _ l=>by
  obtain⟨b,off,k,c,hI,h⟩:=l.get GB hx;obtain⟨e,f,r⟩:=p.mem b c hI;obtain⟨xs,hx1,hx2,hx3,d⟩:=YB (c:=c) (off:=off) m (fun i s hi=>h i s (by grind));refine⟨.agg xs.toArray,?_,xs,Z,hx3,d⟩;have:=Zx (P:=P) (t:=t) hx1 (fun j v hj=>by rw [xC r];exact hx2 j v hj);simp [execOp,hop,k,Instr.loadAt,Instr.sureAddr,this]
def YC {e k:Nat} (h:bc I W b e cs k):∃ c,W.heap[b]? =some (.cells c e (0,0))/\∀ (i:Nat) (s:SV),cs[i]? =some s->∃ x,c[i]? =some x/\s.den I x/\x.oneCell'=true:=by
 obtain⟨_,c,f,j,h1,d⟩:=h;refine⟨c,f,fun i s hi=>?_⟩;obtain⟨x,hx,a⟩:=d.get hi;have g:=h1 x (AE hx);grind
def zQ (j:Nat) {t:TypeId} [ak P t] {e k:Nat} (hop:o.op= .load t x) (hx:yW g x=some (eqS (.pointer (some ⟨b,off,none⟩)))) (p:H[j]? =some ⟨some b,e,cs,k⟩) (h:cs[off]? =some s):OpOK P G H o g s:=
 yy GW fun I W a _ l i=>by
  have f:a.eval x=_:=i.get GB hx;obtain⟨c,n,m⟩:=YC ((l.mem _ (AE p)).some Z);obtain⟨y,hy,d,_⟩:=m off s h;refine⟨y,?_,d⟩;have:=vm (P:=P) (t:=t) (by rw [xC n];exact hy);simp [execOp,hop,f,Instr.loadAt,Instr.sureAddr,this]
def zE (j:Nat) {n:Nat} [az P t n] {e k:Nat} (hop:o.op= .load t x) (hx:yW g x=some (eqS (.pointer (some ⟨b,off,none⟩)))) (u:H[j]? =some ⟨some b,e,cs,k⟩) (q:(cs.drop off).take n=ds) (m:ds.length=n):OpOK P G H o g (zl ds):=
 yy GW fun I W a _ p l=>by
  have h:a.eval x=_:=l.get GB hx;obtain⟨c,r,f⟩:=YC ((p.mem _ (AE u)).some Z);obtain⟨xs,hx1,hx2,hx3,d⟩:=YB m (fun i s hi=>by
   rw [<-q,AR] at hi
   split at hi
   .rw [AV] at hi;exact f _ s hi
   .cases hi)
  refine⟨.agg xs.toArray,?_,xs,Z,hx3,d⟩;have:=Zx (P:=P) (t:=t) hx1 (fun j v hj=>by rw [xC r];exact hx2 j v hj);simp [execOp,hop,h,Instr.loadAt,Instr.sureAddr,this]
def zaN {k:Nat} [aj P st k off] (b p:Nat):(Instr.fieldAt st (.pointer (some ⟨b,p,none⟩)) k).run P W= .ok (.pointer (some ⟨b,p+off,none⟩)) W:=by
 obtain⟨g,f,i,c,hf,d,hi,a⟩:=aj.h (P:=P) (s:=st) (k:=k);have e:(fieldPlace ⟨b,p,none⟩ f).run P W= .ok ⟨b,p+off,none⟩ W:=by
  simp [fieldPlace,sizeOf,typeInfo,hi,a,XU,d]
 simp only [Instr.fieldAt,Sem.run_bind,run_underlying c,Result.andThen_ok,hf,Instr.sureAddr,Sem.run_pure,e]
def yC {k:Nat} [aj P st k off] (hop:o.op= .fieldAddr st x k) (hx:yW g x=some (yo cs)) (f:cs.drop off=ds):OpOK P G H o g (yo ds):=
 yy GW fun I W a _ _ e=>by
  obtain⟨b,p,d,c,hI,h⟩:=e.get GB hx;refine⟨.pointer (some ⟨b,p+off,none⟩),?_,b,p+off,Z,c,hI,fun i s hi=>?_⟩
  .simp [execOp,hop,d,zaN]
  grind
def zS {k:Nat} [aj P st k off] (hop:o.op= .fieldAddr st x k) (hx:yW g x=some (eqS (.pointer (some ⟨b,p,none⟩)))) (hq:p+off=q):OpOK P G H o g (eqS (.pointer (some ⟨b,q,none⟩))):=
 yy GW fun I W a _ _ d=>by
  have c:a.eval x=_:=d.get GB hx;refine⟨.pointer (some ⟨b,q,none⟩),?_,Z⟩;simp [execOp,hop,c,zaN,hq]
def Uz {e:Nat} [am P t e st] (b p len cap:Nat) (k:IntKind) (i:Int) (d:0<=i) (h1:i<len):
 (Instr.indexAt t (.slice (some ⟨b,p,none⟩) len cap) (.int k i)).run P W= .ok (.pointer (some ⟨b,p+i.toNat*st,none⟩)) W:=by
 obtain⟨j,c,a⟩:=am.i (P:=P) (t:=t);simp [Instr.indexAt,run_underlying (am.u),asIntOf,d,h1,sizeOf,typeInfo,c,a,XU]
def zh {e:Nat} [am P t e st] {c:Operand} {y:α} (hop:o.op= .indexAddr t x c) (hx:yW g x=some (zR st f l)) (hi:yW g c=some (ze k i)) (r:0<=i) (hy:l[i.toNat]? =some y):
 OpOK P G H o g (yo (f y)):=
 yy GW fun I W a _ _ j=>by
  obtain⟨u,cap,m,h1,s,q⟩:=j.get GB hx;have d:a.eval c= .int k i:=j.get GB hi;have h:=yJ hy;rcases q with rfl | ⟨b,p,rfl,n⟩
  .grind
  .refine⟨.pointer (some ⟨b,p+i.toNat*st,none⟩),?_,b,_,Z,n _ _ hy⟩;simp [execOp,hop,m,d,Uz b p l.length cap k i r C]
def uA {e:Nat} [am P t e st] {c:Operand} {len cap:Nat} (hop:o.op= .indexAddr t x c) (hx:yW g x=some (eqS (.slice (some ⟨b,p,none⟩) len cap))) (hi:yW g c=some (ze k i)) (j:0<=i) (h1:i<len) (hq:p+i.toNat*st=q):
 OpOK P G H o g (eqS (.pointer (some ⟨b,q,none⟩))):=
 yy GW fun I W a _ _ f=>by
  have h:a.eval x=_:=f.get GB hx;have d:a.eval c= .int k i:=f.get GB hi;refine⟨.pointer (some ⟨b,q,none⟩),?_,Z⟩;simp [execOp,hop,h,d,Uz b p len cap k i j h1,hq]
def wI {e:Nat} [am P t e st] {n:Nat} (hop:o.op= .call {callee:=.builtin .len,args:= #[x],argTypes:= #[t]}) (hx:yW g x=some (zR n f l)):OpOK P G H o g (MK l.length):=
 yy GW fun I W a _ _ c=>by
  obtain⟨d,cap,b,_⟩:=c.get Gl hx;refine⟨.int .i64 l.length,?_,Z⟩;simp [execOp,hop,resolve,invoke,builtin,Builtin.len_,run_underlying (am.u),b,goInt]
def Qs {e:Nat} [am P t e st] {d:Option Addr} {n cap:Nat} (hop:o.op= .call {callee:=.builtin .len,args:= #[x],argTypes:= #[t]}) (hx:yW g x=some (eqS (.slice d n cap))):OpOK P G H o g (MK n):=
 yy GW fun I W a _ _ c=>by
  have b:a.eval x=_:=c.get Gl hx;refine⟨.int .i64 n,?_,Z⟩;simp [execOp,hop,resolve,invoke,builtin,Builtin.len_,run_underlying (am.u),b,goInt]
def Yb {n:Int} (hop:o.op= .call {callee:=.builtin .max,args:= #[x,y],argTypes:=c}) (hx:yW g x=some (ze k m)) (hy:yW g y=some (ze k n)):OpOK P G H o g (ze k (max m n)):=
 yy GW fun I W a _ _ b=>by
  have h1:a.eval x= .int k m:=b.get Gl hx;have d:a.eval y= .int k n:=b.get Gl hy;refine⟨.int k (max m n),?_,Z⟩;have:(if n>m then n else m)=max m n:=by rw [Int.max_def];split <;> split <;> omega
  simp [execOp,hop,resolve,invoke,builtin,Builtin.max_,Builtin.max2,h1,d,this]
def VH {n:Int} (hop:o.op= .call {callee:=.builtin .min,args:= #[x,y],argTypes:=c}) (hx:yW g x=some (ze k m)) (hy:yW g y=some (ze k n)):OpOK P G H o g (ze k (min m n)):=
 yy GW fun I W a _ _ b=>by
  have h1:a.eval x= .int k m:=b.get Gl hx;have d:a.eval y= .int k n:=b.get Gl hy;refine⟨.int k (min m n),?_,Z⟩;have:(if n<m then n else m)=min m n:=by rw [Int.min_def];split <;> split <;> omega
  simp [execOp,hop,resolve,invoke,builtin,Builtin.min_,Builtin.min2,h1,d,this]
def xp {i:Nat} (hop:o.op= .extract x i) (hx:yW g x=some (yR cs)) (d:cs[i]? =some s):OpOK P G H o g s:=
 yy GW fun I W a _ _ e=>by
  obtain⟨xs,c,f⟩:=e.get GB hx;obtain⟨y,hy,b⟩:=f.get d;exact⟨y,by simp [execOp,hop,c,Instr.extract,hy],b⟩
def uk (g:Ha):List Operand->Option (List SV)
  | []=>some []
  | x::l=>match yW g x,uk g l with
    | some s,some r=>some (s::r)
    | _,_=>none
theorem vn {g:Ha} {a:Act}:∀ {l:List Operand} {cs:List SV},uk g l=some cs->(∀x∈l,∀s,yW g x=some s->s.den I (a.eval x))->dens I cs (l.map a.eval)
  | [],cs,h,_=>by simp [uk] at h;subst h;exact aq
  | x::l,cs,h,hr=>by
    simp only [uk] at h
    split at h
    . rename_i s r h1 b
      cases h
      exact yB (hr x B s h1) (vn b fun y hy=>hr y (by grind))
    grind
def lk {f:FuncId} {cap:Array Operand} (hop:o.op= .makeFunc (.func f) #[] cap) (hx:uk g cap.toList=some cs):OpOK P G H o g (wD f cs):=
 yy GW fun I W a _ _ b=>by
  have c:=vn hx fun x hx' s hs=>b x (by simp [hop,Op.operands];simpa using hx') s hs
  refine⟨.func (.func f) #[] (cap.toList.map a.eval).toArray,?_,_,Z,c⟩;have e:Array.map a.eval cap=(cap.toList.map a.eval).toArray:=by apply AW;simp
  simp [execOp,hop,Instr.makeFunc,e]
end mem
end Go.Sv
namespace Go.Sv
open Go Go.RowKit
section
variable {P:Program} {G:Imm} {H:HL} {o:Oper} {g:Ha} {s:SV}
variable {α:Type} {zs:List Value} {pl:List (Nat×Nat)} {parts:Array (Nat×Operand)} {low high mx:Option Operand} {cs:List SV} {st e lo hi m cap len i:Nat} {I:Imm} {qs:List (Nat×List SV)} {c':Array Value} {c:Option Addr} {k:Array (Nat×Value)} {x:Operand} {W:World} {t:TypeId} {f:α->List SV} {l:List α} {a:Act} {n:Value} {ps:Ha}
def zqF (m:∀ c,o.op≠ .defer c) (h:∀ I W a,Holds G I W->HoldsH H I W->reads g I o a->∃ v c e,(execOp a.eval o).run P W= .ok (.value v) (W.alloc (.cells c e))/\s.den (I.with W.heap.size c) v):OpOK P G H o g s:=by
 intro n r I W a b Q d l j k;obtain⟨v,c,e,f,i⟩:=h I W a d l j;have:=zod d (c:=c) (e:=e);exact xg m f (k v _ _ this.2 this.1 i)
def zml (I:Imm) (b:Nat) (c:Array Value):(I.with b c) b=some c:=by simp [Imm.with]
def zaP (b:Holds G I W) {c:Array Value} (d:dens I cs c.toList) (h1:KK c.toList):cellsAt (I.with W.heap.size c) W.heap.size 0 cs:=by
 refine⟨c,zml _ _ _,fun i s hi=>?_⟩;obtain⟨x,hx,a⟩:=d.get hi;exact⟨x,by grind,s.mono _ _ _ (aZ b.none_new) a,h1 x (AE hx)⟩
def jT [hf:bj s cs] (hop:o.op= .box t x) (hx:yW g x=some s):OpOK P G H o g (yo cs):=
 zqF GW fun I W a d _ c=>by
  have b:=c.get GB hx;obtain⟨e,h1⟩:=hf.h.cells b;refine⟨.pointer (some ⟨W.heap.size,0,none⟩),(a.eval x).cells,t,?_,W.heap.size,0,Z,zaP d e h1⟩;simp [execOp,hop,Instr.box,newVar,newRow]
def xB (cs:List SV) (off:Nat):List SV->List SV
 | []=>cs
 | x::xs=>xB (cs.set off x) (off+1) xs
def aJ (cs:Array Value) (off:Nat):List Value->Array Value
 | []=>cs
 | x::xs=>aJ (cs.setIfInBounds off x) (off+1) xs
def Jk (pl:List (Nat×Nat)):List SV->List (Nat×List SV)->Option (List SV)
  | cs,[]=>some cs
  | cs,(i,xs)::r=>match pl[i]? with
    | none=>none
    | some (off,size)=>match Nat.beq xs.length size&&Nat.ble (off+xs.length) cs.length with
      | true=>Jk pl (xB cs off xs) r
      | false=>none
def zfH (v:Array Value) (off:Nat) (cs:Array Value):v.zipIdx.foldl (fun cs (c,j)=>cs.setIfInBounds (off+j) c) cs=aJ cs off v.toList:=by
 have:∀ (l:List Value) (k:Nat) (cs:Array Value),(l.zipIdx k).foldl (fun cs (p:Value×Nat)=>cs.setIfInBounds (off+p.2) p.1) cs=aJ cs (off+k) l:=by
  intro l
  induction l with
  | nil=>intro k cs;rfl
  | cons x l ih=>intro k cs;simp only [List.zipIdx_cons,Au,aJ];grind
 have h:=this v.toList 0 cs;rw [At] at h
 rw [<-h,<-Array.foldl_toList];simp
def zqH {xs:List Value} (h:dens I cs xs) (k:Nat) {s:SV} {x:Value} (b:s.den I x):dens I (cs.set k s) (xs.set k x):=by
 refine⟨by simp [h.1],fun i s' a hi hx=>?_⟩;by_cases e:k=i
 .grind
 .rw [AY e] at hi hx
  exact h.2 i s' a hi hx
def zjP {xs:List Value} (h:KK xs) (k:Nat) {x:Value} (hx:x.oneCell'=true):KK (xs.set k x):=by
 intro y hy;rcases AZ hy with h1 | h1
 .exact h y h1
 grind
def Xw {ys:List SV}:∀ {zs:List Value} {cs:List SV} {c:Array Value} {off:Nat},dens I ys zs->KK zs->dens I cs c.toList->KK c.toList ->
 dens I (xB cs off ys) (aJ c off zs).toList/\KK (aJ c off zs).toList:=by
 induction ys with
 | nil=>intro zs cs c off hy _ d h1;cases dens_nil_inv hy;exact⟨d,h1⟩
 | cons y ys ih=>
  intro zs cs c off hy a d h1;obtain⟨z,e,rfl,f,b⟩:=xW hy;refine ih b (fun x hx=>a x (by simp [hx])) ?_ ?_
  . simpa using zqH d off f
  . simpa using zjP h1 off (a z B)
def WN (g:Ha):List (Nat×Operand)->Option (Ha)
  | []=>some []
  | (i,x)::l=>match yW g x,WN g l with
    | some s,some r=>some ((i,s)::r)
    | _,_=>none
theorem VI:∀ {parts:List (Nat×Operand)} {ps:Ha} {qs:List (Nat×List SV)} {cs ds:List SV} {c:Array Value},
    WN g parts=some ps->FlatL ps qs->(∀p∈parts,∀s,yW g p.2=some s->s.den I (a.eval p.2))->Jk pl cs qs=some ds->dens I cs c.toList->KK c.toList ->
    ∃c',Instr.fill (fun i=>pl[i]?) c (parts.map fun (i,x)=>(i,a.eval x))=some c'/\dens I ds c'.toList/\KK c'.toList
  | [],ps,qs,cs,ds,c,hp,hf,_,hfi,hc,h1=>by
    simp [WN] at hp;subst hp;have:qs=[]:=Aa (by have:=hf.h.1;grind)
    subst this;simp only [Jk] at hfi;cases hfi
    exact⟨c,Z,hc,h1⟩
  | (i,x)::parts,ps,qs,cs,ds,c,hp,hf,hr,hfi,hc,h1=>by
    simp only [WN] at hp
    split at hp
    . rename_i s r E n
      cases hp
      cases qs with
      | nil=>have:=hf.h.1;grind
      | cons q qs=>
        obtain⟨j,ys⟩:=q;have A:=hf.h.2 0 _ _ Z Z;simp only at A
        obtain⟨rfl,d⟩:=A;have t:FlatL r qs:=⟨by have:=hf.h.1;grind,fun k p q F hq=>hf.h.2 (k+1) p q (by assumption) (by assumption)⟩
        simp only [Jk] at hfi
        split at hfi
        . grind
        . rename_i off z o
          split at hfi
          . rename_i b
            simp only [AD] at b
            have G:=Ai b.1;have e2:=A9 b.2;have D:s.den I (a.eval x):=hr (i,x) B s E;obtain⟨e,m⟩:=d.cells D;have hsz:(a.eval x).cells.size=ys.length:=by have:=e.1;simpa using this
            have v:c.size=cs.length:=by have:=hc.1;simpa using this
            obtain⟨u,y⟩:=Xw (off:=off) e m hc h1;obtain⟨c',w,f,l⟩:=VI n t (fun p hp=>hr p (by simp [hp])) hfi u y
            refine⟨c',?_,f,l⟩;simp only [Ar,Instr.fill,o];rw [MY (by grind),zfH]
            omega
          grind
    grind
def zmm (P:Program) (t:TypeId):Option (List Value×List (Nat×Nat)):=
  match P.info? t with
  | none=>none
  | some i=>match i.zero,P.underlying t with
    | some z,some (.struct fs)=>match fs.toList.mapM fun f=>(P.info? f.type).map fun j=>(f.offset,j.size) with
      | some pl=>some (z.cells.toList,pl)
      | none=>none
    | some z,some (.array n e)=>match P.info? e with
      | some j=>some (z.cells.toList,(List.range n).map fun i=>(i*j.size,j.size))
      | none=>none
    | _,_=>none
def jl (l:List Value):Bool:=l.all Value.oneCell'
class au (P:Program) (t:TypeId) (zs:outParam (List Value)) (pl:outParam (List (Nat×Nat))):Prop where
 h:zmm P t=some (zs,pl)
 one:jl zs=true
def zjQ {a:List Field} (h:a.mapM (fun f=>(P.info? f.type).map fun j=>(f.offset,j.size))=some pl) (W:World):
 (a.mapM (m:=Sem) fun f=>do pure (f.offset,<-sizeOf f.type)).run P W= .ok pl W:=by
 induction a generalizing pl with
 | nil=>simp_all
 | cons f a ih=>
  simp only [List.mapM_cons,Option.bind_eq_bind,Option.bind_eq_some_iff] at h
  obtain⟨p,hp,r,b,d⟩:=h;cases d
  obtain⟨j,c,rfl⟩:=DB.1 hp;have h1:(sizeOf f.type).run P W= .ok j.size W:=by simp [sizeOf,typeInfo,c]
  simp_all
def bZ {p q:Nat->G3} (a:∀ i x,p i=some x->q i=some x):∀ {parts:List (Nat×Value)} {c c':Array Value},Instr.fill p c parts=some c'->Instr.fill q c parts=some c'
 | [],_,_,h=>h
 | (i,v)::r,c,c',h=>by
  simp only [Instr.fill] at h ⊢
  cases hp:p i with
  | none=>grind
  | some x=>
   obtain⟨off,b⟩:=x;rw [hp] at h;rw [a i _ hp];simp only at h ⊢
   split at h
   . grind
   . rename_i d;rw [MY d];exact bZ a h
def zof [r:au P t zs pl] {parts:Array (Nat×Value)} (h:Instr.fill (fun i=>pl[i]?) zs.toArray parts.toList=some c'):
 (Instr.build t parts).run P W= .ok (.agg c') W:=by
 have h1:=r.h;unfold zmm at h1
 split at h1
 .grind
 .rename_i i hi;split at h1
  .rename_i z s b c;split at h1
   .rename_i k d;cases h1
    have o:(s.mapM (m:=Sem) fun f=>do pure (f.offset,<-sizeOf f.type)).run P W= .ok pl.toArray W:=by
     rw [Array.mapM_eq_mapM_toList,Sem.run_map,zjQ d W];rfl
    have a:(zeroValue t).run P W= .ok z W:=by simp [zeroValue,typeInfo,hi,b]
    have hf:Instr.fill (fun x=>pl.toArray[x]?) z.cells parts.toList=some c':=by simpa using h
    simp only [Instr.build,Sem.run_bind,a,Result.andThen_ok,run_underlying c,o,hf,Sem.run_pure]
   grind
  .rename_i z n e b c;split at h1
   .rename_i j q;cases h1
    have a:(zeroValue t).run P W= .ok z W:=by simp [zeroValue,typeInfo,hi,b]
    have l:(sizeOf e).run P W= .ok j.size W:=by simp [sizeOf,typeInfo,q]
    have hf:Instr.fill (fun i=>some (i*j.size,j.size)) z.cells parts.toList=some c':=by
     refine bZ (p:=fun i=>((List.range n).map fun i=>(i*j.size,j.size))[i]?) (fun i x hx=>?_) (by omega);rw [Ba] at hx
     obtain⟨y,hy,rfl⟩:=DB.1 hx;have:=EC.1 hy;obtain⟨h1,g⟩:=this;simp at g;subst g;rfl
    simp only [Instr.build,Sem.run_bind,a,Result.andThen_ok,run_underlying c,l,hf,Sem.run_pure]
   grind
  grind
def XV (l:List Value):dens I (l.map eqS) l:=⟨B,fun i s x hi hx=>by rw [Ba,hx] at hi;cases hi;rfl⟩
def im {l:List Value} (h:jl l=true):KK l:=fun x hx=>B9.1 h x hx
def UA (b:o.op.operands=(parts.toList.map (·.2)).toArray) (d:reads g I o a):∀ p∈parts.toList,∀s,yW g p.2=some s->s.den I (a.eval p.2):=
 fun p hp s c=>d p.2 (by grind) s c
def yQ [au P t zs pl] (hop:o.op= .build t parts) (hp:WN g parts.toList=some ps) [hf:FlatL ps qs]
 (h:Jk pl (zs.map eqS) qs=some cs):OpOK P G H o g (zl cs):=
 yy GW fun I W a _ _ e=>by
  have h1:=au.one (P:=P) (t:=t);obtain⟨c',b,f,d⟩:=VI (c:=zs.toArray) hp hf (UA GB e) h (by simpa using XV zs) (by simpa using im h1);refine⟨.agg c',?_,c'.toList,B,f,d⟩;have:=zof (P:=P) (t:=t) (W:=W) (by rw [Bb];exact b);simp only [execOp,hop,Sem.run_bind,this,Result.andThen_ok,Sem.run_pure]
def yD (zs:List Value) (n:Nat):List Value:=(List.range n).map fun i=>zs.getD (i%zs.length) default
def ib (h:KK zs) (n:Nat) (b:n=0\/zs≠[]):KK (yD zs n):=by
 intro x hx;simp only [yD,Bc,AI] at hx
 obtain⟨i,hi,rfl⟩:=hx;rcases b with a | a
 .omega
 .have c:=Er.2 a;have:i%zs.length<zs.length:=Be _ c;rw [Ay,AL this];exact h _ (Bf _)
def ZD:∀ {css:List (List α)},(∀c∈css,c.length=st)->∀ {i j:Nat} {c:List α} {x:α},css[i]? =some c->c[j]? =some x->css.flatten[i*st+j]? =some x
 | [],_,i,j,c,x,hi,_=>by grind
 | d::css,h,i,j,c,x,hi,hj=>by
  have a:=h d B;cases i with
  | zero=>
   grind
  | succ i=>
   have b:c.length=st:=h c (by grind);have:=ZD (css:=css) (fun c b=>h c (by grind)) GM hj;grind
def UB (st:Nat):List (List SV)->Bool
 | []=>true
 | c::r=>Nat.beq c.length st&&UB st r
def UC:∀ {css:List (List SV)},UB st css=true->∀ c∈css,c.length=st
 | [],_,c,hc=>by grind
 | d::r,h,c,hc=>by
  simp only [UB,AD] at h
  rcases DZ.1 hc with rfl | h'
  . simp_all
  . exact UC h.2 c h'
def UD {t n:Nat} [am P t e st] [p:al P e zs] {parts:Array (Nat×Value)} (r:n*st<=16777216)
 (h:Instr.fill (fun i=>((List.range n).map fun i=>(i*st,st))[i]?) (yD zs (n*st)).toArray parts.toList=some c'):
 (Instr.buildSlice t n parts).run P W= .ok (.slice (some ⟨W.heap.size,0,none⟩) n n) (W.alloc (.cells c' e)):=by
 obtain⟨j,g,q⟩:=am.i (P:=P) (t:=t);obtain⟨i,z,hi,f,d,o⟩:=p.i;rw [g] at hi;cases hi
 have hf:Instr.fill (fun i=>some (i*st,st)) (yD zs (n*st)).toArray parts.toList=some c':=by
  refine bZ (fun i x hx=>?_) h;rw [Ba] at hx
  obtain⟨y,hy,rfl⟩:=DB.1 hx;obtain⟨h1,l⟩:=EC.1 hy;simp at l;subst l;rfl
 have m:∀ (zero:Array Value),(n*st=0\/zero=zs.toArray)->(Array.range (n*st)).map (zero[· % zero.size]!)=(yD zs (n*st)).toArray:=by
  intro zero a;apply AW;rcases a with a | a
  .simp [a,yD]
  .subst a;simp only [yD,Bb,Array.toList_range];simp
 have hsz:(sizeOf e).run P W= .ok st W:=by simp [sizeOf,typeInfo,g,q]
 have c:(zeroValue e).run P W= .ok z W:=by simp [zeroValue,typeInfo,g,f]
 by_cases a:n*st=0
 .have b:=m #[] (.inl a);simp only [Instr.buildSlice,Sem.run_bind,run_underlying (am.u),Result.andThen_ok,hsz];rw [MY C];simp only [a,if_true,Sem.run_bind,Sem.run_pure,Result.andThen_ok];rw [a] at b hf;rw [b,hf];rfl
 .have b:=m zs.toArray (.inr Z);simp only [Instr.buildSlice,Sem.run_bind,run_underlying (am.u),Result.andThen_ok,hsz];rw [MY C];simp only [a,if_false,Sem.run_bind,Sem.run_pure,Result.andThen_ok,c,d];rw [b,hf];rfl
def zy {t n:Nat} [am P t e st] [q:al P e zs] (hop:o.op= .buildSlice t n parts) (hp:WN g parts.toList=some ps) [hf:FlatL ps qs]
 (y:n*st<=16777216) (hq:qs.length=n) (d:n=0\/zs≠[]) (D:UB st (qs.map (·.2))=true)
 (F:Jk ((List.range n).map fun i=>(i*st,st)) ((yD zs (n*st)).map eqS) qs=some (qs.map (·.2)).flatten):OpOK P G H o g (zR st id (qs.map (·.2))):=
 zqF GW fun I W a A _ w=>by
  have v:st=zs.length:=by
   obtain⟨j,f,K⟩:=am.i (P:=P) (t:=t) (e:=e) (st:=st);obtain⟨i,z,hi,_,_,u⟩:=q.i;rw [f] at hi;cases hi;omega
  have h1:KK (yD zs (n*st)):=ib q.one _ (d.imp (fun h=>by grind) id);obtain⟨c',m,E,p⟩:=VI (c:=(yD zs (n*st)).toArray) hp hf (UA GB w) F (by simpa using XV (yD zs (n*st))) (by simpa using h1);refine⟨.slice (some ⟨W.heap.size,0,none⟩) n n,c',e,?_,?_⟩
  .have:=UD (P:=P) (t:=t) (W:=W) y (by rw [Bb];exact m);simp only [execOp,hop,Sem.run_bind,this,Result.andThen_ok,Sem.run_pure]
  .have b:(qs.map (·.2)).length=n:=by simpa using hq
   refine⟨some ⟨W.heap.size,0,none⟩,n,by grind,C,?_,.inr ⟨W.heap.size,0,Z,fun i x hx=>?_⟩⟩
   .rw [b];unfold yE;rcases Bm st with s | s
    .grind
    .have:=Bn n s;omega
   .obtain⟨c,l,k⟩:=zaP A E p;refine⟨c,l,fun j s' f=>?_⟩;have:=ZD (UC D) hx f;grind
def zus (e:l=[]\/∃ b o,c=some ⟨b,o,none⟩/\∀ i x,l[i]? =some x->cellsAt I b (o+i*st) (f x)) (h1:lo<=hi) (g:hi<=l.length) (j:hi<=m) (_hc:m<=cap) (d:l.length<=yE):
 (zR st f ((l.take hi).drop lo)).den I (.slice (if m=lo then c else c.map (·.add (lo*st))) (hi-lo) (m-lo)):=by
 have a:((l.take hi).drop lo).length=hi-lo:=by simp;omega
 refine⟨_,_,by rw [a],by omega,by omega,?_⟩;by_cases k:hi=lo
 .grind
 .right;rw [MY C];rcases e with rfl | ⟨b,o,rfl,h⟩
  .grind
  .refine⟨b,o+lo*st,by simp [XU],fun i x hx=>?_⟩;grind
def wQ {low high mx:Option Value} (b:(low=none/\lo=0)\/∃ k,low=some (.int k lo)) (a:(high=none/\hi=len/\mx=none)\/∃ k,high=some (.int k hi))
 (c:(mx=none/\m=cap)\/∃ k,mx=some (.int k m)) (h1:lo<=hi) (e:hi<=m) (d:m<=cap):(Instr.sliceBounds true len cap low high mx).run P W= .ok (lo,hi,m) W:=by
 rcases c with ⟨rfl,rfl⟩ | ⟨f,rfl⟩ <;> rcases b with ⟨rfl,rfl⟩ | ⟨g,rfl⟩ <;> rcases a with ⟨rfl,rfl,hx⟩ | ⟨h,rfl⟩ <;> first | cases hx | skip
 all_goals simp [Instr.sliceBounds,Instr.sliceBound,asIntOf,h1,e,d]
def n7 {t:Nat} [am P t e st] {q:Option Addr} {n:Nat} (b:o.op= .slice t x low high mx) (v:reads g I o a) (r:a.eval x= .slice q n cap)
 (d:(low=none/\lo=0)\/∃ y k,low=some y/\yW g y=some (ze k lo)) (c:(high=none/\hi=n/\mx=none)\/∃ y k,high=some y/\yW g y=some (ze k hi)) (l:(mx=none/\m=cap)\/∃ y k,mx=some y/\yW g y=some (ze k m))
 (h1:lo<=hi) (E:hi<=m) (D:m<=cap):(execOp a.eval o).run P W= .ok (.value (.slice (if m=lo then q else q.map (·.add (lo*st))) (hi-lo) (m-lo))) W:=by
 obtain⟨j,w,s⟩:=am.i (P:=P) (t:=t);have p:∀ {z:Option Operand} {n:Nat},(∀y,z=some y->y∈o.op.operands.toList)->(∃y k,z=some y/\yW g y=some (ze k n))->∃ k,z.map a.eval=some (.int k n):=fun hz ⟨y,k,e,h⟩=>⟨k,by rw [e,AM,show a.eval y= .int k _ from v.get (hz y e) h]⟩
 have A:=wQ (P:=P) (W:=W)
  (d.imp (fun⟨f,e2⟩=>⟨by rw [f];rfl,e2⟩) (p fun y e=>by simp [b,Op.operands,e])) (c.imp (fun⟨f,e2,e3⟩=>⟨by rw [f];rfl,e2,by rw [e3];rfl⟩) (p fun y e=>by simp [b,Op.operands,e])) (l.imp (fun⟨f,e2⟩=>⟨by rw [f];rfl,e2⟩) (p fun y e=>by simp [b,Op.operands,e])) h1 E D
 simp only [execOp,b,Instr.sliceAt,Instr.slice,Sem.run_bind,run_underlying (am.u),Result.andThen_ok,r,A,sizeOf,typeInfo,Sem.run_pure,run_program,w,s]
def xU {t:Nat} [am P t e st] (hop:o.op= .slice t x low high mx) (hx:yW g x=some (zR st f l))
 (c:(low=none/\lo=0)\/∃ y k,low=some y/\yW g y=some (ze k lo)) (b:(high=none/\hi=l.length/\mx=none)\/∃ y k,high=some y/\yW g y=some (ze k hi)) (j:mx=none\/∃ y k,mx=some y/\yW g y=some (ze k m)/\hi<=m/\m<=l.length)
 (h1:lo<=hi) (r:hi<=l.length):OpOK P G H o g (zR st f ((l.take hi).drop lo)):=
 yy GW fun I W a _ _ i=>by
  obtain⟨v,cap,n,s,d,q⟩:=i.get GB hx;rcases j with h | ⟨y,k,e,hy,p,u⟩
  .exact⟨_,n7 hop i n c b (.inl ⟨h,Z⟩) h1 C (Af _),zus q h1 r C (Af _) d⟩
  .exact⟨_,n7 hop i n c b (.inr ⟨y,k,e,hy⟩) h1 p C,zus q h1 r p C d⟩
def ik {t:Nat} [am P t e st] {f:Option Addr} {n:Nat} (hop:o.op= .slice t x low high mx) (hx:yW g x=some (eqS (.slice f n cap)))
 (b:(low=none/\lo=0)\/∃ y k,low=some y/\yW g y=some (ze k lo)) (a:(high=none/\hi=n/\mx=none)\/∃ y k,high=some y/\yW g y=some (ze k hi)) (d:(mx=none/\m=cap)\/∃ y k,mx=some y/\yW g y=some (ze k m))
 (h1:lo<=hi) (l:hi<=m) (j:m<=cap) (i:(if m=lo then f else f.map (·.add (lo*st)))=c):OpOK P G H o g (eqS (.slice c (hi-lo) (m-lo))):=
 yy GW fun _ _ _ _ _ h=>⟨_,n7 hop h (h.get GB hx) b a d h1 l j,by rw [i];rfl⟩
end
end Go.Sv
namespace Go.Sv
open Go Go.RowKit
section turn
variable {P:Program} {G:Imm} {E:aD} {r:Option Nat} {S:St}
variable {W W':World} {H' H pre:HL} {o:Oper} {I I':Imm}
def Sat.turn {h':HL} {F:Nat->Prop} {a:Act} {O O':Nat->Prop} (d:Sat G E r S I F a W) (j:∀ b,O b->b∈bs S.h) (f:Fram O I W O' I' W') (g:∀ b,b∈bs h'->b∈bs S.h\/W.heap.size<=b) (k:Holds G I' W') (l:HoldsH h' I' W'):
 Sat G E r {S with h:=h'} I' F a W'/\Fram (own S F) I W (own {S with h:=h'} F) I' W':=
 let ⟨h1,h2⟩:=f.stab d.e fun b c=>⟨(d.f b c).1,(d.f b c).2.1,fun h=>(d.f b c).2.2.1 (j b h)⟩
 d.move (i':=S.i) f (fun b h=>.inl (j b h)) k l h1 g fun b c=>⟨.inl c,(h2 b c).1,(h2 b c).2,fun h=>(g b h).elim (d.f b c).2.2.1 fun h=>by have:=(d.f b c).1;omega⟩
def we (h k:HL):bs (h++k)=bs h++bs k:=by simp [bs]
def VM (h:H'.Sublist H):(bs H').Sublist (bs H):=h.filterMap _
def HoldsH.less (h:H'.Sublist H) (a:HoldsH H I W):HoldsH H' I W:=⟨a.nodup.sublist (VM h),fun p hp=>a.mem p (h.subset hp)⟩
def HoldsH.frame {Hp suf:HL} (h:HoldsH (pre++Hp++suf) I W) (k:HoldsH H' I' W') (f:Fram (· ∈bs Hp) I W (· ∈bs H') I' W'):HoldsH (pre++H'++suf) I' W':=by
 have d:=h.nodup;simp only [we,Bt,Bu] at d
 obtain⟨⟨t,u,s⟩,r,n⟩:=d;have m:∀ p∈pre,p∈pre++Hp++suf:=fun p hp=>by grind
 have l:∀ p∈suf,p∈pre++Hp++suf:=fun p hp=>by grind
 have i:∀ (H:HL),(∀p∈H,p∈pre++Hp++suf)->(∀b∈bs H,b∉bs Hp)->(bs H).Nodup->HoldsH H I' W':=fun H hH hn d=>
  HoldsH.keep ⟨d,fun p hp=>h.mem p (hH p hp)⟩ f hn
 have k1:=i pre m (fun b c hb'=>s b c b hb' Z) t;have k2:=i suf l (fun b c hb'=>n b (.inr hb') b c Z) r;have j:=f.own;have q:∀ b∈bs pre,b<W.heap.size:=fun b c=>(h.lt (by simp [we,c])).1
 have o:∀ b∈bs suf,b<W.heap.size:=fun b c=>(h.lt (by simp [we,c])).1
 refine⟨?_,fun p hp=>?_⟩
 .simp only [we,Bt,Bu];refine⟨⟨t,k.nodup,fun a g b c e=>?_⟩,r,fun a g b c e=>?_⟩
  .grind
  grind
 .simp only [Bu] at hp
  rcases hp with (hp | hp) | hp
  .exact k1.mem p hp
  .exact k.mem p hp
  .exact k2.mem p hp
def OpL (P:Program) (G:Imm) (o:Oper) (g:Ha) (Hp:HL) (K:SV->HL->Prop):Prop:=
  ∀n r I W a (next:Act->World->Prop) (Q:Exit->Act->World->Prop),Holds G I W->HoldsH Hp I W->reads g I o a ->
    (∀v I' W' s H',K s H'->Fram (· ∈bs Hp) I W (· ∈bs H') I' W'->Holds G I' W'->HoldsH H' I' W'->s.den I' v->next (a.put o.dst v) W')->o.wpIn (Fr r) n P a W next Q
def aL (o:Oper) (n:Nat):Bool:=match o.dst with
 | none=>true
 | some t=>Nat.blt t n
def vL {n:Nat} (h:aL o n=true):∀ t,o.dst=some t->t<n:=by
 intro t ht;unfold aL at h;simp_all
def OpL.eff {Hp suf:HL} {K:SV->HL->Prop} (h:OpL P G o S.g Hp K) (i:S.h=pre++Hp++suf) (w:aL o S.n=true):
 ct P G E r o S (fun S'=>∃ s H',K s H'/\S'={S with h:=pre++H'++suf}.set o.dst s):=by
 intro n I F a W d Q e k;have t:HoldsH Hp I W:=by
  have:=e.h;rw [i] at this;refine⟨?_,fun p hp=>this.mem p (by grind)⟩
  have f:=this.nodup;simp only [we,Bt] at f
  exact f.1.2.1
 refine h n r I W a d Q e.m t (vT e o) fun v I' W' s H' x hf j l u=>?_;have q:=HoldsH.frame (by rw [<-i];exact e.h) l hf
 obtain⟨s1,s2⟩:=e.turn (h':=pre++H'++suf) (fun b c=>by rw [i];simp [we,c]) hf (fun b c=>by
  simp only [we,Bu] at c
  rw [i];simp only [we,Bu];rcases c with (c | c) | c
  .grind
  .exact (hf.own b c).imp (fun h=>.inl (.inr h)) id
  grind) j q
 exact k _ I' F _ W' (s1.put u (vL w)) ⟨s,H',x,Z⟩ (by rw [Xv];omega)
def ev.eff {Kx:SV->Nat×Bool->Prop} (h:ev P G E o S.g S.i Kx) (l:aL o S.n=true):ct P G E r o S (fun S'=>∃ s i',Kx s i'/\S'=({S with i:=i'}).set o.dst s):=by
 intro n I F a W d Q c k;refine h n r I F W a d Q c.m (vT c o) c.e (fun b j=>⟨(c.f b j).1,(c.f b j).2.1⟩) fun v I' F' W' s i' hk hf hm' hE hF' hv=>?_;obtain⟨s1,p⟩:=c.env hf hm' hE hF';refine k _ I' F' _ W' (s1.put hv (vL l)) ⟨s,i',hk,Z⟩ ?_;rw [Xv];omega
variable {gd:G4} {p:Bool} {o:Oper} {ops:List Oper} {K:St->Prop}
variable {i:Nat×Bool} {n b off e:Nat} {g:Ha} {t m:TypeId} {cs ds:List SV} {h:HL} {Kl:SV->HL->Prop} {x y:Operand} {d:G7} {s:SV} {zs:List Value} {q:Nat->HE} {k:HE}
def ae.one {t:Nat} (b:OpOK P G h o g s) (c:zO gd g o true) (ht:o.dst=some t) (e:Nat.blt t n=true) (a:ae P G E r gd p ops ⟨n,(t,s)::g,h,d,i⟩ K):ae P G E r gd p (o::ops) ⟨n,g,h,d,i⟩ K:=
 .ok b c (fun f h'=>by simp_all) (by simpa only [St.set,ht] using a)
def ae.no {t:Nat} (b:zO gd g o false) (ht:o.dst=some t) (c:Nat.blt t n=true) (a:ae P G E r gd p ops ⟨n,(t,eqS undef)::g,h,d,i⟩ K):ae P G E r gd p (o::ops) ⟨n,g,h,d,i⟩ K:=
 .skip b (fun e h'=>by simp_all) (by simpa only [St.set,ht] using a)
def ae.loc {pre Hp suf:HL} (hp:p=false) (b:S.h=pre++Hp++suf) (a:OpL P G o S.g Hp Kl) (c:zO gd S.g o true) (d:aL o S.n=true)
 (h:∀ s H',Kl s H'->ae P G E r gd p ops ({S with h:=pre++H'++suf}.set o.dst s) K):ae P G E r gd p (o::ops) S K:=
 .eff _ hp (a.eff b d) c fun S' ⟨s,H',f,e⟩=>by subst e;exact h s H' f
def Zo {H:HL} {j:Nat} {q:HE} (h:H[j]? =some q):H=H.take j++[q]++H.drop (j+1):=by
 have a:=yJ h;rw [Bw,List.singleton_append];have:q=H[j]:=by rw [AL a] at h;exact (BA h).symm
 simp_all
def lU {vf:Nat->Value} (t:∀ c,o.op≠ .defer c) (h:∀ I W a,Holds G I W->reads g I o a->∃ c e cs k,(execOp a.eval o).run P W= .ok (.value (vf W.heap.size)) (W.alloc (.cells c e)) /\
 q W.heap.size=⟨some W.heap.size,e,cs,k⟩/\c.size=cs.length+k/\KK (c.toList.take cs.length)/\dens I cs (c.toList.take cs.length)):
 OpL P G o g [] (fun s H'=>∃ b,s=eqS (vf b)/\H'=[q b]):=by
 intro n r I W a j Q f _ m k;obtain⟨c,e,cs,u,l,hq,hsz,h1,i⟩:=h I W a f m;obtain⟨d,hf⟩:=ZB f (.cells c e) (fun b=>b∈bs []);refine xg t l (k _ I _ _ [q W.heap.size] ⟨_,Z,Z⟩ (hf.weaken (fun _ h=>h) fun b hb=>.inl (.inr ?_)) d ⟨by simp [bs,hq],fun p hp=>?_⟩ Z)
 .simp [bs,hq] at hb;omega
 .simp at hp;subst hp;rw [hq];exact .of_some Z ⟨f.none_new,c,aM _ _,hsz,h1,i⟩
def zwU (i:∀ c,o.op≠ .defer c) (h:∀ I W a,Holds G I W->reads g I o a->∃ v c e cs k,(execOp a.eval o).run P W= .ok (.value v) (W.alloc (.cells c e))/\v= .pointer (some ⟨W.heap.size,0,none⟩) /\
 q W.heap.size=⟨some W.heap.size,e,cs,k⟩/\c.size=cs.length+k/\KK (c.toList.take cs.length)/\dens I cs (c.toList.take cs.length)):
 OpL P G o g [] (fun s H'=>∃ b,s=G9 b/\H'=[q b]):=
 lU i fun I W a f d=>let ⟨_,c,e,cs,k,h1,h2,h3⟩:=h I W a f d;⟨c,e,cs,k,h2▸h1,h3⟩
def VJ [f:al P t zs] (hop:o.op= .alloc t):OpL P G o g [] (fun s H'=>∃ b,s=G9 b/\H'=[⟨some b,t,zs.map eqS,0⟩]):=
 zwU (q:=fun b=>⟨some b,t,zs.map eqS,0⟩) GW fun I W a _ _=>by
  obtain⟨i,z,hi,e,d,h⟩:=f.i;refine⟨_,zs.toArray,t,zs.map eqS,0,?_,Z,Z,B,?_,?_⟩
  .have c:(zeroValue t).run P W= .ok z W:=by simp [zeroValue,typeInfo,hi,e]
   simp [execOp,hop,Instr.alloc,c,newVar,newRow,d]
  .rw [BC B];exact f.one
  .rw [BC B];exact XV zs
def zwV [hf:bj s cs] (hop:o.op= .box t x) (hx:yW g x=some s):OpL P G o g [] (fun s H'=>∃ b,s=G9 b/\H'=[⟨some b,t,cs,0⟩]):=
 zwU (q:=fun b=>⟨some b,t,cs,0⟩) GW fun I W a _ hr=>by
  have d:=hr.get GB hx;obtain⟨c,h1⟩:=hf.h.cells d;have e:=c.1;refine⟨_,(a.eval x).cells,t,cs,0,?_,Z,Z,by omega,?_,?_⟩
  .simp [execOp,hop,Instr.box,newVar,newRow]
  .grind
  grind
class ai (P:Program) (t:TypeId) (n:outParam Nat):Prop where
 i:∃ i,P.info? t=some i/\i.size=n
def xJ (cs:List SV) (off:Nat) (ds:List SV):(xB cs off ds).length=cs.length:=by
 induction ds generalizing cs off with
 | nil=>rfl
 | cons d ds ih=>simp only [xB];grind
theorem uS (c:Array Value) (off:Nat) (vs:List Value) (h:off+vs.length<=c.size):(aJ c off vs).toList=c.toList.take off++vs++c.toList.drop (off+vs.length):=by
 induction vs generalizing c off with
 | nil=>simp [aJ]
 | cons v vs ih=>
  simp only [aJ];simp only [Ap] at h
  rw [ih _ _ GV];have:=list_seg_step c.toList off v vs GV;grind
def VK (c:Array Value) (off:Nat) (vs:List Value):(aJ c off vs).size=c.size:=by
 induction vs generalizing c off with
 | nil=>rfl
 | cons v vs ih=>simp only [aJ];grind
theorem Zg (c:Array Value) (off:Nat) (vs:List Value) (n:Nat) (h:off+vs.length<=n) (a:n<=c.size):(aJ c off vs).toList.take n=(aJ (c.toList.take n).toArray off vs).toList:=by
 rw [uS _ _ _ (by omega),uS _ _ _ GV];simp only [List.take_append,BF,BG,BH,Aw];rw [(C:min n off=off),(C:min off n=off),(C:min off c.size=off)];rw [BC (l:=vs) (by omega)];congr 1;rw [BI]
def lQ {k:Nat} (M:∀ c,o.op≠ .defer c) (j:off+ds.length<=cs.length)
 (h:∀ I W a c,reads g I o a->W.heap[b]? =some (.cells c e (0,0))->c.size=cs.length+k->dens I cs (c.toList.take cs.length)->KK (c.toList.take cs.length)->∃ x v d,dens I ds d/\KK d/\s.den I v/\(x= .value v\/x= .skip/\v=undef)/\(execOp a.eval o).run P W= .ok x (W.setRow b (aJ c off d))):
 OpL P G o g [⟨some b,e,cs,k⟩] (fun s' H'=>s'=s/\H'=[⟨some b,e,xB cs off ds,k⟩]):=by
 intro n r I W a w Q K L H E;obtain⟨z,c,A,f,y,m⟩:=(L.mem ⟨some b,e,cs,k⟩ B).some Z;obtain⟨x,v,d,D,d2,F,hx,i⟩:=h I W a c H A f m y;obtain⟨t,u⟩:=uz (W':=W.setRow b (aJ c off d)) K z Z Z Z B (fun k l=>setRow_other _ _ _ _ l);have q:=Xw (off:=off) D d2 (c:=(c.toList.take cs.length).toArray) (by simpa using m) (by omega);rw [<-Zg _ _ _ _ (by rw [D.1];omega) (by grind)] at q
 have l:=E v I _ _ _ ⟨Z,Z⟩ (u.weaken Gu fun k l=>.inl (by simpa [bs] using l)) t ⟨by simp [bs],fun p hp=>by
  rw [AS.1 hp]
  exact .of_some Z ⟨z,_,setRow_heap _ _ _ _ _ _ A,by rw [VK,xJ];omega,by rw [xJ];grind,by rw [xJ];grind⟩⟩ F
 rcases hx with rfl | ⟨rfl,rfl⟩ <;> exact xg M i l
theorem xf [hsz:ai P t m] {k:Nat} [hf:bj s ds] (hop:o.op= .store t x y) (hx:yW g x=some (eqS (.pointer (some ⟨b,off,none⟩)))) (hy:yW g y=some s) (z:ds.length=m) (d:off+ds.length<=cs.length):
 OpL P G o g [⟨some b,e,cs,k⟩] (fun s H'=>s=eqS undef/\H'=[⟨some b,e,xB cs off ds,k⟩]):=
 lQ GW d fun I W a c j v u r w=>by
  have p:a.eval x=_:=j.get GB hx;obtain⟨l,h1⟩:=hf.h.cells (j.get GB hy);obtain⟨i,hi,q⟩:=hsz.i;have f:=l.1;have n:=run_storeCells_at P b off e (a.eval y).cells.toList 0 c W v C h1;rw [At,<-uS c off _ C] at n
  have:(a.eval y).cells.size=i.size:=by simp at f;omega
  exact⟨.skip,_,_,l,h1,Z,.inr ⟨Z,Z⟩,by
   simp only [execOp,hop,Instr.storeAt,p,Instr.sureAddr,Sem.run_bind,Sem.run_pure,storeVar,sizeOf,typeInfo,run_program,Result.andThen_ok,hi,this,ne_eq,not_true_eq_false,if_false,n]⟩
def wE:HL->Nat->HL->HL
 | [],_,_=>[]
 | _::h,0,k=>cat k h
 | q::h,j+1,k=>q::wE h j k
 where cat:HL->HL->HL
 | [],h=>h
 | q::k,h=>q::cat k h
def mV (k h:HL):wE.cat k h=k++h:=by
 induction k with
 | nil=>rfl
 | cons q k ih=>simp only [wE.cat,ih];rfl
def ul {H:HL} {j:Nat} {q:HE} (h:H[j]? =some q) (k:HL):wE H j k=H.take j++k++H.drop (j+1):=by
 induction H generalizing j with
 | nil=>grind
 | cons p H ih=>cases j with
  | zero=>simp [wE,mV]
  | succ j=>simp only [wE];grind
def ae.loc1 (j:Nat) {t:Nat} {q:HE} (hp:p=false) (a:h[j]? =some q) (c:OpL P G o g [q] Kl) (f:zO gd g o true) (ht:o.dst=some t) (hd:Nat.blt t n=true)
 (b:∀ s H',Kl s H'->ae P G E r gd p ops ⟨n,(t,s)::g,wE h j H',d,i⟩ K):ae P G E r gd p (o::ops) ⟨n,g,h,d,i⟩ K:=
 .loc (S:=⟨n,g,h,d,i⟩) hp (Zo a) c f Gf fun s H' e=>by
  have:=b s H' e;rw [ul a] at this
  simpa only [St.set,ht] using this
def ae.loc0 {t:Nat} (hp:p=false) (b:OpL P G o g [] Kl) (e:zO gd g o true) (ht:o.dst=some t) (hd:Nat.blt t n=true)
 (a:∀ s H',Kl s H'->ae P G E r gd p ops ⟨n,(t,s)::g,wE.cat H' h,d,i⟩ K):ae P G E r gd p (o::ops) ⟨n,g,h,d,i⟩ K:=
 .loc (S:=⟨n,g,h,d,i⟩) (pre:=[]) (Hp:=[]) (suf:=h) hp Z b e Gf fun s H' c=>by
  have:=a s H' c;rw [mV] at this
  simpa only [St.set,ht,BJ] using this
def ae.store (j:Nat) [ai P t m] {k:Nat} [bj s ds] (hp:p=false) (c:o.op= .store t x y) (hx:yW g x=some (eqS (.pointer (some ⟨b,off,none⟩)))) (hy:yW g y=some s)
 (q:h[j]? =some ⟨some b,e,cs,k⟩) (u:ds.length=m) (a:Nat.ble (off+ds.length) cs.length=true) (l:o.dst=none) (v:zO gd g o true)
 (f:ae P G E r gd p ops ⟨n,g,wE h j [⟨some b,e,xB cs off ds,k⟩],d,i⟩ K):ae P G E r gd p (o::ops) ⟨n,g,h,d,i⟩ K:=
 .loc (S:=⟨n,g,h,d,i⟩) hp (Zo q) (xf c hx hy u (A9 a)) v (by simp [aL,l]) fun s H' ⟨_,e2⟩=>by
  subst e2;rw [l];rw [ul q] at f;exact f
def ae.alloc {c:Nat} [al P t zs] (hp:p=false) (a:o.op= .alloc t) (f:zO gd g o true) (ht:o.dst=some c) (j:Nat.blt c n=true)
 (e:∀ b,ae P G E r gd p ops ⟨n,(c,G9 b)::g,⟨some b,t,zs.map eqS,0⟩::h,d,i⟩ K):ae P G E r gd p (o::ops) ⟨n,g,h,d,i⟩ K:=
 .loc0 hp (VJ (t:=t) (zs:=zs) a) f ht j fun s H' ⟨b,k,e2⟩=>by subst k;subst e2;exact e b
def ae.box {c:Nat} [bj s cs] (hp:p=false) (a:o.op= .box t x) (hx:yW g x=some s) (f:zO gd g o true) (ht:o.dst=some c) (j:Nat.blt c n=true)
 (e:∀ b,ae P G E r gd p ops ⟨n,(c,G9 b)::g,⟨some b,t,cs,0⟩::h,d,i⟩ K):ae P G E r gd p (o::ops) ⟨n,g,h,d,i⟩ K:=
 .loc0 hp (zwV a hx) f ht j fun s H' ⟨b,k,e2⟩=>by subst k;subst e2;exact e b
end turn
end Go.Sv
