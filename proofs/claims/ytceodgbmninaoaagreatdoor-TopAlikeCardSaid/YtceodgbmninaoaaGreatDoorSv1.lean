/- A drawn region with several effects: the general rule. -/
import Derived.Test.YtceodgbmninaoaaGreatDoorSvw
import Derived.Test.YtceodgbmninaoaaGreatDoorSvi
import Derived.ProofKit
import Derived.LaidMore
import Derived.OpenShut
import Derived.Stop.Joined
import Derived.Carry
import Derived.Handed
import Derived.Deep.Slices
set_option linter.all false
namespace Go.Sv
open Go Go.RowKit
section
variable {P:Program} {G:Imm} {E:aD} {r:Option Nat} {S:St}
def Wb {g:Ha} {t:Nat} {s s':SV} {y:Operand} (hy:y≠ .tmp t) (h:yW g y=some s):yW ((t,s')::g) y=some s:=by
 cases y with
 | tmp u=>
  simp only [yW,look] at h ⊢
  have:Nat.beq u t=false:=by
   cases hb:Nat.beq u t with
   | false=>rfl
   | true=>simp_all
  grind
 | const v=>exact h
 | global b=>exact h
 | func f=>exact h
end
section
variable {P:Program} {G:Imm} {E:aD} {r:Option Nat} {S:St} {H:HL} {o:Oper} {g:Ha}
variable {cs:List SV} {xs:List Value} {I:Imm}
def dens.drop (h:dens I cs xs) (n:Nat):dens I (cs.drop n) (xs.drop n):=
 ⟨by simp [h.1],fun i s x hi hx=>by rw [AV] at hi hx;exact h.2 _ s x hi hx⟩
def dens.take (h:dens I cs xs) (n:Nat):dens I (cs.take n) (xs.take n):=
 ⟨by simp [h.1],fun i s x hi hx=>by
  rw [AR] at hi hx
  split at hi
  .rename_i a;rw [MX a] at hx;exact h.2 _ s x hi hx
  grind⟩
def Ks {st ft n k:Nat} {j:Array Field} {f:Field} {x:Operand} {ds:List SV} [az P ft n] (m:P.underlying st=some (.struct j)) (hf:j[k]? =some f) (c:f.type=ft) (hop:o.op= .field st x k) (hx:yW g x=some (zl cs)) (q:(cs.drop f.offset).take n=ds) (_:ds.length=n):OpOK P G H o g (zl ds):=
 yy GW fun I W a _ _ p=>by
  obtain⟨xs,l,b,h1⟩:=p.get GB hx;obtain⟨d,e,v⟩:=az.h (P:=P) (t:=ft);obtain⟨i,hi,hin⟩:=az.i (P:=P) (t:=ft);have u:(isAgg ft).run P W= .ok true W:=by
   unfold isAgg;simp only [Sem.run_bind,run_underlying e,Result.andThen_ok];cases d <;> simp_all
  have s:(sizeOf ft).run P W= .ok n W:=by simp [sizeOf,typeInfo,hi,hin]
  refine⟨.agg ((xs.drop f.offset).take n).toArray,?_,_,Z,by rw [<-q];exact (b.drop _).take _,fun y hy=>h1 y (BU (BT hy))⟩;have r:xs.toArray.extract f.offset (f.offset+n)=((xs.drop f.offset).take n).toArray:=by
   simp [List.take_drop]
  simp only [execOp,hop,l,Instr.field,Sem.run_bind,run_underlying m,Result.andThen_ok,hf,asAgg,Sem.run_pure,part,c,u,s,r,if_true]
end
class gq (s:SV):Prop where
 h:∀ I J v,s.den I v->s.den J v
instance {x:Value}:gq (eqS x):=⟨fun _ _ _ h=>h⟩
section
variable {P:Program} {G:Imm} {E:aD} {r:Option Nat} {S:St} {gd:G4} {p:Bool} {o:Oper} {ops:List Oper} {K:St->Prop} {H:HL} {g:Ha}
def zuH (j:Nat) {b e k:Nat} {cs:List SV} {xs:Array Operand} {R:Array TypeId} {f:FuncId} {args args':List SV} {s:SV} [D:gq s] (hop:o.op= .call {callee:=.value (.func f),args:=xs,argTypes:=R})
 (hH:H[j]? =some ⟨some b,e,cs,k⟩) (Y:uk g xs.toList=some args') (M:zm P G f args s) (t:∀ I vs,cellsAt I b 0 cs->dens I args' vs->dens I args vs):OpOK P G H o g s:=by
 intro n r I W a L Qx E X U S;obtain⟨vs,u,K⟩:=io (W:=W) hop (FV:a.eval (.func f)= .func (.func f) #[] #[]) Y M.enters U;obtain⟨z,c,Q,g3,O,N⟩:=(X.mem _ (AE hH)).some Z;simp only at Q g3 O N;have p:=aZ (c:=c) z
 have hJ:Holds G (I.with b c) W:=⟨Imm.le_trans E.glob p,fun k d m=>by
  unfold Imm.with at m
  split at m
  .grind
  .exact E.mem _ _ m⟩
 have q:cellsAt (I.with b c) b 0 cs:=⟨c,by simp [Imm.with],fun i s hi=>by
  obtain⟨x,hx,K⟩:=N.get hi;have F:=yJ hi;refine⟨x,?_,s.mono _ _ _ p K,O x (AE hx)⟩;grind⟩
 refine xg GW u ⟨fun h=>by simp [Fr,Fence.wide] at h,ut r ((M.main (I.with b c) W _ hJ ⟨by simp [bs],B⟩ (t _ _ q (by simpa using K.mono p))).mono ?_)⟩;rintro ed W' ⟨v,J',s',H',rfl,⟨rfl,rfl⟩,A,w,_,hf⟩;refine S v (fun k=>if k=b then none else J' k) W' ?_ ?_ (D.h _ _ _ A)
 .refine⟨hf.os,hf.tape,hf.output,fun k d m=>?_,hf.size,fun k m _=>hf.old k m (by simp [bs]),fun k m hk'=>?_,fun k m=>m.elim⟩
  .have l:k≠b:=fun y=>by grind
   simp only [l,if_false];exact hf.imm _ _ (p _ _ m)
  .by_cases l:k=b
   .grind
   .simp only [l,if_false] at hk'
    have:=hf.new k (by simp only [Imm.with,l,if_false];exact m) hk';simp [bs] at this;omega
 .refine⟨fun k d m=>?_,fun k d m=>?_⟩
  .have l:k≠b:=fun y=>by subst y;rw [E.glob _ _ m] at z;cases z
   simp only [l,if_false];exact w.glob _ _ m
  .by_cases l:k=b
   .grind
   .simp only [l,if_false] at m
    exact w.mem _ _ m
end
section
variable {P:Program} {G:Imm} {E:aD} {r:Option Nat} {S:St}
variable {α β:Type} {l:List Oper} {y:Code} {id:Nat} {S':St} {Q:Hb}
def aF.trans {S S'':St} (h:aF G E r S S') (k:aF G E r S' S''):aF G E r S S'':=fun I F a W b=>
 let ⟨I1,s1,f1⟩:=h I F a W b;let ⟨I2,s2,f2⟩:=k I1 F a W s1;⟨I2,s2,f1.trans f2⟩
def aF.refl {S:St}:aF G E r S S:=fun I _ _ _ a=>⟨I,a,Fram.refl _ _ _⟩
def iK [bi P] {J:α->β->St} (h:TA P G E r l S fun e S'=>e= .normal/\∃ a b,aF G E r S' (J a b)) (hy:∀ a b,T P G E r y (J a b) Q):T P G E r (.seq (.region id l.toArray true) y) S Q:=
 zi (VE h.T fun e S' ⟨d,a,b,c⟩=>by subst d;exact zH c (hy a b))
def zAs [bi P] {γ:Type} {J:α->β->γ->St} (h:TA P G E r l S fun e S'=>e= .normal/\∃ a b c,aF G E r S' (J a b c)) (hy:∀ a b c,T P G E r y (J a b c) Q):T P G E r (.seq (.region id l.toArray true) y) S Q:=
 zi (VE h.T fun e S' ⟨f,a,b,c,d⟩=>by subst f;exact zH d (hy a b c))
section
variable {gd:G4} {n:Nat} {g:Ha} {h Hc:HL} {o:Oper} {ix:Nat×Bool} {C:Ha->HL->Nat×Bool->Prop}
variable {zs:List Value} {t e c st m:Nat} {x y:Operand}
def ar.alloc [al P t zs] (a:o.op= .alloc t) (e:zO gd g o true) (ht:o.dst=some c) (f:Nat.blt c n=true) (d:∀ b,Hc.Sublist (⟨some b,t,zs.map eqS,0⟩::h)/\C ((c,G9 b)::g) (⟨some b,t,zs.map eqS,0⟩::h) ix):ar P G E gd n Hc o g h ix C:=
 .loc0 (VJ a) e ht f fun s H' ⟨b,i,e2⟩=>by subst i;subst e2;exact d b
def ar.buildRow {f:Nat} [am P t e st] [al P e zs] {parts:Array (Nat×Operand)} {ps:Ha} {qs:List (Nat×List SV)} (c:o.op= .buildSlice t m parts) (a:WN g parts.toList=some ps) [FlatL ps qs]
 (k:m*st<=16777216) (hq:qs.length=m) (d:m=0\/zs≠[]) (l:UB st (qs.map (·.2))=true) (r:Jk ((List.range m).map fun i=>(i*st,st)) ((yD zs (m*st)).map eqS) qs=some (qs.map (·.2)).flatten) (p:zO gd g o true) (ht:o.dst=some f) (q:Nat.blt f n=true)
 (j:∀ b,Hc.Sublist (rowE (some (b,m)) e st m (qs.map (·.2)).flatten::h)/\C ((f,eqS (rowV (some (b,m)) m))::g) (rowE (some (b,m)) e st m (qs.map (·.2)).flatten::h) ix):ar P G E gd n Hc o g h ix C:=
 .loc0 (Jz c a k hq d l r) p ht q fun s H' ⟨b,_,u,e2⟩=>by subst u;subst e2;exact j b
def ar.make {i a:Nat} [am P t e st] [av P e zs a] {k j:IntKind} (d:o.op= .makeSlice t x y) (hx:yW g x=some (ze k m)) (hy:yW g y=some (ze j c)) (f:m<=c) (u:a*c<=281474976710656) (r:c<=yE) (p:zO gd g o true) (ht:o.dst=some i) (q:Nat.blt i n=true)
 (l:∀ b,Hc.Sublist (rowE (some (b,c)) e st m ((yD zs (m*st)).map eqS)::h)/\C ((i,eqS (rowV (some (b,c)) m))::g) (rowE (some (b,c)) e st m ((yD zs (m*st)).map eqS)::h) ix):ar P G E gd n Hc o g h ix C:=
 .loc0 (zjS d hx hy f u r) p ht q fun s H' ⟨b,_,v,e2⟩=>by subst v;subst e2;exact l b
def ar.store (j:Nat) {t m:TypeId} [ai P t m] {b off k:Nat} {cs ds:List SV} {s:SV} [bj s ds] (c:o.op= .store t x y) (hx:yW g x=some (eqS (.pointer (some ⟨b,off,none⟩)))) (hy:yW g y=some s)
 (r:h[j]? =some ⟨some b,e,cs,k⟩) (i:ds.length=m) (a:Nat.ble (off+ds.length) cs.length=true) (l:zO gd g o true) (p:o.dst=none) (q:Hc.Sublist (wE h j [⟨some b,e,xB cs off ds,k⟩]))
 (f:C g (wE h j [⟨some b,e,xB cs off ds,k⟩]) ix):ar P G E gd n Hc o g h ix C:=
 .loc1n j (xf c hx hy i (A9 a)) r l p fun s' H' ⟨_,d⟩=>by grind
end
variable {l:List Oper} {i:Nat×Bool} {n id:Nat} {g:Ha} {h:HL} {d:G7} {Q:Hb} {e f:Oper} {y:Code}
def zmw (l:List Oper) (N:Nat):Bool:=XB l (N+2) [N,N+1]
structure bh (P:Program) (G:Imm) (E:aD) (r:Option Nat) (gd:G4) (n:Nat) (h:HL) (d:G7) (ix:Nat×Bool) (oA oB:Oper) (rest:List Oper) (g:Ha) (K:St->Prop):Prop where
  e:∃ t m zs da x y s ds,al P t zs/\ai P t m/\bj s ds/\oA.op= .alloc t/\oA.dst=some da/\oA.guard=none/\Nat.blt da n=true/\oB.op= .store t x y/\oB.dst=none/\oB.guard=none/\x= .tmp da/\y≠ .tmp da/\yW g y=some s/\ds.length=m/\zs.length=ds.length /\
    ∀b,ae P G E r gd false rest ⟨n,(da,G9 b)::g,⟨some b,t,xB (zs.map eqS) 0 ds,0⟩::h,d,ix⟩ K
def zrb (N:Nat) (k:zmw l N=true) (q:l[N]? =some f) (p:l[N+1]? =some e)
 (F:ab P G (xX l) n h h (fun _=>false) 0 (l.take N) g (fun g'=>bh P G E r (xX l) n h d i f e (l.drop (N+2)) g' (fun S'=>Q .normal S'))):TA P G E r l ⟨n,g,h,d,i⟩ Q:=by
 obtain⟨sv,⟨t,m,zs,M,x,y,s,ds,L,hsz,u,c,D,A,v,a,z,w,rfl,j,hy,H,hzl,I⟩,K⟩:=F;refine Kt (N+2) [N,N+1] h k (Dd _) ⟨sv,⟨f,q,.loc0 (VJ c) (by simp [zO,A]) D v ?_⟩,fun i o hi=>(K i o hi).imp (fun h=>M1 h.2 B) fun h=>h⟩;rintro s1 H1 ⟨b,rfl,rfl⟩;refine⟨B5 _ _,?_⟩;show ab _ _ _ _ _ _ _ _ ((l.take (N+1)).drop (N+1)) _ _;rw [BI,Az,Di];refine .nil ⟨e,p,.loc1n 0 (xf (off:=0) a (by simp [yW,look]) (Wb j hy) H Gb) Z (by simp [zO,w]) z ?_⟩;rintro s2 H2 ⟨_,rfl⟩;exact⟨B5 _ _,.nil (I b)⟩
def aI {o:G4} {l:Nat×Bool} {c:Oper} {rest:List Oper} {K:St->Prop} {t m:TypeId} {zs:List Value} {a:Nat} {x y:Operand} {s:SV} {ds:List SV} [al P t zs] [ai P t m] [bj s ds] (h1:e.op= .alloc t) (D:e.dst=some a) (A:e.guard=none) (z:Nat.blt a n=true) (w:c.op= .store t x y) (v:c.dst=none) (u:c.guard=none) (q:x= .tmp a) (p:y≠ .tmp a) (k:yW g y=some s) (j:ds.length=m) (i:zs.length=ds.length)
 (f:∀ b,ae P G E r o false rest ⟨n,(a,G9 b)::g,⟨some b,t,xB (zs.map eqS) 0 ds,0⟩::h,d,l⟩ K):bh P G E r o n h d l e c rest g K:=
 ⟨⟨t,m,zs,a,x,y,s,ds,inferInstance,inferInstance,inferInstance,h1,D,A,z,w,v,u,q,p,k,j,i,f⟩⟩
def Zq [bi P] (N:Nat) (a:zmw l N=true) (c:l[N]? =some f) (b:l[N+1]? =some e)
 (j:ab P G (xX l) n h h (fun _=>false) 0 (l.take N) g (fun g'=>bh P G E r (xX l) n h d i f e (l.drop (N+2)) g' (fun S'=>T P G E r y S' Q))):T P G E r (.seq (.region id l.toArray true) y) ⟨n,g,h,d,i⟩ Q:=
 zi (zrb N a c b j).T
def vA [bi P] (M:Nat) (Ns:G7) (Hc:HL) (a:XB l M Ns=true) (b:Hc.Sublist h)
 (c:de P G E r l n d M (fun S'=>Q .normal S') Ns 0 Hc g h i):T P G E r (.region id l.toArray true) ⟨n,g,h,d,i⟩ Q:=(Kt M Ns Hc a b c).T
def xv [bi P] (M:Nat) (Ns:G7) (Hc:HL) (a:XB l M Ns=true) (b:Hc.Sublist h)
 (c:de P G E r l n d M (fun S'=>T P G E r y S' Q) Ns 0 Hc g h i):T P G E r (.seq (.region id l.toArray true) y) ⟨n,g,h,d,i⟩ Q:=
 zi (Kt M Ns Hc a b c).T
def qS [bi P] (p:G7) (M:Nat) (Ns:G7) (Hc:HL) (hp:JC p l=true) (a:XB (xQ p l) M Ns=true) (b:Hc.Sublist h)
 (c:de P G E r (xQ p l) n d M (fun S'=>T P G E r y S' Q) Ns 0 Hc g h i):T P G E r (.seq (.region id l.toArray true) y) ⟨n,g,h,d,i⟩ Q:=
 zi (dQ p hp (Kt M Ns Hc a b c)).T
end
section
def FH {P:Program} {G:Imm} {E:aD} {i:G4} {n:Nat} {g:Ha} {h Hc:HL} {o:Oper} {d:Nat×Bool} {D:Ha->HL->Nat×Bool->Prop} (j:Nat) {b t e st a m:Nat} {zs:List Value} [am P t e st] [av P e zs a] {x y:Operand} {q:G3} {cs:List SV} {α:Type} {f:α->List SV} {l:List α} (c:o.op=.call {callee:=.builtin .append,args:= #[x,y],argTypes:= #[t,t]}) (hx:yW g x=some (eqS (rowV q m))) (hy:yW g y=some (zR st f l)) (w:h[j]? =some (rowE q e st m cs)) (hq:zX q m) (r:cs.length=m*st) (k:∀q,zX q (m+l.length)->Hc.Sublist (wE h j [rowE q e st (m+l.length) (cs++l.flatMap f)])/\D ((b,eqS (rowV q (m+l.length)))::g) (wE h j [rowE q e st (m+l.length) (cs++l.flatMap f)]) d) (s:zO i g o true:=by first | exact Z | exact gB Z Z Z Z) (ht:o.dst=some b:=by exact Z) (u:Nat.blt b n=true:=by exact Z) (hf:∀z∈l,(f z).length=st:=by first | exact fun _ _=>rfl | (intro z hz;rw [AS.1 hz];rfl) | exact yZ) (v:(m+l.length)*a<=yE:=by unfold yE;first | omega | (simp;omega)) (p:m+l.length<=yE:=by unfold yE;first | omega | (simp;omega)):ar P G E i n Hc o g h d D:=ar.append j c hx hy w s ht u hq r hf v p k
end
open Go.ChangeShapes Go.WideShapes Go.Deep
def Wy (W:World):Imm:=fun b=>match W.heap[b]? with | some (.cells c _ _)=>some c | _=>none
def zhP (W:World):Holds (Wy W) (Wy W) W:=by
 refine⟨Imm.le_refl _,fun b c h=>?_⟩;unfold Wy at h
 grind
def zeB {P:Program} {W:World} {n:String} {g:Nat} {cs:Array Value} (a:P.globalNamed n=some g) (h:W.var? P n=some cs):Wy W g=some cs:=by
 simp only [World.var?,a,Am] at h
 assumption
section
variable {H:Type} {enc:TypeId×Value->H} {P:Program} {W:World} {base:Nat} {spare:Nat->Bool} {held:Bool}
abbrev zwZ (P:Program) (t:TypeId) (d:DataW H):Prop:=(d.weights P t).all (· <=reachBytes)=true
end
section
variable {H:Type} {enc:TypeId×Value->H} {P:Program}
variable {ds:List (DataW H)} {ps:List MemPlace} {t:TypeId} {W W':World} {b:Bool}
def zcv {e:TypeId} {k:IntKind} {n c d:Nat} {a:Nat->Bool} {cs:List Value} {zs:List Int} (ht:P.underlying t=some (.array n e)) (q:P.underlying e=some (.int k)) (r:P.cellsOf e=1) (v:P.cellsOf t=n) (u:zs.length=n)
 (h:DataW.trod enc P W d a b c t cs=some (.agg (zs.map fun z=>.lit (.int k z)),ps)):cs=zs.map (.int k ·):=by
 obtain⟨xs,m,rfl,hx,l,p,f⟩:=DataW.trod_array ht h;simp only [Prod.mk.injEq,DataW.agg.injEq] at hx
 refine Dj GV fun i h1 w=>?_;have hi:i<n:=C;have o:=f i hi;rw [r,Cr,AL C] at o
 obtain⟨z,s,e2,_⟩:=DataW.trod_int q o;have j:(zs.map fun z=>(DataW.lit (.int k z):DataW H))[i]? =(xs.map (·.1))[i]? :=by rw [hx.1]
 rw [Ba,Ba,AL C,AL C] at j;simp only [AM,Dk,e2,DataW.lit.injEq,Lit.int.injEq,true_and] at j;have g:(cs.drop i)[0]? =some (.int k z):=by
  have:((cs.drop i).take 1)[0]? =some (.int k z):=by rw [s];rfl
  exact Le
 grind
def Jo (c:laidOutB P=true) (e:Below W.heap.size W W'):∀ {a:List TypeId} {vs:List Value} {ds:List (DataW H)} {ps:List MemPlace},(∀t∈a,P.readableRec t=true/\t<P.types.size) ->
 DataW.TrodAll enc P W 0 (fun _=>true) true a vs ds ps->(∀x∈ps,x.block<W.heap.size)->DataW.TrodAll enc P W' 0 (fun b=>decide (b<W.heap.size)) true a vs ds ps
 | [],_,_,_,_,h,_=>by
  obtain⟨rfl,rfl,rfl⟩:=trodAll_nil h;rfl
 | t::a,_,_,_,hr,h,hlt=>by
  obtain⟨v,vs,d,ds,p,q,rfl,rfl,rfl,h1,f⟩:=trodAll_cons h;exact trodAll_cons_mk (Below.trod c (hr t B).1 (hr t B).2 h1 e fun x hx=>hlt x (by grind)) (Jo c e (fun t ht=>hr t (by grind)) f fun x hx=>hlt x (by grind))
def zoJ {f:Func} {s:ChangeSpec} {args:Array Value} {a:List MemPlace} {i:TypeId} (m:laidOutB P=true) (e:f.resultTypes= #[i]) (g:P.underlying i=some .bool) (c:s.vars=[])
 (l:∀ t∈f.params.toList,P.readableRec t=true/\t<P.types.size) (d:s.fn H ds={results:=[.lit (.bool b)],args:=ds})
 (k:DataW.Whole enc P f.params.toList s.vars false W args.toList ds [] a) (n:DataW.TrodAll enc P W 0 (fun _=>true) true f.params.toList args.toList ds a) (j:Below W.heap.size W W'):
 s.post enc P f false true false false W args (.bool b) W':=by
 refine⟨ds,[],a,[],a,[],k,?_,?_,?_,Below.frame j _,fun h=>by cases h⟩
 .rw [e,BV,d];exact trodAll_mk1 (shut_bool g b)
 .rw [BV,d];exact Jo m j l n fun x hx=>by simpa using k.lt x hx
 .rw [c,BV,d];rfl
def qT {a:List TypeId} {d:DataW H} (h:(DataW.weightsEach P (t::a) (d::ds)).all (· <=reachBytes)=true):zwZ P t d/\(DataW.weightsEach P a ds).all (· <=reachBytes)=true:=by
 rw [DataW.weightsEach,Dl,AD] at h
 exact h
def Wz (enc:TypeId×Value->H) (P:Program) (W:World) (Q:List SV->Prop):List TypeId->List SV->Prop
 | [],ss=>Q ss.reverse
 | t::ts,ss=>∀ (b0:Nat) (v:Value) (d:DataW H) (ps:List MemPlace),Value.okWide P W .any b0 t v->DataW.Trod enc P W 0 (fun _=>true) true t v d ps->zwZ P t d->∃ s:SV,s.den (Wy W) v/\Wz enc P W Q ts (s::ss)
section
variable {W:World} {Q:List SV->Prop} {t:TypeId} {ts:List TypeId} {ss:List SV}
def zhQ (h:Q ss.reverse):Wz enc P W Q [] ss:=h
end
variable {s:ChangeSpec} {k:Checked} {f:FuncId} {tb:TypeId} {W:World} {fn:Func} {e:Nat}
def zaV {Q:List SV->Prop}:∀ {f:List TypeId} {vs:List Value} {ds:List (DataW H)} {ps:List MemPlace} {c:List SV},Wz enc P W Q f c->DataW.TrodAll enc P W 0 (fun _=>true) true f vs ds ps ->
 (∀(j:Nat) t v,f[j]? =some t->vs[j]? =some v->Value.okWide P W .any e t v)->(DataW.weightsEach P f ds).all (· <=reachBytes)=true->ds.length=f.length/\∃ i,dens (Wy W) i vs/\Q (c.reverse++i)
 | [],_,_,_,c,ho,h,_,_=>by
  obtain⟨rfl,rfl,rfl⟩:=trodAll_nil h;exact⟨Z,[],aq,by simpa [Wz] using ho⟩
 | t::f,_,_,_,c,ho,h,hv,hw=>by
  obtain⟨v,vs,d,ds,p,q,rfl,rfl,rfl,h1,n⟩:=trodAll_cons h;obtain⟨w1,w2⟩:=qT hw;obtain⟨s,l,k⟩:=ho e v d p (hv 0 t v Z Z) h1 w1;obtain⟨g,i,m,hq⟩:=zaV k n (fun j t' v' a b=>hv (j+1) t' v' (by grind) (by grind)) w2;exact⟨by simp [g],s::i,yB l m,by grind⟩
def zfT {C:Checked} {base:Nat} {args:Array Value} {ds gs:List (DataW H)} {before:List MemPlace}
 (hl:laidOutB C.prog=true) (hres:fn.resultTypes= #[tb]) (htb:C.prog.underlying tb=some .bool) (hvars:s.vars=[]) (hr:∀ t∈fn.params.toList,C.prog.readableRec t=true/\t<C.prog.types.size)
 (hsfn:∀ ds:List (DataW H),ds.length=fn.params.toList.length->s.fn H ds={results:=[.lit (.bool true)],args:=ds})
 (hlaw:Wz enc C.prog W (fun ss=>zm C.prog (Wy W) f ss (zp true)) fn.params.toList [])
 (hval:∀ (j:Nat) t v,fn.params[j]? =some t->args[j]? =some v->Value.okWide C.prog W .any base t v) (hW:DataW.Whole enc C.prog fn.params.toList s.vars false W args.toList ds gs before)
 (hw:(DataW.weightsEach C.prog (fn.params.toList++s.plain.varTypes C.prog) (ds++gs)).all (· <=reachBytes)=true):
 Calls C.prog f args W fun e W'=>∃ v,e= .returned v/\s.post enc C.prog fn false true false false W args v W':=by
 have hW':=hW;obtain⟨p,q,hA,hV,rfl,_,_⟩:=hW;rw [hvars] at hV
 obtain⟨rfl,rfl⟩:=trodVars_none hV;have hvt:s.plain.varTypes C.prog=[]:=by
  simp [ChangeSpec.plain,DataSpec.varTypes,hvars]
 rw [hvt,List.append_nil,List.append_nil] at hw
 rw [List.append_nil] at hW'
 obtain⟨hlen,ss,hd,hq⟩:=zaV hlaw hA (fun j t v a b=>hval j t v (by grind) (by grind)) hw;have hmain:=hq.main (Wy W) W args.toList (zhP W) ⟨by simp [bs],fun _ h=>by cases h⟩ hd;rw [show args.toList.toArray=args by simp] at hmain
 refine hmain.mono ?_;rintro e W' ⟨v,I',s',H',rfl,⟨rfl,rfl⟩,hv,_,_,hf⟩;obtain rfl:=hv;exact⟨_,Z,zoJ hl hres htb hvars hr (hsfn ds hlen) hW' hA ⟨hf.os,hf.tape,hf.output,hf.size,fun k hk=>hf.old k hk (by simp [bs])⟩⟩
def zhR {C:Checked} {os:Os} {X:World->Prop} {z:TypeId} (K:∀ w w':World,w.heap=w'.heap->X w->X w') (own:ownKnob C.prog.godebug=none) (c:os.Started) (d:C.prog.inits.idxOf? f=none) (x:C.prog.funcs[f]? =some fn)
 (b:∃ (w:World) (a:Tape) (i:Input),w.os=os/\(w.forCall a i).Shaped C.prog/\i.vars=[]/\Input.okWide C.prog (w.forCall a i) .any w.heap.size f i /\
  ((s.pre enc C.prog fn [] false (w.forCall a i).memory i.args/\X (w.forCall a i).memory)/\sizedMet enc C.prog fn (OpenSpec.ofChange s) false (w.forCall a i).memory i.args)/\({}:Assume).holds C.prog (lone (Frame.enter C.prog f i.args .normal) [] (w.forCall a i)))
 (G:laidOutB C.prog=true) (k:fn.resultTypes= #[z]) (q:C.prog.underlying z=some .bool) (g:s.vars=[]) (F:∀ t∈fn.params.toList,C.prog.readableRec t=true/\t<C.prog.types.size)
 (j:∀ ds:List (DataW H),ds.length=fn.params.toList.length->s.fn H ds={results:=[.lit (.bool true)],args:=ds})
 (m:∀ W,W.ShapedOpen C.prog->X W->Wz enc C.prog W (fun D=>zm C.prog (Wy W) f D (zp true)) fn.params.toList []):
 ReturnsInHanded {} C os f .any (fun w args=>(s.pre enc C.prog fn [] false w args/\X w)/\sizedMet enc C.prog fn (OpenSpec.ofChange s) false w args) (s.post enc C.prog fn false true false false):=by
 refine returnsInHanded_of_calls own c d b ?_;intro w a i _ r _ u l _;obtain⟨_,_,_,y,n,_,_,_,_,h⟩:=u;obtain rfl:=BA (n.symm.trans x);obtain⟨⟨⟨ds,gs,o,A,_⟩,hx⟩,E⟩:=l;have p:=DataW.Whole.of_heap (w':=w.forCall a i) (by rfl) A;refine (zfT G k q g F j (m _ r (K _ _ (by rfl) hx)) h p (E.weights A)).mono fun e W' ⟨v,I,hp⟩=>?_
 subst I;exact ChangeSpec.post_blind hp
end
end Go.Sv
