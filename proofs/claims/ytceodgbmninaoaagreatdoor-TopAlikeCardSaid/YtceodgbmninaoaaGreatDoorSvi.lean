/- make and append on slices of one's own. -/
import Derived.Test.YtceodgbmninaoaaGreatDoorSve
set_option linter.all false
namespace Go.Sv
open Go Go.RowKit
def rowV:G3->Nat->Value
 | none,_=>.slice none 0 0
 | some (b,cap),n=>.slice (some ⟨b,0,none⟩) n cap
def rowE (q:G3) (e st n:Nat) (cs:List SV):HE:=match q with
 | none=>⟨none,e,cs,0⟩
 | some (b,cap)=>⟨some b,e,cs,cap*st-n*st⟩
def zX (q:G3) (n:Nat):Prop:=match q with
 | none=>n=0
 | some (_,cap)=>n<=cap/\cap<=maxLen
instance {q:G3} {n:Nat}:One (eqS (rowV q n)):=⟨YP (by cases q <;> rfl)⟩
section
variable {P:Program} {G:Imm} {E:aD} {r:Option Nat} {S:St} {gd:G4} {p:Bool} {o:Oper} {ops:List Oper} {K:St->Prop}
variable {α:Type} {cs:List SV} {st e n t:Nat} {x y:Operand} {xs:List Value} {f:α->List SV} {W:World} {q:G3} {I:Imm} {g:Ha}
def xd {H:HL} [am P t e st] (a:o.op= .call {callee:=.builtin .len,args:= #[x],argTypes:= #[t]}) (hx:yW g x=some (eqS (rowV q n))) (hq:zX q n):OpOK P G H o g (MK n):=by
 cases q with
 | none=>subst hq;exact Qs a hx
 | some q=>exact Qs a hx
def bg:KK []:=fun _ h=>by grind
def WO (hq:zX q n) (g:cs.length=n*st) (h:HoldsH [rowE q e st n cs] I W):
 ∃xs,W.ownsRow 0 e st (rowV q n) n xs/\dens I cs xs/\KK xs:=by
 cases q with
 | none=>
  have hq:n=0:=hq;subst hq;have h1:cs=[]:=(h.mem (rowE none e st 0 cs) B).none Z;subst h1;exact⟨[],⟨B,.inl ⟨Z,Z⟩⟩,aq,bg⟩
 | some q=>
  obtain⟨b,cap⟩:=q;obtain⟨a,d⟩:=hq;obtain⟨_,c,i,hsz,h1,f⟩:=(h.mem (rowE (some (b,cap)) e st n cs) B).some Z;simp only [rowE] at i hsz h1 f
  have j:n*st<=cap*st:=BK _ a;refine⟨_,⟨?_,.inr ⟨b,cap,c,Z,BL _,i,a,d,C,by grind⟩⟩,f,h1⟩;grind
def YQ {v:Value} (h:W.ownsRow 0 e st v n xs) (a:dens I cs xs) (h1:KK xs) (hI:∀ b,v.ownBlock=some b->I b=none):
 ∃q,zX q n/\v=rowV q n/\HoldsH [rowE q e st n cs] I W/\q.map (·.1)=v.ownBlock:=by
 rcases h.2 with ⟨rfl,rfl⟩ | ⟨g,cap,c,rfl,_,j,d,k,l,ht⟩
 .have hx:=Aa (by simpa using h.1);subst hx;have:cs=[]:=Aa (by simpa using a.1.symm);subst this;refine⟨none,Z,Z,⟨by simp [bs,rowE],fun p hp=>?_⟩,Z⟩;simp at hp;subst hp;rfl
 .have f:cs.length=n*st:=by rw [<-a.1,h.1]
  refine⟨some (g,cap),⟨d,k⟩,Z,⟨by simp [bs,rowE],fun p hp=>?_⟩,Z⟩;simp at hp;subst hp;have i:n*st<=cap*st:=BK _ d;refine .of_some Z ⟨hI g Z,c,j,?_,?_,?_⟩
  .simp only [rowE];omega
  .simp only [rowE];grind
  .simp only [rowE];grind
class av (P:Program) (e:TypeId) (zs:outParam (List Value)) (bytes:outParam Nat):Prop where
 i:∃ i z,P.info? e=some i/\i.zero=some z/\z.cells=zs.toArray/\i.size=zs.length/\i.bytes=bytes
 one:jl zs=true
 pos:zs≠[]
def lP {E:Array TypeId} {m:Nat} {ds:List SV}
 (hop:o.op= .call {callee:=.builtin .append,args:= #[x,y],argTypes:=E}) (hx:yW g x=some (eqS (rowV q n))) (hq:zX q n) (S:cs.length=n*st)
 (h:∀ I W a xs,Holds G I W->reads g I o a->W.ownsRow 0 e st (rowV q n) n xs->∃ u W' d,(Builtin.append_ E o.type #[rowV q n,a.eval y]).run P W= .ok u W'/\W'.ownsRow 0 e st u (n+m) (xs++d)/\W.grownBy W' (rowV q n).ownBlock/\(∀b,u.ownBlock=some b->(rowV q n).ownBlock=some b\/W.heap.size<=b)/\dens I ds d/\KK d):
 OpL P G o g [rowE q e st n cs] (fun s H'=>∃ j,zX j (n+m)/\s=eqS (rowV j (n+m))/\H'=[rowE j e st (n+m) (cs++ds)]):=by
 intro nn r I W a F Q w K H O;have z:a.eval x=rowV q n:=H.get Gl hx;obtain⟨xs,p,U,h1⟩:=WO hq S K;obtain⟨u,W',d,Y,e2,k,L,N,M⟩:=h I W a xs w H p;have f:∀ {q n cs b},b∈bs [rowE q e st n cs]↔(rowV q n).ownBlock=some b:=fun {q n cs b}=>by
  cases q <;> simp [bs,rowE,rowV,Value.ownBlock];omega
 have t:∀ b,(rowV q n).ownBlock=some b->I b=none:=fun b i=>(K.lt (f.2 i)).2;obtain⟨j,A,rfl,D,_⟩:=YQ e2 (U.append N) (fun x hx=>(Bu.1 hx).elim (h1 x) (M x)) fun b i=>(L b i).elim (t b) fun h=>by
  cases hI:I b with
  | none=>rfl
  | some c=>obtain⟨_,_,v⟩:=w.mem b c hI;grind
 have l:(execOp a.eval o).run P W= .ok (.value (rowV j (n+m))) W':=by
  simp only [execOp,hop,resolve,Sem.run_bind,Sem.run_pure,Result.andThen_ok,invoke,builtin];rw [show Array.map a.eval #[x,y]= #[rowV q n,a.eval y] by grind,Y];rfl
 refine xg GW l (O _ I W' _ _ ⟨j,A,Z,Z⟩ ⟨k.os,k.tape,k.output,Imm.le_refl _,k.size,fun b i R=>k.block b i fun h=>R (f.2 h.symm),fun b h h'=>M1 h h',fun b i=>(L b (f.1 i)).imp f.2 id⟩ ⟨w.glob,fun b c hc=>?_⟩ D Z);obtain⟨X,fr,v⟩:=w.mem b c hc;exact⟨X,fr,(k.block b (yv v) fun h=>by grind).trans v⟩
theorem zp9 {G:Imm} (h:Holds G I W) {b p:Nat}:∀ {m:List α} {k:Nat},(∀z∈m,(f z).length=st)->(∀i x,m[i]? =some x->cellsAt I b (p+(k+i)*st) (f x))->∃ a:List Value,a.length=m.length*st/\dens I (m.flatMap f) a/\KK a/\∀ j u,a[j]? =some u->W.cell? (Addr.add ⟨b,p,none⟩ (k*st+j))=some u
  | [],k,_,_=>⟨[],B,aq,bg,B⟩
  | y::m,k,hf,hk=>by
    obtain⟨a,t,s,r,q⟩:=zp9 h (fun z hz=>hf z (.tail _ hz)) fun i x hx=>by have:=hk (i+1) x hx;rwa [(C:k+(i+1)=k+1+i)] at this
    obtain⟨c,g,e⟩:=hk 0 y Z;obtain⟨D,fr,d⟩:=h.mem b c g;obtain⟨ys,l,A,w,v⟩:=YB (hf y B) e;refine⟨ys++a,by grind,by rw [BM];exact w.append s,fun u n=>(Bu.1 n).elim (v u) (r u),fun j u hj=>?_⟩
    by_cases o:j<st
    . rw [Ad (by omega)] at hj
      rw [XU,xC d,<-An];grind
    grind
theorem UE {m:Nat} {zs:List Value} [am P t e st] [he:av P e zs m] {l:List α}
    (hop:o.op= .call {callee:=.builtin .append,args:= #[x,y],argTypes:= #[t,t]}) (hx:yW g x=some (eqS (rowV q n))) (hy:yW g y=some (zR st f l)) (hq:zX q n) (hl:cs.length=n*st) (hf:∀ z∈l,(f z).length=st) (A:(n+l.length)*m<=yE) (hm:n+l.length<=yE):
    OpL P G o g [rowE q e st n cs] (fun s H'=>∃ q',zX q' (n+l.length)/\s=eqS (rowV q' (n+l.length))/\H'=[rowE q' e st (n+l.length) (cs++l.flatMap f)]):=by
  refine lP hop hx hq hl fun I W a xs Y hr v=>?_;obtain⟨w,cap,S,_,_,h3⟩:=hr.get Gl hy;obtain⟨i,hi,E⟩:=am.i (P:=P) (t:=t);obtain⟨i',z,F,R,Q,O,N⟩:=he.i;rw [hi] at F;cases F
  have U:=am.u (P:=P) (t:=t);have X:0<st:=by rw [<-E,O];exact Er.2 he.pos
  have D:n+l.length<=maxLen:=by unfold maxLen;unfold yE at hm;omega
  have M:∀ (w:Addr) (k c:Nat) (d:List Value),d.length=k*st->(∀j u,d[j]? =some u->W.cell? (Addr.add w j)=some u)->(∀u∈d,u.oneCell'=true)->n+k<=maxLen->(n+k)*m<=140737488355328->∃ r W',(Builtin.append_ #[t,t] o.type #[rowV q n,.slice (some w) k c]).run P W= .ok r W'/\W'.ownsRow 0 e st r (n+k) (xs++d)/\W.grownBy W' (rowV q n).ownBlock/\∀ b,r.ownBlock=some b->(rowV q n).ownBlock=some b\/W.heap.size<=b:=fun w k c d h1 h2 h3 h4 h5=>
    let ⟨r,W',L,e2,K,_,H⟩:=run_append_own_at (P:=P) W 0 t o.type e i z st m U hi R E N (by grind) X (rowV q n) n xs v w k c d h1 h2 h3 h4 h5 (BL _)
    ⟨r,W',L,e2,K,fun b A=>H.elim (fun h=>.inl (h.symm.trans A)) fun h=>.inr (by grind)⟩
  rw [S];rcases h3 with rfl | ⟨b,p,rfl,hc⟩
  . cases w with
    | none=>
      refine⟨rowV q n,W,[],?_,by grind,⟨Z,Z,Z,Af _,fun _ _ _=>rfl⟩,fun _ h=>.inl h,aq,bg⟩
      cases q with
      | none=>cases (show n=0 from hq);simp [rowV,Builtin.append_,run_underlying U,sizeOf,typeInfo,hi,Builtin.lenOf,Builtin.firstCells]
      | some q=>simp [rowV,Builtin.append_,run_underlying U,sizeOf,typeInfo,hi,Builtin.lenOf,Builtin.firstCells,hq.1,storeCells]
    | some w=>
      obtain⟨r,W',L,e2,K,H⟩:=M w 0 cap [] B B B D A;exact⟨r,W',[],L,e2,K,H,aq,bg⟩
  . obtain⟨d,n1,n2,n3,n4⟩:=zp9 Y (k:=0) hf (by simpa using hc)
    obtain⟨r,W',L,e2,K,H⟩:=M ⟨b,p,none⟩ l.length cap d n1 (by grind) n3 D A
    grind
end
open Go.Shelf
section
variable {P:Program} {G:Imm} {E:aD} {r:Option Nat} {S:St} {gd:G4} {p:Bool} {o:Oper} {ops:List Oper} {K:St->Prop}
variable {α:Type} {cs caps:List SV} {xs:Array Operand} {d:Array TypeId} {f:FuncId} {Q:SV->HL->Prop} {n e st c cap off v:Nat} {i:Nat×Bool} {h H:HL} {g:Ha} {x y:Operand} {k:α->List SV} {W:World} {m:List Value} {l:List α} {I:Imm} {F:Nat->Prop} {j:G7} {b:Array Value} {a:Act} {s s0:SV} {q u:IntKind} {z:G3} {t:HE}
def Yc (zs:List Value) (n:Nat):(madeCells zs.toArray n).toList=yD zs n:=by
 unfold madeCells yD;simp
def Kf (zs:List Value) {m:Nat} (h:m<=n):(yD zs n).take m=yD zs m:=by
 unfold yD;rw [<-List.map_take,List.take_range,AU h]
def um (zs:List Value) (n:Nat):(yD zs n).length=n:=by simp [yD]
theorem zb2 (z:Value) (n:Nat):yD [z] n=List.replicate n z:=by
 unfold yD;rw [List.eq_replicate_iff];grind
def zjS {t d:Nat} {zs:List Value} [am P t e st] [K:av P e zs d] {k p:IntKind}
 (hop:o.op= .makeSlice t x y) (hx:yW g x=some (ze k n)) (hy:yW g y=some (ze p c)) (h:n<=c) (X:d*c<=281474976710656) (S:c<=yE):
 OpL P G o g [] (fun s H'=>∃ b,zX (some (b,c)) n/\s=eqS (rowV (some (b,c)) n)/\H'=[rowE (some (b,c)) e st n ((yD zs (n*st)).map eqS)]):=by
 unfold yE at S
 have U:OpL P G o g [] (fun s H'=>∃ b,s=eqS (rowV (some (b,c)) n)/\H'=[rowE (some (b,c)) e st n ((yD zs (n*st)).map eqS)]):=lU GW fun I W a hm' m=>by
  have F:a.eval x= .int k n:=m.get GB hx;have E:a.eval y= .int p c:=m.get GB hy;obtain⟨i,hi,j⟩:=am.i (P:=P) (t:=t) (e:=e) (st:=st);obtain⟨i',z,l,D,A,N,w⟩:=K.i;rw [hi] at l;cases l
  have h1:=run_make (P:=P) W t e i z (am.u (P:=P) (t:=t) (e:=e) (st:=st)) hi D k p (n:Int) (c:Int) C C (by rw [w,<-BO];omega) C;simp only [BQ] at h1
  have H:n*st<=c*st:=BK _ h;refine⟨_,_,_,_,by simp only [execOp,hop,F,E,Sem.run_bind,h1,Result.andThen_ok,Sem.run_pure];rfl,Z,?_,?_,?_⟩
  .simp only [size_madeCells,BR,um];rw [j];omega
  all_goals
   simp only [BR,um,A,Yc];rw [Kf _ (by rw [j];exact H)]
  .exact ib (im K.one) _ (.inr K.pos)
  .exact XV _
 exact fun L r I W a f Q O R m M=>U L r I W a f Q O R m fun v I' W' s H' ⟨b,e1,e2⟩=>M v I' W' s H' ⟨b,⟨h,by unfold maxLen;omega⟩,e1,e2⟩
def ae.make {f m:Nat} {d:G7} {t a:Nat} {zs:List Value} [am P t e st] [av P e zs a] {k:IntKind} (hp:p=false) (j:o.op= .makeSlice t x y) (hx:yW g x=some (ze k n)) (hy:yW g y=some (ze q c)) (v:zO gd g o true) (ht:o.dst=some m) (w:Nat.blt m f=true)
 (l:n<=c) (A:a*c<=281474976710656) (z:c<=yE)
 (u:∀ b,zX (some (b,c)) n->ae P G E r gd p ops ⟨f,(m,eqS (rowV (some (b,c)) n))::g,rowE (some (b,c)) e st n ((yD zs (n*st)).map eqS)::h,d,i⟩ K):ae P G E r gd p (o::ops) ⟨f,g,h,d,i⟩ K:=
 .loc0 hp (zjS j hx hy l A z) v ht w fun s H' ⟨b,F,D,e2⟩=>by subst D;subst e2;exact u b F
def ae.append (j:Nat) {m:Nat} {d:G7} {t a:Nat} {zs:List Value} [am P t e st] [av P e zs a] {q:G3} {f:α->List SV} (hp:p=false)
 (k:o.op= .call {callee:=.builtin .append,args:= #[x,y],argTypes:= #[t,t]}) (hx:yW g x=some (eqS (rowV q n))) (hy:yW g y=some (zR st f l)) (H:h[j]? =some (rowE q e st n cs)) (A:zO gd g o true) (ht:o.dst=some m) (D:Nat.blt m c=true)
 (hq:zX q n) (w:cs.length=n*st) (hf:∀ z∈l,(f z).length=st) (F:(n+l.length)*a<=yE) (v:n+l.length<=yE)
 (u:∀ b,zX b (n+l.length)->ae P G E r gd p ops ⟨c,(m,eqS (rowV b (n+l.length)))::g,wE h j [rowE b e st (n+l.length) (cs++l.flatMap f)],d,i⟩ K):ae P G E r gd p (o::ops) ⟨c,g,h,d,i⟩ K:=
 .loc1 j hp H (UE k hx hy hq w hf F v) A ht D fun s H' ⟨b,L,I,e2⟩=>by subst I;subst e2;exact u b L
def yI {a:Nat} {d:G7} (e st:Nat):aF G E r ⟨a,g,h,d,i⟩ ⟨a,g,rowE none e st 0 []::h,d,i⟩:=
 .reH (fun _ _ c=>⟨by simpa [bs,rowE] using c.nodup,fun p hp=>(DZ.1 hp).elim (fun e=>by subst e;rfl) (c.mem p)⟩) fun b f=>by assumption
structure CallSpec (P:Program) (G:Imm) (f:FuncId) (args:List SV) (H:HL) (Q:SV->HL->Prop):Prop where
 enters:∀ args w,(callFunc f args).run P w= .ok (.enter f args) w
 main:∀ I W (vs:List Value),Holds G I W->HoldsH H I W->dens I args vs->Calls P f vs.toArray W fun e W'=>
  ∃v I' s H',e= .returned v/\Q s H'/\s.den I' v/\Holds G I' W'/\HoldsH H' I' W'/\Fram (· ∈bs H) I W (· ∈bs H') I' W'
abbrev zm (P:Program) (G:Imm) (f:FuncId) (args:List SV) (s:SV):Prop:=CallSpec P G f args [] (fun s' H'=>s'=s/\H'=[])
def CallSpec.mono {args:List SV} {Q':SV->HL->Prop} (h:CallSpec P G f args H Q) (hq:∀ s H',Q s H'->Q' s H'):CallSpec P G f args H Q':=
 ⟨h.enters,fun I W vs h1 b a=>(h.main I W vs h1 b a).mono fun _ _ ⟨v,I',s,H',e,hQ,rest⟩=>⟨v,I',s,H',e,hq _ _ hQ,rest⟩⟩
def cJ:List SV->List SV->Prop
 | [],[]=>True
 | s::l,t::m=>(∀I v,s.den I v->t.den I v)/\cJ l m
 | _,_=>False
def yU:∀ l,cJ l l
 | []=>trivial
 | _::l=>⟨fun _ _ h=>h,yU l⟩
def cJ.dens:∀ {l m:List SV} {I:Imm} {vs:List Value},cJ l m->dens I l vs->dens I m vs
 | [],[],_,_,_,h=>h
 | _::_,_::_,_,_,hs,h=>by obtain⟨x,r,rfl,h1,a⟩:=xW h;exact yB (hs.1 _ _ h1) (hs.2.dens a)
 | [],_::_,_,_,hs,_=>hs.elim
 | _::_,[],_,_,hs,_=>hs.elim
def CallSpec.args {args args':List SV} (h:CallSpec P G f args H Q) (a:cJ args' args):CallSpec P G f args' H Q:=
 ⟨h.enters,fun I W vs h1 c b=>h.main I W vs h1 c (a.dens b)⟩
def ut {args:Array Value} {w:World} {R:Ending->World->Prop} (r:Option Nat) (h:Calls P f args w R):CallsIn (Fr r) n P f args w R:=(callsIn_wide (n:=n)).2 h
def io {c:Array Value} {args:List SV} (hop:o.op= .call {callee:=.value x,args:=xs,argTypes:=d}) (h:a.eval x= .func (.func f) b c) (l:uk g xs.toList=some args) (k:∀ args w,(callFunc f args).run P w= .ok (.enter f args) w) (j:reads g I o a):
 ∃vs,(execOp a.eval o).run P W= .ok (.enter f (b.toList++vs++c.toList).toArray) W/\dens I args vs:=by
 refine⟨xs.toList.map a.eval,?_,vn l fun y hy s i=>j y F8 s i⟩;have e:b++Array.map a.eval xs++c=(b.toList++xs.toList.map a.eval++c.toList).toArray:=by apply AW;simp
 simp only [execOp,hop,resolve,h,Deferred.ofValue,Sem.run_bind,Sem.run_pure,Result.andThen_ok,invoke,e,k]
def iY {args:List SV} {Hp:HL} {c:Call} (hop:o.op= .call c) (q:CallSpec P G f args Hp Q) (b:∀ I a W,HoldsH Hp I W->reads g I o a->∃ vs:List Value,(execOp a.eval o).run P W= .ok (.enter f vs.toArray) W/\dens I args vs):OpL P G o g Hp Q:=by
 intro n r I W a m Qx u p t k;obtain⟨vs,h1,x⟩:=b I a W p t;refine xg GW h1 ⟨fun h=>by simp [Fr,Fence.wide] at h,ut r ((q.main I W _ u p x).mono ?_)⟩;grind
def zqI {c:Callee} {i:Array TypeId} {args:List SV} {Hp:HL} (hop:o.op= .call {callee:=c,args:=xs,argTypes:=i}) (b:c= .value x)
 (hf:yW g x=some (wD f caps)) (k:uk g xs.toList=some args) (e:CallSpec P G f (args++caps) Hp Q):OpL P G o g Hp Q:=by
 subst b;refine iY hop e fun I a W _ h=>?_;obtain⟨m,j,d⟩:=h.get Gl hf;obtain⟨vs,h1,l⟩:=io (W:=W) hop j k e.enters h;exact⟨_,h1,l.append d⟩
def VL {args:List SV} {Hp:HL} (b:o.op= .call {callee:=.value (.func f),args:=xs,argTypes:=d})
 (h:uk g xs.toList=some args) (c:CallSpec P G f args Hp Q):OpL P G o g Hp Q:=iY b c fun I a W _ e=>by
 obtain⟨vs,h1,i⟩:=io (W:=W) b (FV:a.eval (.func f)= .func (.func f) #[] #[]) h c.enters e;grind
def hZ (h:OpL P G o g [] (fun s' H'=>s'=s/\H'=[])):OpOK P G H o g s:=by
 intro n r I W a c Q j l i k;refine h n r I W a c Q j ⟨by simp [bs],B⟩ i ?_;rintro v I' W' _ _ ⟨rfl,rfl⟩ hf d _ f;exact k v I' W' (hf.weaken (fun b e=>by simp [bs] at e) fun b e=>e.elim) d f
def zb {b:Array TypeId} {args:List SV} (a:o.op= .call {callee:=.value (.func f),args:=xs,argTypes:=b})
 (d:uk g xs.toList=some args) (c:zm P G f args s):OpOK P G H o g s:=hZ (VL a d c)
def yY {b:Array TypeId} {args:List SV} (a:o.op= .call {callee:=.value x,args:=xs,argTypes:=b})
 (hf:yW g x=some (wD f caps)) (d:uk g xs.toList=some args) (c:zm P G f (args++caps) s):OpOK P G H o g s:=hZ (zqI a Z hf d c)
def aE (j:Nat) {a:Nat} {d:G7} {e:Array TypeId} {args:List SV} {q:HE} (hp:p=false) (b:o.op= .call {callee:=.value (.func f),args:=xs,argTypes:=e})
 (t:uk g xs.toList=some args) (u:h[j]? =some q) (k:CallSpec P G f args [q] Q) (m:zO gd g o true) (ht:o.dst=some c) (n:Nat.blt c a=true)
 (l:∀ s H',Q s H'->ae P G E r gd p ops ⟨a,(c,s)::g,wE h j H',d,i⟩ K):ae P G E r gd p (o::ops) ⟨a,g,h,d,i⟩ K:=
 .loc1 j hp u (VL b t k) m ht n l
def aH {a:Nat} {d:G7} {e:Array TypeId} {args:List SV} (hp:p=false) (b:o.op= .call {callee:=.value (.func f),args:=xs,argTypes:=e})
 (n:uk g xs.toList=some args) (j:CallSpec P G f args [] Q) (l:zO gd g o true) (ht:o.dst=some c) (m:Nat.blt c a=true)
 (k:∀ s H',Q s H'->ae P G E r gd p ops ⟨a,(c,s)::g,wE.cat H' h,d,i⟩ K):ae P G E r gd p (o::ops) ⟨a,g,h,d,i⟩ K:=
 .loc0 hp (VL b n j) l ht m k
theorem zeo {b m:Nat} {f:α->List SV} (j:cellsAt I b 0 (l.flatMap f)) (hq:zX (some (b,cap)) m) (a:l.length=m) (hf:∀ x∈l,(f x).length=st) (n:m<=yE):(zR st f l).den I (rowV (some (b,cap)) m):=by
 obtain⟨c,g,e⟩:=j;refine⟨some ⟨b,0,none⟩,cap,by rw [a];rfl,by rw [a];exact hq.1,by omega,.inr ⟨b,0,Z,fun i x hx=>⟨c,g,fun k s hk=>?_⟩⟩⟩;rw [An];refine e _ s ?_;rw [BW];exact ZD (fun d h=>by grind) (by grind) hk
def HoldsH.mid {pre post:HL} {q:HE} (h:HoldsH (pre++q::post) I W):HoldsH (pre++post) I W:=h.less (List.Sublist.append_left (B5 _ _) _)
def ou {pre post:HL} {b k:Nat} {d:G7} (l:Sat G E r ⟨n,g,pre++⟨some b,e,cs,k⟩::post,d,i⟩ I F a W):
 ∃I',Sat G E r ⟨n,g,pre++post,d,i⟩ I' F a W/\Fram (own ⟨n,g,pre++⟨some b,e,cs,k⟩::post,d,i⟩ F) I W (own ⟨n,g,pre++post,d,i⟩ F) I' W/\cellsAt I' b 0 cs:=by
 obtain⟨w,c,v,hsz,h1,u⟩:=(l.h.mem ⟨some b,e,cs,k⟩ B).some Z;simp only at v hsz h1 u
 have j:I.le (I.with b c):=aZ w;have t:∀ {f},I.with b c f=if f=b then some c else I f:=rfl
 have hf:Fram (· =b) I W (· =b) (I.with b c) W:=⟨Z,Z,Z,j,Af _,fun _ _ _=>rfl,fun k hk hk'=>.inl (M4 fun h=>hk' (by grind)),fun _=>.inl⟩
 have q:∀ f∈bs (pre++post),¬f=b:=fun f h e=>by
  have:=l.h.nodup;simp only [bs,B4,Aj,Bt,List.nodup_cons] at this;simp only [bs,B4,Bu] at h
  grind
 have o:∀ f,f∈bs (pre++post)->f∈bs (pre++⟨some b,e,cs,k⟩::post):=fun _ h=>(VM (List.Sublist.append_left (B5 _ _) _)).subset h
 obtain⟨s1,s2⟩:=l.turn (h':=pre++post) (fun f e=>by subst e;simp [bs]) hf (fun f h=>.inl (o f h)) ⟨Imm.le_trans l.m.glob j,fun k d hk=>by
  rw [t] at hk
  split at hk
  .grind
  .exact l.m.mem k d hk⟩ (l.h.mid.keep hf q)
 refine⟨I.with b c,s1,s2,c,zml _ _ _,fun i s hi=>?_⟩;obtain⟨x,hx,p⟩:=(u.mono j).get hi;refine⟨x,?_,p,h1 x (AE hx)⟩;grind
theorem ot {pre post:HL} {m:Nat} {q:G3} {f:α->List SV} {d:G7} (c:Sat G E r ⟨n,g,pre++rowE q e st m (l.flatMap f)::post,d,i⟩ I F a W) (hq:zX q m) (j:l.length=m) (hf:∀ x∈l,(f x).length=st) (o:m<=yE):
 ∃I',Sat G E r ⟨n,g,pre++post,d,i⟩ I' F a W/\Fram (own ⟨n,g,pre++rowE q e st m (l.flatMap f)::post,d,i⟩ F) I W (own ⟨n,g,pre++post,d,i⟩ F) I' W/\(zR st f l).den I' (rowV q m):=by
 cases q with
 | none=>
  cases (show m=0 from hq)
  cases Aa j
  obtain⟨s1,s2⟩:=c.reH c.h.mid fun b h=>(VM (List.Sublist.append_left (B5 _ _) _)).subset h;exact⟨I,s1,s2,none,0,Z,Af _,BL _,.inl Z⟩
 | some q=>
  obtain⟨I',s1,s2,k⟩:=ou c;exact⟨I',s1,s2,zeo k hq j hf o⟩
def Sat.retype (c:Sat G E r S I F a W) {t:Nat} (f:look t S.g=some s0) (h:∀ v,s0.den I v->s.den I v):Sat G E r {S with g:=(t,s)::S.g} I F a W:=by
 refine {c with g:=fun d s' b=>?_};simp only [look] at b
 split at b
 .rename_i e;cases b;rw [Ai e];exact h _ (c.g t s0 f)
 .exact c.g d s' b
def mX (j t:Nat) {q:HE} (b:S.h[j]? =some q) (ht:look t S.g=some s0) (h:∀ n g pre post d i I F a W,Sat G E r ⟨n,g,pre++q::post,d,i⟩ I F a W->∃ I',Sat G E r ⟨n,g,pre++post,d,i⟩ I' F a W/\Fram (own ⟨n,g,pre++q::post,d,i⟩ F) I W (own ⟨n,g,pre++post,d,i⟩ F) I' W/\∀ v,s0.den I' v->s.den I' v):
 aF G E r S ⟨S.n,(t,s)::S.g,wE S.h j [],S.d,S.i⟩:=by
 rw [ul b,BV];have e:S.h=S.h.take j++q::S.h.drop (j+1):=by simpa using Zo b
 intro I F a W c;obtain⟨I',s1,s2,f⟩:=h S.n S.g (S.h.take j) (S.h.drop (j+1)) S.d S.i I F a W (by rw [<-e];omega);rw [<-e] at s2;exact⟨I',s1.retype ht f,s2⟩
theorem ZK (j t:Nat) {b k:Nat} (l:S.h[j]? =some ⟨some b,e,cs,k⟩) (ht:look t S.g=some (eqS (.pointer (some ⟨b,off,none⟩)))):
 aF G E r S ⟨S.n,(t,yo (cs.drop off))::S.g,wE S.h j [],S.d,S.i⟩:=
 mX j t l ht fun _ _ _ _ _ _ _ _ _ _ f=>let ⟨I',s1,s2,c,hc1,hc2⟩:=ou f
  ⟨I',s1,s2,fun v a=>⟨b,off,a,c,hc1,fun i s hi=>by grind⟩⟩
def yF (j t:Nat) {q:G3} {f:α->List SV} (o:S.h[j]? =some (rowE q e st n cs)) (ht:look t S.g=some (eqS (rowV q n))) (hq:zX q n) (k:l.length=n) (a:cs=l.flatMap f) (hf:∀ x∈l,(f x).length=st) (m:n<=yE):
 aF G E r S ⟨S.n,(t,zR st f l)::S.g,wE S.h j [],S.d,S.i⟩:=
 mX j t o ht fun _ _ _ _ _ _ _ _ _ _ c=>by
  subst a;obtain⟨I',s1,s2,h⟩:=ot c hq k hf m;exact⟨I',s1,s2,fun v b=>(show v=_ from b)▸h⟩
end
section
variable {P:Program} {G:Imm}
def aX:aD:=⟨fun _ _ F _=>∀ b,¬F b,fun _ _ _ _ _ _ h _ _ _ _ _ _ _=>h⟩
inductive eh (P:Program) (g:Ha) (h:HL):ResultVar->SV->Prop
 | tmp {t:Nat} {s:SV} (hg:look t g=some s):eh P g h (.tmp t) s
 | own (j:Nat) {a t off b e k:Nat} {cs:List SV} {s:SV} (it:ak P t) (ha:look a g=some (eqS (.pointer (some ⟨b,off,none⟩)))) (hH:h[j]? =some ⟨some b,e,cs,k⟩) (hs:cs[off]? =some s):eh P g h (.cell a t) s
 | agg (j:Nat) {a t n off b e k:Nat} {cs ds:List SV} (it:az P t n) (ha:look a g=some (eqS (.pointer (some ⟨b,off,none⟩)))) (hH:h[j]? =some ⟨some b,e,cs,k⟩) (hd:(cs.drop off).take n=ds) (hn:ds.length=n):eh P g h (.cell a t) (zl ds)
inductive cO (P:Program) (g:Ha) (h:HL):List ResultVar->List SV->Prop
 | nil:cO P g h [] []
 | cons {x:ResultVar} {s:SV} {l:List ResultVar} {cs:List SV} (h1:eh P g h x s) (h2:cO P g h l cs):cO P g h (x::l) (s::cs)
inductive ep (P:Program) (g:Ha) (h:HL):List ResultVar->SV->Prop
 | one {x:ResultVar} {s:SV} (h1:eh P g h x s):ep P g h [x] s
 | none:ep P g h [] (yR [])
 | many {x y:ResultVar} {l:List ResultVar} {cs:List SV} (h1:cO P g h (x::y::l) cs):ep P g h (x::y::l) (yR cs)
def zqJ (tmps:Array Value):ResultVar->Sem Value
 | .tmp t=>pure (tmps.getD t undef)
 | .cell a t=>do loadVar t (<-asAddr (tmps.getD a undef))
section res
variable {g:Ha} {h:HL} {I:Imm} {tmps:Array Value} {W:World}
def eh.run {x:ResultVar} {s:SV} (o:eh P g h x s) (e:∀ t s,look t g=some s->s.den I (tmps.getD t undef)) (m:HoldsH h I W):∃ v,(zqJ tmps x).run P W= .ok v W/\s.den I v:=by
 cases o with
 | tmp h1=>exact⟨_,Z,e _ _ h1⟩
 | own j it ha hH hs=>
  have d:tmps.getD _ undef=_:=e _ _ ha;obtain⟨c,l,f⟩:=YC ((m.mem _ (AE hH)).some Z);obtain⟨y,hy,a,_⟩:=f _ _ hs;refine⟨y,?_,a⟩;simp only [zqJ,d,asAddr,Sem.run_bind,Sem.run_pure,Result.andThen_ok];exact vm (by rw [xC l];omega)
 | @agg j _ _ n off _ _ _ _ _ it ha hH f hn=>
  have d:tmps.getD _ undef=_:=e _ _ ha;obtain⟨c,l,k⟩:=YC ((m.mem _ (AE hH)).some Z);obtain⟨xs,hx1,hx2,hx3,b⟩:=YB hn (fun i s hi=>by
   rw [<-f,AR] at hi
   split at hi
   . rw [AV] at hi;exact k _ s hi
   . cases hi)
  refine⟨.agg xs.toArray,?_,xs,Z,hx3,b⟩;simp only [zqJ,d,asAddr,Sem.run_bind,Sem.run_pure,Result.andThen_ok];exact Zx hx1 (fun j v p=>by rw [xC l];grind)
def cO.run (f:∀ t s,look t g=some s->s.den I (tmps.getD t undef)) (e:HoldsH h I W) {l:List ResultVar} {cs:List SV} (d:cO P g h l cs):∃ vs:List Value,(l.mapM (zqJ tmps)).run P W= .ok vs W/\dens I cs vs:=by
 induction d with
 | nil=>exact⟨[],B,aq⟩
 | cons h1 _ ih=>
  obtain⟨v,b,c⟩:=h1.run f e;obtain⟨vs,a,i⟩:=ih;refine⟨v::vs,?_,yB c i⟩;simp_all
def zhi {fn:Func} {s:SV} (i:∀ t s,look t g=some s->s.den I (tmps.getD t undef)) (f:HoldsH h I W) (d:ep P g h fn.results.toList s):
 ∃v,(results fn tmps).run P W= .ok v W/\s.den I v:=by
 have e:results fn tmps=(do let vs <-fn.results.mapM (zqJ tmps);pure (if h:vs.size=1 then vs[0] else .tuple vs)):=rfl;rw [e,Array.mapM_eq_mapM_toList];generalize fn.results.toList=l at d
 cases d with
 | one h1=>
  obtain⟨v,c,k⟩:=h1.run i f;simp_all
 | none=>exact⟨.tuple #[],B,[],Z,aq⟩
 | many h1=>
  obtain⟨vs,c,j⟩:=h1.run i f;have m:vs.length≠1:=by rw [j.1];cases h1 with | cons a b=>cases b;simp
  refine⟨.tuple vs.toArray,?_,vs,Z,j⟩;simp only [Sem.run_bind,Sem.run_map,c,Result.andThen_ok,Sem.run_pure];grind
end res
variable {fn:Func} {k:List SV} {f:FuncId} {I:Imm} {c:Code} {H:HL}
def ph (P:Program) (l:List ResultVar) (Q:SV->HL->Prop):Hb
 | .ret,S=>∃ s H',ep P S.g S.h l s/\H'.Sublist S.h/\Q s H'
 | .normal,S=>∃ s H',ep P S.g S.h l s/\H'.Sublist S.h/\Q s H'
 | _,_=>False
def params:Nat->List SV->Ha
 | _,[]=>[]
 | k,s::l=>(k,s)::params (k+1) l
theorem zaQ:∀ {l:List SV} {vs:List Value} {k t:Nat} {s:SV},dens I l vs->look t (params k l)=some s->k<=t/\∃ x,vs[t-k]? =some x/\s.den I x
  | [],_,_,_,_,_,h=>by simp [params,look] at h
  | a::l,vs,k,t,s,hd,h=>by
    obtain⟨x,r,rfl,hx,b⟩:=xW hd;simp only [params,look] at h
    split at h
    . simp_all
    . obtain⟨h1,y,d,c⟩:=zaQ b h
      grind
def zb4 {tmps:Array Value} {R:Ending->World->Prop}:
 ∀(ds:G7) (W:World),ds.Nodup->(∀b∈ds,W.heap[b]? =some (.deferred (some [])))->Holds G I W->(∀W',Holds G I W'->Fram (· ∈ds) I W (fun _=>False) I W'->∃ v,(results fn tmps).run P W'= .ok v W'/\R (.returned v) W') ->
 LeavesInM Fence.wide 0 P fn tmps R (ds.map ga) .returning W
 | [],W,_,_,hm,k=>k W hm ((Fram.refl _ _ _).weaken (fun _ h=>h) fun _ h=>h.elim)
 | b::ds,W,hnd,hdk,hm,k=>by
  have f:=hdk b B;have a:=List.nodup_cons.1 hnd;obtain⟨d,hf⟩:=uz (W':=W.putObj b (.deferred none)) hm (vu hm f GS) Z Z Z B fun j c=>World.putObj_heap_other c;exact⟨B,.inl ⟨b,_,Z,run_takeDeferred f,zb4 ds _ a.2 (fun j c=>(World.putObj_heap_other fun e'=>by grind).trans (hdk j (by grind))) d fun W' h1 g=>k W' h1 ((hf.weaken (fun _ e=>by grind) fun _ h=>.inr (Bi _ h)).trans g)⟩⟩
def ox {E:aD} {i0:Nat×Bool} {args:List SV} {Q:SV->HL->Nat×Bool->Prop} (hf:P.funcs[f]? =some fn) (a:fn.body=some c) (R:Nat.ble args.length fn.ntmps=true)
 (hT:T P G E none c {n:=fn.ntmps,g:=params 0 args,h:=H,d:=[],i:=i0} (fun e S=>(e= .ret\/e= .normal)/\∃ s H',ep P S.g S.h fn.results.toList s/\H'.Sublist S.h/\Q s H' S.i))
 {F:Nat->Prop} {W:World} {vs:List Value} (U:Holds G I W) (Y:HoldsH H I W) (u:dens I args vs) (he:E.ok i0 I F W) (A:∀ b,F b->b<W.heap.size/\I b=none/\b∉bs H):
 Calls P f vs.toArray W fun e W'=>∃ v I' F' s H' i',e= .returned v/\Q s H' i'/\s.den I' v/\Holds G I' W'/\HoldsH H' I' W'/\E.ok i' I' F' W'/\(∀b,F' b->b<W'.heap.size/\I' b=none/\b∉bs H') /\
  Fram (fun b=>b∈bs H\/F b) I W (fun b=>b∈bs H'\/F' b) I' W':=by
 refine (callsIn_wide (n:=0)).1 (callsIn_of_wp_marks hf a trivial ?_);have O:Sat G E none {n:=fn.ntmps,g:=params 0 args,h:=H,d:=[],i:=i0} I F {tmps:=vs.toArray++Array.replicate (fn.ntmps-vs.toArray.size) undef,defers:=[]} W:=by
  refine⟨?_,fun t s X=>?_,U,Y,Z,BX,fun b a=>(by grind),he,fun b a=>⟨(A b a).1,(A b a).2.1,(A b a).2.2,B⟩,fun k hk=>(by grind)⟩
  .have:=u.1;simp_all
  .obtain⟨_,x,hx,y⟩:=zaQ u X;have p:=yJ hx;simp only [Nat.sub_zero] at hx p
   have:({tmps:=vs.toArray++Array.replicate (fn.ntmps-vs.toArray.size) undef,defers:=[]}:Act).tmps.getD t undef=x:=by
    simp only [Ak];rw [BY (by omega)];simp [hx]
   grind
 have q:=hT 0 I F _ W O;rw [zuq] at q
 refine wpIn_mono q fun e M W' hp=>?_;obtain⟨S',I',F',h1,⟨D,h2⟩,h3⟩:=hp
 have r:LeavesInM Fence.wide 0 P fn M.tmps (fun e W'=>∃ v I' F' s H' i',e=Ending.returned v/\Q s H' i'/\s.den I' v/\Holds G I' W'/\HoldsH H' I' W'/\E.ok i' I' F' W'/\(∀b,F' b->b<W'.heap.size/\I' b=none/\b∉bs H') /\
  Fram (fun b=>b∈bs H\/F b) I W (fun b=>b∈bs H'\/F' b) I' W') M.defers .returning W':=by
  obtain⟨s,H2,o,j,hQ⟩:=h2;rw [h1.d];refine zb4 (G:=G) (I:=I') S'.d W' h1.dn h1.dk h1.m fun W'' k1 w=>?_;have K:=h1.h.keep w fun b a u=>Jx h1.h (h1.dk b u) GS a;obtain⟨v,N,z⟩:=zhi (P:=P) (W:=W'') (fn:=fn) h1.g K o;obtain⟨k2,L⟩:=w.stab h1.e fun b a=>⟨(h1.f b a).1,(h1.f b a).2.1,(h1.f b a).2.2.2⟩;have l:∀ b,b∈bs H2->b∈bs S'.h:=fun b h=>(VM j).subset h
  exact⟨v,N,v,I',F',s,H2,S'.i,Z,hQ,z,k1,K.less j,k2,fun b a=>⟨(L b a).1,(L b a).2,fun h=>(h1.f b a).2.2.1 (l b h)⟩,
   (h3.trans (w.weaken (fun _ h=>.inr (.inl h)) fun b h=>.inr (h.imp (l b) .inr))).weaken (fun b a=>a.imp id fun h=>h.elim B id) fun _ h=>.inl h⟩
 rcases D with rfl | rfl
 .exact r
 .exact r
def wR {args:List SV} {Q:SV->HL->Prop} (hf:P.funcs[f]? =some fn) (a:(fn.name == "runtime.NumGoroutine")=false) (j:fn.body=some c) (k:Nat.ble args.length fn.ntmps=true)
 (l:T P G aX none c {n:=fn.ntmps,g:=params 0 args,h:=H,d:=[],i:=(0,false)} (ph P fn.results.toList Q)):CallSpec P G f args H Q:=by
 refine⟨fun args w=>?_,fun I W vs hm hh hd=>?_⟩
 .have h1:fn.name ≠ "runtime.NumGoroutine" :=by simpa using a
  simp [callFunc,hf,h1,j]
 .have h:=ox (Q:=fun s H' _=>Q s H') hf j k (VE l fun e S hq=>by
   cases e with
   | ret=>exact⟨.inl Z,hq⟩
   | normal=>exact⟨.inr Z,hq⟩
   | _=>exact hq.elim) hm hh hd (fun b h=>h) (fun b h=>h.elim)
  refine h.mono ?_;rintro e W' ⟨v,I',F',s,H',i',h1,r,q,p,o,u,t,m⟩;exact⟨v,I',s,H',h1,r,q,p,o,m.weaken (fun b j=>j.elim id fun h=>h.elim) fun b j=>.inl (.inl j)⟩
end
end Go.Sv
namespace Go.Sv
open Go
variable {P:Program} {t e st n:Nat}
theorem vh (h1:P.underlying t=some (.slice e)) (b:(P.info? e).map (·.size)=some st):am P t e st:=
 ⟨h1,by simp_all⟩
def zhj (P:Program) (t:TypeId):Bool:=match P.underlying t with
 | some (.struct _) | some (.array _ _) | none=>false
 | _=>true
theorem yu (h:zhj P t=true):ak P t:=by
 unfold zhj at h
 cases hu:P.underlying t with
 | none=>grind
 | some d=>exact⟨d,hu,by grind⟩
def zwW (P:Program) (t:TypeId):Option Nat:=match P.underlying t with
 | some (.struct _) | some (.array _ _)=>(P.info? t).map (·.size)
 | _=>none
theorem xY (h:zwW P t=some n):az P t n:=by
 unfold zwW at h
 cases hu:P.underlying t with
 | none=>grind
 | some d=>
  rw [hu] at h
  cases d <;> simp at h
  all_goals exact⟨⟨_,hu,trivial⟩,by omega⟩
def zmn (P:Program) (s k:Nat):Option Nat:=match P.underlying s with
  | some (.struct fs)=>match fs[k]? with
    | some f=>match P.info? f.type with
      | some i=>match Nat.beq i.size 0 with
        | true=>none
        | false=>some f.offset
      | none=>none
    | none=>none
  | _=>none
theorem zW {s k off:Nat} (h:zmn P s k=some off):aj P s k off:=by
 unfold zmn at h
 split at h
 .rename_i d b;split at h
  .rename_i f hf;split at h
   .rename_i i hi;split at h
    .grind
    .rename_i a;cases h;exact⟨d,f,i,b,hf,Z,hi,fun c=>by simp_all⟩
   grind
  grind
 grind
def kz (P:Program) (t:TypeId):Option (List Value×Nat):=match P.info? t with
  | some i=>match i.zero with
    | some z=>match Nat.beq i.size z.cells.size with
      | true=>some (z.cells.toList,i.bytes)
      | false=>none
    | none=>none
  | none=>none
def zaR {zs:List Value} {b:Nat} (h:kz P t=some (zs,b)):∃ i z,P.info? t=some i/\i.zero=some z/\z.cells=zs.toArray/\i.size=zs.length/\i.bytes=b:=by
 unfold kz at h
 split at h
 .rename_i i hi;split at h
  .rename_i z a;split at h
   .rename_i c;cases h;simp_all
   grind
  grind
 grind
theorem yx {zs:List Value} {b:Nat} (h:kz P t=some (zs,b)) (h1:jl zs=true):al P t zs:=by
 obtain⟨i,z,e,d,c,a,_⟩:=zaR h;exact⟨⟨i,z,e,d,c,a⟩,im h1⟩
theorem yn (h:(P.info? t).map (·.size)=some n):ai P t n:=⟨by simp_all⟩
theorem wx {zs:List Value} {b:Nat} (h:kz P t=some (zs,b)) (h1:jl zs=true) (a:zs≠[]):av P t zs b:=⟨zaR h,h1,a⟩
end Go.Sv
namespace Go.Sv
open Go Go.RowKit
section
variable {P:Program} {G:Imm}
def YZ (F:Nat->Prop) (I:Imm) (W:World):Prop:=∀ b,F b->b<W.heap.size/\I b=none
def Yd (P:Program) (G:Imm) (E:aD) (l:Nat) (xs:List (List SV)):Prop:=
  ∀(k:Nat) (ss:List SV),xs[k]? =some ss->∀ (n:Nat) (I:Imm) (F:Nat->Prop) (W:World) (vs:List Value),E.ok (k,false) I F W->YZ F I W->Holds G I W->dens I ss vs ->
    ∃fn tmps assign body,(Instr.yield l vs.toArray).run P W= .ok (.round l fn tmps assign body) W/\RoundIn Fence.wide n P l fn tmps assign body W fun e W'=>
      ∃b I' F',e= .returned (.bool b)/\E.ok (k+1,!b) I' F' W'/\YZ F' I' W'/\Holds G I' W'/\Fram F I W F' I' W'
def yieldS (l:Nat):SV:=eqS (.func (.yield l) #[] #[])
structure bD (P:Program) (G:Imm) (f:FuncId) (caps:List SV) (xs:List (List SV)) (H0:HL) (QH:Nat×Bool->HL->Prop) (A:Nat->Imm->World->Prop):Prop where
 enters:∀ args w,(callFunc f args).run P w= .ok (.enter f args) w
 main:∀ (l:Nat) (E:aD) (I:Imm) (F:Nat->Prop) (W:World) (cv:List Value),Yd P G E l xs->(∀k I F W,E.ok (k,false) I F W->A k I W)->E.ok (0,false) I F W->YZ F I W->(∀b,F b->b∉bs H0)->Holds G I W->HoldsH H0 I W->dens I caps cv ->
  Calls P f (Value.func (.yield l) #[] #[]::cv).toArray W fun e W'=>∃ v I' F' i H',e= .returned v/\(i=(xs.length,false)\/i.2=true)/\QH i H'/\E.ok i I' F' W'/\YZ F' I' W'/\(∀b,F' b->b∉bs H')/\Holds G I' W'/\HoldsH H' I' W'/\Fram (fun b=>b∈bs H0\/F b) I W (fun b=>b∈bs H'\/F' b) I' W'
abbrev nM (P:Program) (G:Imm) (f:FuncId) (caps:List SV) (xs:List (List SV)) (H0:HL) (QH:Nat×Bool->HL->Prop):=bD P G f caps xs H0 QH fun _ _ _=>True
abbrev jk (P:Program) (G:Imm) (f:FuncId) (caps:List SV) (xs:List (List SV)):=bD P G f caps xs [] fun _ H=>H=[]
abbrev xc (P:Program) (G:Imm) (f:FuncId) (caps:List SV) (xs:List (List SV)):=jk P G f caps xs fun _ _ _=>True
section
variable {f:FuncId} {fn:Func} {c:Code} {caps:List SV} {xs:List (List SV)} {H0:HL} {QH:Nat×Bool->HL->Prop} {A:Nat->Imm->World->Prop} (hf:P.funcs[f]? =some fn) (hname:(fn.name == "runtime.NumGoroutine")=false) (hb:fn.body=some c) (hn:Nat.ble (caps.length+1) fn.ntmps=true) (hres:fn.results= #[])
 include hf hname hb hn hres
def kN (hT:∀ (l:Nat) (E:aD),Yd P G E l xs->(∀k I F W,E.ok (k,false) I F W->A k I W)->T P G E none c {n:=fn.ntmps,g:=params 0 (yieldS l::caps),h:=H0,d:=[],i:=(0,false)} (fun e S=>(e= .ret\/e= .normal)/\∃ H',H'.Sublist S.h/\QH S.i H'/\(S.i=(xs.length,false)\/S.i.2=true))):bD P G f caps xs H0 QH A:=by
 refine⟨fun args w=>?_,fun l E I F W cv hy hA he hF hFH hm hh hd=>?_⟩
 .have h1:fn.name ≠ "runtime.NumGoroutine" :=by simpa using hname
  simp [callFunc,hf,h1,hb]
 .refine (ox (Q:=fun _ H' i=>QH i H'/\(i=(xs.length,false)\/i.2=true)) hf hb (by simpa using hn)
   (VE (hT l E hy hA) fun e S ⟨h1,H',h2,h3,h4⟩=>⟨h1,_,H',by rw [hres];exact .none,h2,h3,h4⟩) hm hh (yB rfl hd) he (fun b hb=>⟨(hF b hb).1,(hF b hb).2,hFH b hb⟩)).mono ?_
  rintro e W' ⟨v,I',F',s,H',i',h1,⟨h2,h2'⟩,_,h4,h5,h6,h7,h8⟩;exact⟨v,I',F',i',H',h1,h2',h2,h6,fun b hb=>⟨(h7 b hb).1,(h7 b hb).2.1⟩,fun b hb=>(h7 b hb).2.2,h4,h5,h8⟩
def nZ (a:∀ (l:Nat) (E:aD),Yd P G E l xs->(∀k I F W,E.ok (k,false) I F W->A k I W)->T P G E none c {n:=fn.ntmps,g:=params 0 (yieldS l::caps),h:=[],d:=[],i:=(0,false)} (fun e S=>(e= .ret\/e= .normal)/\(S.i=(xs.length,false)\/S.i.2=true))):jk P G f caps xs A:=
 kN hf hname hb hn hres fun l E hy b=>VE (a l E hy b) fun e S ⟨h1,h2⟩=>⟨h1,[],BZ _,Z,h2⟩
def xM (a:∀ (l:Nat) (E:aD),Yd P G E l xs->T P G E none c {n:=fn.ntmps,g:=params 0 (yieldS l::caps),h:=[],d:=[],i:=(0,false)} (fun e S=>(e= .ret\/e= .normal)/\(S.i=(xs.length,false)\/S.i.2=true))):xc P G f caps xs:=
 nZ hf hname hb hn hres fun l E hy _=>a l E hy
end
variable {E:aD} {r:Option Nat} {gd:G4} {o:Oper} {ops:List Oper} {K:St->Prop}
variable {p:Bool} {n a:Nat} {g:Ha} {h:HL} {d:G7}
def ae.envX {i:Nat×Bool} {Kx:SV->Nat×Bool->Prop} (hp:p=false) (c:ev P G E o g i Kx) (f:zO gd g o true) (ht:o.dst=some a) (hd:Nat.blt a n=true) (b:∀ s i',Kx s i'->ae P G E r gd p ops ⟨n,(a,s)::g,h,d,i'⟩ K):ae P G E r gd p (o::ops) ⟨n,g,h,d,i⟩ K:=
 .eff _ hp (c.eff (S:=⟨n,g,h,d,i⟩) Gf) f fun S' ⟨s,i',hq,e⟩=>by subst e;have:=b s i' hq;simpa only [St.set,ht] using this
def ae.yield {A:Nat} {l k:Nat} {xs:List (List SV)} {m args:List SV} {x:Operand} {f:Array Operand} {D:Array TypeId} (hp:p=false) (hy:Yd P G E l xs) (hop:o.op= .call {callee:=.value x,args:=f,argTypes:=D}) (hx:yW g x=some (yieldS l)) (O:uk g f.toList=some args)
 (L:xs[k]? =some m) (q:cJ args m) (M:zO gd g o true) (ht:o.dst=some A) (N:Nat.blt A n=true)
 (j:∀ b,ae P G E r gd p ops ⟨n,(A,zp b)::g,h,d,(k+1,!b)⟩ K):ae P G E r gd p (o::ops) ⟨n,g,h,d,(k,false)⟩ K:=by
 refine .envX (Kx:=fun s i'=>∃ b,s=zp b/\i'=(k+1,!b)) hp (fun n r I F W a next Q hm j hE hF kk=>?_) M ht N fun s i' ⟨b,e1,e2⟩=>by subst e1;subst e2;exact j b
 have H:a.eval x= .func (.yield l) #[] #[]:=j.get Gl hx;have v:=vn O fun y hy' s q=>j y (by simp [hop,Op.operands,Call.operands];exact .inr (by simpa using hy')) s q
 obtain⟨fn,tmps,assign,body,i,c⟩:=hy k m L (n-1) I F W _ hE hF hm (q.dens v);have u:(execOp a.eval o).run P W= .ok (.round l fn tmps assign body) W:=by
  have e:Array.map a.eval f=(f.toList.map a.eval).toArray:=by apply AW;simp
  simp only [execOp,hop,resolve,H,Deferred.ofValue,Sem.run_bind,Sem.run_pure,Result.andThen_ok,invoke,BS,e,i]
 refine xg GW u ⟨fun h=>by simp [Fr,Fence.wide] at h,RoundIn.mono (show RoundIn (Fr r) (n-1) P l fn tmps assign body W _ from c) ?_⟩;rintro e W' ⟨b,I',F',rfl,z,w,t,hf⟩;exact kk _ I' F' W' _ _ ⟨b,Z,Z⟩ hf t z w Z
end
end Go.Sv
namespace Go.Sv
open Go Go.RowKit
section
variable {P:Program} {G:Imm} {E:aD} {r:Option Nat} {gd:G4} {p:Bool} {o:Oper} {ops:List Oper} {K:St->Prop} {n t:Nat} {g:Ha} {h:HL} {d:G7} {i:Nat×Bool} {s:SV}
variable {y:Code} {l:List Oper} {id:Nat} {k:List SV} {S:St} {f:FuncId} {Q:Hb} {H:HL}
def zo (b:OpOK P G h o g s) (a:ae P G E r gd p ops ⟨n,(t,s)::g,h,d,i⟩ K) (c:zO gd g o true:=by first | exact Z | exact gB Z Z Z Z) (ht:o.dst=some t:=by exact Z) (e:Nat.blt t n=true:=by exact Z):ae P G E r gd p (o::ops) ⟨n,g,h,d,i⟩ K:=ae.one b c ht e a
def zz (a:ae P G E r gd p ops ⟨n,(t,s)::g,h,d,i⟩ K)
 (b:OpOK P G h o g s:=by
  first
  | exact zC Z Z | exact yt Z Z | exact xl Z Z Z | exact xP Z Z | exact zZ Z Z Z Z | exact yC Z Z Z | exact wI Z Z | exact zS Z Z Z
  | exact yN Z Z | exact jT Z Z | exact zQ 0 Z Z Z Z | exact xp Z Z Z | exact zG Z Z Z Z | exact yQ Z Z Z | exact Xm Z Z | exact zE 0 Z Z Z Z Z
  | exact ZJ Z Z | exact lk Z Z | exact zQ 1 Z Z Z Z | exact zE 1 Z Z Z Z Z | exact zQ 2 Z Z Z Z | exact Yb Z Z Z | exact VH Z Z Z)
 (c:zO gd g o true:=by first | exact Z | exact gB Z Z Z Z) (ht:o.dst=some t:=by exact Z) (e:Nat.blt t n=true:=by exact Z):ae P G E r gd p (o::ops) ⟨n,g,h,d,i⟩ K:=ae.one b c ht e a
def zA (a:ae P G E r gd p ops ⟨n,(t,s)::g,h,d,i⟩ K)
 (b:OpOK P G h o g s:=by first | exact yK Z Z Z Z (wrap_i64 (by omega) (by omega)) | exact yO Z Z (xA (by omega) (by omega)) | exact yO Z Z (vt (by omega) (by omega)))
 (c:zO gd g o true:=by first | exact Z | exact gB Z Z Z Z) (ht:o.dst=some t:=by exact Z) (e:Nat.blt t n=true:=by exact Z):ae P G E r gd p (o::ops) ⟨n,g,h,d,i⟩ K:=ae.one b c ht e a
def za {k:IntKind} (z:Int) (a:ae P G E r gd p ops ⟨n,(t,ze k z)::g,h,d,i⟩ K)
 (b:OpOK P G h o g (ze k z):=by first | exact yK Z Z Z (MW some (by omega)) (wrap_i64 (by omega) (by omega)) | exact yK Z Z Z (MW some (by omega)) (xA (by omega) (by omega)))
 (c:zO gd g o true:=by first | exact Z | exact gB Z Z Z Z) (ht:o.dst=some t:=by exact Z) (e:Nat.blt t n=true:=by exact Z):ae P G E r gd p (o::ops) ⟨n,g,h,d,i⟩ K:=ae.one b c ht e a
def zq (a:ae P G E r gd p ops ⟨n,(t,eqS undef)::g,h,d,i⟩ K) (b:zO gd g o false:=by first | exact gB Z Z Z Z | exact gU Z Z Z) (ht:o.dst=some t:=by exact Z) (c:Nat.blt t n=true:=by exact Z):ae P G E r gd p (o::ops) ⟨n,g,h,d,i⟩ K:=ae.no b ht c a
def zx (a:ae P G E r (xX l) false l S (fun S'=>T P G E r y S' Q)):ae P G E r gd p [] S (fun S'=>T P G E r (.seq (.region id l.toArray false) y) S' Q):=.nil (qE a)
def zk {g a:Ha} (h:bN g a:=by repeat (first | exact trivial | refine aa Z ?_)):bN g a:=h
def zM (a:K S):ae P G E r gd p [] S K:=.nil a
def zr (a:ae P G E r (xX l) false l S (fun S'=>T P G E r y S' Q)):T P G E r (.seq (.region id l.toArray false) y) S Q:=qE a
def xK {c:Operand} {t:Nat} {x:Code} {b:Bool} (ht:b=true->T P G E r x S Q) (hf:b=false->T P G E r y S Q) (d:c= .tmp t:=by exact Z) (a:look t S.g=some (zp b):=by exact Z):T P G E r (.cond c x y) S Q:=fj d a ht hf
def zs {fn:Func} {c:Code} {args:List SV} {Q:SV->HL->Prop} (hf:P.funcs[f]? =some fn) (j:T P G aX none c {n:=fn.ntmps,g:=params 0 args,h:=H,d:=[],i:=(0,false)} (ph P fn.results.toList Q)) (a:(fn.name == "runtime.NumGoroutine")=false:=by exact Z) (e:fn.body=some c:=by exact Z) (b:Nat.ble args.length fn.ntmps=true:=by exact Z):CallSpec P G f args H Q:=wR hf a e b j
def yT {t:TypeId} {c:Nat} {zs:List Value} [al P t zs] (e:∀ b,ae P G E r gd p ops ⟨n,(c,G9 b)::g,⟨some b,t,zs.map eqS,0⟩::h,d,i⟩ K) (hp:p=false:=by exact Z) (a:o.op= .alloc t:=by exact Z) (f:zO gd g o true:=by first | exact Z | exact gB Z Z Z Z) (ht:o.dst=some c:=by exact Z) (j:Nat.blt c n=true:=by exact Z):ae P G E r gd p (o::ops) ⟨n,g,h,d,i⟩ K:=ae.alloc hp a f ht j e
def zf {xs:Array Operand} {b:Array TypeId} {args:List SV} (c:zm P G f args s) (e:ae P G E r gd p ops ⟨n,(t,s)::g,h,d,i⟩ K)
 (a:o.op= .call {callee:=.value (.func f),args:=xs,argTypes:=b}:=by exact Z) (l:uk g xs.toList=some args:=by exact Z) (j:zO gd g o true:=by first | exact Z | exact gB Z Z Z Z) (ht:o.dst=some t:=by exact Z) (k:Nat.blt t n=true:=by exact Z):ae P G E r gd p (o::ops) ⟨n,g,h,d,i⟩ K:=
 ae.one (hZ (VL a l c)) j ht k e
def zw {h':HL} (c:ae P G E r gd p ops ⟨n,g,h',d,i⟩ K)
 (b:∀ K',ae P G E r gd p ops ⟨n,g,h',d,i⟩ K'->ae P G E r gd p (o::ops) ⟨n,g,h,d,i⟩ K':=by
  intro _ a
  first
  | exact ae.store 0 Z Z Z Z Z Z Z Z Z a | exact ae.store 1 Z Z Z Z Z Z Z Z Z a | exact ae.store 2 Z Z Z Z Z Z Z Z Z a | exact ae.store 3 Z Z Z Z Z Z Z Z Z a | exact ae.store 4 Z Z Z Z Z Z Z Z Z a):ae P G E r gd p (o::ops) ⟨n,g,h,d,i⟩ K:=b K c
end
end Go.Sv
namespace Go.Sv
open Go Go.RowKit
section
variable {P:Program} {G:Imm} {E:aD} {r:Option Nat} {gd:G4} {p:Bool} {ops:List Oper} {K:St->Prop} {n t ty:Nat} {g:Ha} {h:HL} {d:G7} {i:Nat×Bool} {s:SV} {ps:String} {af:Array Edge} {gu:Option (Nat×Bool)} {x y z:Operand}
variable {u v:Nat} {a:Array Operand}
def ya (a:ae P G E r gd p ops ⟨n,(t,s)::g,h,d,i⟩ K) (b:OpOK P G h ⟨some t,.move x,ty,ps,af,gu⟩ g s:=by exact zC Z Z)
 (c:zO gd g ⟨some t,.move x,ty,ps,af,gu⟩ true:=by first | exact Z | exact gB Z Z Z Z) (e:Nat.blt t n=true:=by exact Z):ae P G E r gd p (⟨some t,.move x,ty,ps,af,gu⟩::ops) ⟨n,g,h,d,i⟩ K:=ae.one b c Z e a
def yb (a:ae P G E r gd p ops ⟨n,(t,s)::g,h,d,i⟩ K) (b:OpOK P G h ⟨some t,.assign x,ty,ps,af,gu⟩ g s:=by exact yt Z Z)
 (c:zO gd g ⟨some t,.assign x,ty,ps,af,gu⟩ true:=by first | exact Z | exact gB Z Z Z Z) (e:Nat.blt t n=true:=by exact Z):ae P G E r gd p (⟨some t,.assign x,ty,ps,af,gu⟩::ops) ⟨n,g,h,d,i⟩ K:=ae.one b c Z e a
def yc (a:ae P G E r gd p ops ⟨n,(t,s)::g,h,d,i⟩ K) (b:OpOK P G h ⟨some t,.pick x y z,ty,ps,af,gu⟩ g s:=by exact xl Z Z Z)
 (c:zO gd g ⟨some t,.pick x y z,ty,ps,af,gu⟩ true:=by first | exact Z | exact gB Z Z Z Z) (e:Nat.blt t n=true:=by exact Z):ae P G E r gd p (⟨some t,.pick x y z,ty,ps,af,gu⟩::ops) ⟨n,g,h,d,i⟩ K:=ae.one b c Z e a
def yd (a:ae P G E r gd p ops ⟨n,(t,s)::g,h,d,i⟩ K) (b:OpOK P G h ⟨some t,.load u x,ty,ps,af,gu⟩ g s:=by first | exact xP Z Z | exact zG Z Z Z Z | exact zQ 0 Z Z Z Z | exact zE 0 Z Z Z Z Z | exact zQ 1 Z Z Z Z | exact zE 1 Z Z Z Z Z | exact zQ 2 Z Z Z Z | exact zE 2 Z Z Z Z Z)
 (c:zO gd g ⟨some t,.load u x,ty,ps,af,gu⟩ true:=by first | exact Z | exact gB Z Z Z Z) (e:Nat.blt t n=true:=by exact Z):ae P G E r gd p (⟨some t,.load u x,ty,ps,af,gu⟩::ops) ⟨n,g,h,d,i⟩ K:=ae.one b c Z e a
def ye {q:BinOp} (a:ae P G E r gd p ops ⟨n,(t,s)::g,h,d,i⟩ K) (b:OpOK P G h ⟨some t,.binOp q u x y v,ty,ps,af,gu⟩ g s:=by exact zZ Z Z Z Z)
 (c:zO gd g ⟨some t,.binOp q u x y v,ty,ps,af,gu⟩ true:=by first | exact Z | exact gB Z Z Z Z) (e:Nat.blt t n=true:=by exact Z):ae P G E r gd p (⟨some t,.binOp q u x y v,ty,ps,af,gu⟩::ops) ⟨n,g,h,d,i⟩ K:=ae.one b c Z e a
def yf (a:ae P G E r gd p ops ⟨n,(t,s)::g,h,d,i⟩ K) (b:OpOK P G h ⟨some t,.fieldAddr u x v,ty,ps,af,gu⟩ g s:=by first | exact yC Z Z Z | exact zS Z Z Z)
 (c:zO gd g ⟨some t,.fieldAddr u x v,ty,ps,af,gu⟩ true:=by first | exact Z | exact gB Z Z Z Z) (e:Nat.blt t n=true:=by exact Z):ae P G E r gd p (⟨some t,.fieldAddr u x v,ty,ps,af,gu⟩::ops) ⟨n,g,h,d,i⟩ K:=ae.one b c Z e a
def yg (a:ae P G E r gd p ops ⟨n,(t,s)::g,h,d,i⟩ K) (b:OpOK P G h ⟨some t,.box u x,ty,ps,af,gu⟩ g s:=by exact jT Z Z)
 (c:zO gd g ⟨some t,.box u x,ty,ps,af,gu⟩ true:=by first | exact Z | exact gB Z Z Z Z) (e:Nat.blt t n=true:=by exact Z):ae P G E r gd p (⟨some t,.box u x,ty,ps,af,gu⟩::ops) ⟨n,g,h,d,i⟩ K:=ae.one b c Z e a
def yh (a:ae P G E r gd p ops ⟨n,(t,s)::g,h,d,i⟩ K) (b:OpOK P G h ⟨some t,.extract x u,ty,ps,af,gu⟩ g s:=by exact xp Z Z Z)
 (c:zO gd g ⟨some t,.extract x u,ty,ps,af,gu⟩ true:=by first | exact Z | exact gB Z Z Z Z) (e:Nat.blt t n=true:=by exact Z):ae P G E r gd p (⟨some t,.extract x u,ty,ps,af,gu⟩::ops) ⟨n,g,h,d,i⟩ K:=ae.one b c Z e a
def yi {w:Array (Nat×Operand)} (a:ae P G E r gd p ops ⟨n,(t,s)::g,h,d,i⟩ K) (b:OpOK P G h ⟨some t,.build u w,ty,ps,af,gu⟩ g s:=by exact yQ Z Z Z)
 (c:zO gd g ⟨some t,.build u w,ty,ps,af,gu⟩ true:=by first | exact Z | exact gB Z Z Z Z) (e:Nat.blt t n=true:=by exact Z):ae P G E r gd p (⟨some t,.build u w,ty,ps,af,gu⟩::ops) ⟨n,g,h,d,i⟩ K:=ae.one b c Z e a
def yj (a:ae P G E r gd p ops ⟨n,(t,s)::g,h,d,i⟩ K) (b:OpOK P G h ⟨some t,.unOp .not u x,ty,ps,af,gu⟩ g s:=by exact Xm Z Z)
 (c:zO gd g ⟨some t,.unOp .not u x,ty,ps,af,gu⟩ true:=by first | exact Z | exact gB Z Z Z Z) (e:Nat.blt t n=true:=by exact Z):ae P G E r gd p (⟨some t,.unOp .not u x,ty,ps,af,gu⟩::ops) ⟨n,g,h,d,i⟩ K:=ae.one b c Z e a
def yk (a:ae P G E r gd p ops ⟨n,(t,s)::g,h,d,i⟩ K) (b:OpOK P G h ⟨some t,.nilCheck x,ty,ps,af,gu⟩ g s:=by first | exact yN Z Z | exact ZJ Z Z)
 (c:zO gd g ⟨some t,.nilCheck x,ty,ps,af,gu⟩ true:=by first | exact Z | exact gB Z Z Z Z) (e:Nat.blt t n=true:=by exact Z):ae P G E r gd p (⟨some t,.nilCheck x,ty,ps,af,gu⟩::ops) ⟨n,g,h,d,i⟩ K:=ae.one b c Z e a
def yl {f:Fn} {b:Array Operand} (c:ae P G E r gd p ops ⟨n,(t,s)::g,h,d,i⟩ K) (e:OpOK P G h ⟨some t,.makeFunc f a b,ty,ps,af,gu⟩ g s:=by exact lk Z Z)
 (j:zO gd g ⟨some t,.makeFunc f a b,ty,ps,af,gu⟩ true:=by first | exact Z | exact gB Z Z Z Z) (k:Nat.blt t n=true:=by exact Z):ae P G E r gd p (⟨some t,.makeFunc f a b,ty,ps,af,gu⟩::ops) ⟨n,g,h,d,i⟩ K:=ae.one e j Z k c
def ym {b:Builtin} {u:Array Nat} (c:ae P G E r gd p ops ⟨n,(t,s)::g,h,d,i⟩ K) (e:OpOK P G h ⟨some t,.call {callee:=.builtin b,args:=a,argTypes:=u},ty,ps,af,gu⟩ g s:=by first | exact wI Z Z | exact Yb Z Z Z | exact VH Z Z Z)
 (f:zO gd g ⟨some t,.call {callee:=.builtin b,args:=a,argTypes:=u},ty,ps,af,gu⟩ true:=by first | exact Z | exact gB Z Z Z Z) (j:Nat.blt t n=true:=by exact Z):ae P G E r gd p (⟨some t,.call {callee:=.builtin b,args:=a,argTypes:=u},ty,ps,af,gu⟩::ops) ⟨n,g,h,d,i⟩ K:=ae.one e f Z j c
def yq {op:Op} {w:Nat×Bool} (a:ae P G E r gd p ops ⟨n,(t,eqS undef)::g,h,d,i⟩ K) (b:zO gd g ⟨some t,op,ty,ps,af,some w⟩ false:=by first | exact gB Z Z Z Z | exact gU Z Z Z) (c:Nat.blt t n=true:=by exact Z):ae P G E r gd p (⟨some t,op,ty,ps,af,some w⟩::ops) ⟨n,g,h,d,i⟩ K:=ae.no b Z c a
def yw {h':HL} (c:ae P G E r gd p ops ⟨n,g,h',d,i⟩ K)
 (b:∀ K',ae P G E r gd p ops ⟨n,g,h',d,i⟩ K'->ae P G E r gd p (⟨none,.store u x y,ty,ps,af,gu⟩::ops) ⟨n,g,h,d,i⟩ K':=by
  intro _ a
  first
  | exact ae.store 0 Z Z Z Z Z Z Z Z Z a | exact ae.store 1 Z Z Z Z Z Z Z Z Z a | exact ae.store 2 Z Z Z Z Z Z Z Z Z a | exact ae.store 3 Z Z Z Z Z Z Z Z Z a | exact ae.store 4 Z Z Z Z Z Z Z Z Z a):ae P G E r gd p (⟨none,.store u x y,ty,ps,af,gu⟩::ops) ⟨n,g,h,d,i⟩ K:=b K c
end
structure Bx (B:Prop):Prop where
  o:B
class BP (b:Bool) (p q:outParam Prop):Prop where
  t:b=true->p
  f:b=false->q
instance {p:Prop} [Decidable p]:BP (decide p) p (¬p):=⟨of_decide_eq_true,of_decide_eq_false⟩
instance {α:Type} [DecidableEq α] {x y:α}:BP (x==y) (x=y) (x≠y):=⟨beq_iff_eq.1,beq_eq_false_iff_ne.1⟩
instance {α:Type} [DecidableEq α] {x y:α}:BP (x != y) (x≠y) (x=y):=⟨bne_iff_ne.1,bne_eq_false_iff_eq.1⟩
section
variable {P:Program} {G:Imm} {E:aD} {r:Option Nat} {S:St}
variable {l:List ResultVar} {g:Ha} {h:HL} {s:SV}
def zd {Q:Hb} {c:Operand} {t:Nat} {x y:Code} {b:Bool} {p q:Prop} (ht:b=true->p->T P G E r x S Q) (hf:b=false->q->T P G E r y S Q) (e:c= .tmp t:=by exact Z) (d:look t S.g=some (zp b):=by exact Z) (a:BP b p q:=by infer_instance):T P G E r (.cond c x y) S Q:=fj e d (fun h=>ht h (a.t h)) (fun h=>hf h (a.f h))
def zt (a:ep P g h l s:=by
 first
 | exact .one (.tmp Z) | exact .none | exact .one (.agg 0 inferInstance Z Z Z Z) | exact .one (.agg 1 inferInstance Z Z Z Z) | exact .one (.agg 2 inferInstance Z Z Z Z) | exact .one (.own 0 inferInstance Z Z Z)
 | (apply ep.many;repeat (first | exact cO.nil | (apply cO.cons;first | exact .tmp Z | exact .agg 0 inferInstance Z Z Z Z | exact .agg 1 inferInstance Z Z Z Z | exact .agg 2 inferInstance Z Z Z Z | exact .own 0 inferInstance Z Z Z | exact .own 1 inferInstance Z Z Z | exact .own 2 inferInstance Z Z Z)))):∃ s' H',ep P g h l s'/\List.Sublist H' h/\(s'=s/\H'=[]):=⟨s,[],a,BZ _,Z,Z⟩
def zu {s0:SV} (a:ep P g h l s0:=by
 first
 | exact .one (.tmp Z) | exact .none | exact .one (.agg 0 inferInstance Z Z Z Z) | exact .one (.agg 1 inferInstance Z Z Z Z) | exact .one (.agg 2 inferInstance Z Z Z Z) | exact .one (.own 0 inferInstance Z Z Z)
 | (apply ep.many;repeat (first | exact cO.nil | (apply cO.cons;first | exact .tmp Z | exact .agg 0 inferInstance Z Z Z Z | exact .agg 1 inferInstance Z Z Z Z | exact .agg 2 inferInstance Z Z Z Z | exact .own 0 inferInstance Z Z Z | exact .own 1 inferInstance Z Z Z | exact .own 2 inferInstance Z Z Z)))) (e:s0=s):∃ s' H',ep P g h l s'/\List.Sublist H' h/\(s'=s/\H'=[]):=⟨s0,[],a,BZ _,e,Z⟩
end
end Go.Sv
namespace Go.Sv
open Go Go.RowKit
section
variable {P:Program} {G:Imm} {E:aD} {r:Option Nat} {gd:G4} {p:Bool} {o:Oper} {ops:List Oper} {K:St->Prop} {n t:Nat} {g:Ha} {h:HL} {d:G7} {i:Nat×Bool} {s:SV} {B C:Prop} {S:St} {Q:Hb} {x y:Code}
variable {ty:Nat} {ps:String} {af:Array Edge} {gu:Option (Nat×Bool)} {u:Nat} {X Y:Operand}
variable {q:Array (Nat×Operand)} {z b:Nat} {a:Array Operand} {k:Operand} {cs:List SV} {H:HL} {f:Op}
def E3 {t n:Nat} [az P t n] {x:Operand} (a:o.op=.load t x) (hx:yW g x=some (yo cs)) (b:cs.length=n):OpOK P G H o g (zl cs):=zG a hx (by grind) b
def E4 (j:Nat) {t n:Nat} [az P t n] {x:Operand} {e k:Nat} (a:o.op=.load t x) (hx:yW g x=some (G9 b)) (d:H[j]? =some ⟨some b,e,cs,k⟩) (c:cs.length=n):OpOK P G H o g (zl cs):=zE j a hx d (by grind) c
def E5 (a:ae P G E r gd p ops ⟨n,(t,s)::g,h,d,i⟩ K) (b:OpOK P G h ⟨some t,.load u X,ty,ps,af,gu⟩ g s:=by first | exact xP Z Z | exact E3 Z Z Z | exact zG Z Z Z Z | exact zQ 0 Z Z Z Z | exact E4 0 Z Z Z Z | exact zE 0 Z Z Z Z Z | exact zQ 1 Z Z Z Z | exact E4 1 Z Z Z Z | exact zE 1 Z Z Z Z Z | exact zQ 2 Z Z Z Z | exact E4 2 Z Z Z Z) (c:zO gd g ⟨some t,.load u X,ty,ps,af,gu⟩ true:=by first | exact Z | exact gB Z Z Z Z) (e:Nat.blt t n=true:=by exact Z):ae P G E r gd p (⟨some t,.load u X,ty,ps,af,gu⟩::ops) ⟨n,g,h,d,i⟩ K:=ae.one b c Z e a
def E6 (a:ae P G E r gd p ops ⟨n,(t,s)::g,h,d,i⟩ K) (b:OpOK P G h ⟨some t,.indexAddr u X Y,ty,ps,af,gu⟩ g s:=by (refine zh Z Z Z ?_ (by assumption);omega)) (c:zO gd g ⟨some t,.indexAddr u X Y,ty,ps,af,gu⟩ true:=by first | exact Z | exact gB Z Z Z Z) (e:Nat.blt t n=true:=by exact Z):ae P G E r gd p (⟨some t,.indexAddr u X Y,ty,ps,af,gu⟩::ops) ⟨n,g,h,d,i⟩ K:=ae.one b c Z e a
def E7 {v:Nat} (a:ae P G E r gd p ops ⟨n,(t,s)::g,h,d,i⟩ K) (b:OpOK P G h ⟨some t,.buildSlice u v q,ty,ps,af,gu⟩ g s:=by exact zy Z Z (by decide) Z (by simp) Z Z) (c:zO gd g ⟨some t,.buildSlice u v q,ty,ps,af,gu⟩ true:=by first | exact Z | exact gB Z Z Z Z) (e:Nat.blt t n=true:=by exact Z):ae P G E r gd p (⟨some t,.buildSlice u v q,ty,ps,af,gu⟩::ops) ⟨n,g,h,d,i⟩ K:=ae.one b c Z e a
def EL (a:ae P G E r gd p (⟨some t,.load u X,ty,ps,af,gu⟩::ops) S K):ae P G E r gd p (⟨some t,.load u X,ty,ps,af,gu⟩::ops) S K:=a
def EM (a:ae P G E r gd p (⟨some t,.move X,ty,ps,af,gu⟩::ops) S K):ae P G E r gd p (⟨some t,.move X,ty,ps,af,gu⟩::ops) S K:=a
def EN (a:ae P G E r gd p (⟨some t,.fieldAddr u X z,ty,ps,af,gu⟩::ops) S K):ae P G E r gd p (⟨some t,.fieldAddr u X z,ty,ps,af,gu⟩::ops) S K:=a
def EO {q:BinOp} (a:ae P G E r gd p (⟨some t,.binOp q u X Y z,ty,ps,af,gu⟩::ops) S K):ae P G E r gd p (⟨some t,.binOp q u X Y z,ty,ps,af,gu⟩::ops) S K:=a
def EP (a:ae P G E r gd p (⟨some t,.nilCheck X,ty,ps,af,gu⟩::ops) S K):ae P G E r gd p (⟨some t,.nilCheck X,ty,ps,af,gu⟩::ops) S K:=a
def ER (a:ae P G E r gd p (⟨some t,.indexAddr u X Y,ty,ps,af,gu⟩::ops) S K):ae P G E r gd p (⟨some t,.indexAddr u X Y,ty,ps,af,gu⟩::ops) S K:=a
def ES {q:Builtin} {b:Array Nat} (c:ae P G E r gd p (⟨some t,.call {callee:=.builtin q,args:=a,argTypes:=b},ty,ps,af,gu⟩::ops) S K):ae P G E r gd p (⟨some t,.call {callee:=.builtin q,args:=a,argTypes:=b},ty,ps,af,gu⟩::ops) S K:=c
def ET (a:ae P G E r gd p (⟨some t,.assign X,ty,ps,af,gu⟩::ops) S K):ae P G E r gd p (⟨some t,.assign X,ty,ps,af,gu⟩::ops) S K:=a
def EU {z:Operand} (a:ae P G E r gd p (⟨some t,.pick X Y z,ty,ps,af,gu⟩::ops) S K):ae P G E r gd p (⟨some t,.pick X Y z,ty,ps,af,gu⟩::ops) S K:=a
def EV (a:ae P G E r gd p (⟨some t,.build u q,ty,ps,af,gu⟩::ops) S K):ae P G E r gd p (⟨some t,.build u q,ty,ps,af,gu⟩::ops) S K:=a
def EW (a:ae P G E r gd p (⟨some t,.extract X u,ty,ps,af,gu⟩::ops) S K):ae P G E r gd p (⟨some t,.extract X u,ty,ps,af,gu⟩::ops) S K:=a
def EX (a:ae P G E r gd p (⟨some t,.buildSlice u z q,ty,ps,af,gu⟩::ops) S K):ae P G E r gd p (⟨some t,.buildSlice u z q,ty,ps,af,gu⟩::ops) S K:=a
def EY (a:ae P G E r gd p (⟨some t,.box u X,ty,ps,af,gu⟩::ops) S K):ae P G E r gd p (⟨some t,.box u X,ty,ps,af,gu⟩::ops) S K:=a
def EZ (a:ae P G E r gd p (⟨some t,.unOp .not u X,ty,ps,af,gu⟩::ops) S K):ae P G E r gd p (⟨some t,.unOp .not u X,ty,ps,af,gu⟩::ops) S K:=a
def E0 {q:Fn} {b:Array Operand} (c:ae P G E r gd p (⟨some t,.makeFunc q a b,ty,ps,af,gu⟩::ops) S K):ae P G E r gd p (⟨some t,.makeFunc q a b,ty,ps,af,gu⟩::ops) S K:=c
def EJ {q:Nat×Bool} (a:ae P G E r gd p (⟨some t,f,ty,ps,af,some q⟩::ops) S K):ae P G E r gd p (⟨some t,f,ty,ps,af,some q⟩::ops) S K:=a
def EK (a:ae P G E r gd p (⟨none,.store u X Y,ty,ps,af,gu⟩::ops) S K):ae P G E r gd p (⟨none,.store u X Y,ty,ps,af,gu⟩::ops) S K:=a
def E2 (a:ae P G E r gd p (⟨some t,f,ty,ps,af,gu⟩::ops) S K):ae P G E r gd p (⟨some t,f,ty,ps,af,gu⟩::ops) S K:=a
def E1 (h:T P G E r x S Q):T P G E r x S Q:=h
end
section
variable {P:Program} {G:Imm} {E:aD} {r:Option Nat} {gd:G4} {p:Bool} {o:Oper} {ops:List Oper} {K:St->Prop} {n t:Nat} {g:Ha} {h:HL} {d:G7} {i:Nat×Bool} {s:SV} {B C:Prop} {S:St} {Q:Hb} {x y:Code}
variable {c:Operand} {A q:Prop} {e:Nat} {a l:Code} {b:Bool} {xs:Array Operand} {k:Array TypeId} {m:List SV} {f:FuncId} {j:IntKind}
def E8 {b:Code} (h:T P G E r (.seq a b) S (ZG (fun S'=>T P G E r y S' Q) Q)):T P G E r (.seq (.seq a b) y) S Q:=zi h
def E9 (h:T P G E r (.block e a) S (ZG (fun S'=>T P G E r y S' Q) Q)):T P G E r (.seq (.block e a) y) S Q:=zi h
def Fa (h:T P G E r (.loop a) S (ZG (fun S'=>T P G E r y S' Q) Q)):T P G E r (.seq (.loop a) y) S Q:=zi h
def Fb {q:Operand} {b:Code} (h:T P G E r (.cond q a b) S (ZG (fun S'=>T P G E r y S' Q) Q)):T P G E r (.seq (.cond q a b) y) S Q:=zi h
def Fe (h:T P G E r .skip S (ZG (fun S'=>T P G E r y S' Q) Q)):T P G E r (.seq .skip y) S Q:=zi h
def Ff {q:Operand} {f:Array Tmp} {b:Code} (h:T P G E r (.rangeFunc q f a b) S (ZG (fun S'=>T P G E r y S' Q) Q)):T P G E r (.seq (.rangeFunc q f a b) y) S Q:=zi h
def Fg {B:Prop} (w:Bx B->A:=by
 intro h
 repeat (first | (refine E1 ?_;first | apply zr | apply zJ | apply zN | apply zB | refine Fb ?_ | refine E9 ?_ | refine Fa ?_ | refine E8 ?_ | refine Fe ?_ | refine Ff ?_ | apply zK) | (refine E2 ?_;first | (refine EL ?_;refine E5 ?_) | (refine EM ?_;refine ya ?_) | (refine EN ?_;refine yf ?_) | (refine EO ?_;refine ye ?_) | (refine EP ?_;refine yk ?_) | (refine ER ?_;refine E6 ?_) | (refine ES ?_;refine ym ?_) | (refine ET ?_;refine yb ?_) | (refine EU ?_;refine yc ?_) | (refine EV ?_;refine yi ?_) | (refine EW ?_;refine yh ?_) | (refine EX ?_;refine E7 ?_) | (refine EY ?_;refine yg ?_) | (refine EZ ?_;refine yj ?_) | (refine E0 ?_;refine yl ?_) | (refine EJ ?_;refine yq ?_)) | apply zx | apply zM | (refine EK ?_;refine yw ?_))
 exact h.o):Bx B->A:=w
def zg {B:Prop} (h:B) (w:Bx B->A:=by
 intro h
 repeat (first | (refine E1 ?_;first | apply zr | apply zN | apply zB | apply zJ) | (refine E2 ?_;first | (refine EL ?_;refine yd ?_) | (refine EM ?_;refine ya ?_) | (refine EN ?_;refine yf ?_) | (refine EO ?_;refine ye ?_) | (refine EP ?_;refine yk ?_) | (refine ES ?_;refine ym ?_) | (refine ET ?_;refine yb ?_) | (refine EU ?_;refine yc ?_) | (refine EV ?_;refine yi ?_) | (refine EW ?_;refine yh ?_) | (refine EY ?_;refine yg ?_) | (refine EZ ?_;refine yj ?_) | (refine E0 ?_;refine yl ?_) | (refine EJ ?_;refine yq ?_)) | apply zx | apply zM | (refine EK ?_;refine yw ?_))
 exact h.o):A:=w ⟨h⟩
def Fh {B:Prop} (k:B) (w:Bx B->A:=by exact Fg):A:=w ⟨k⟩
def Fi (a:OpOK P G h o g s) (k:B) (b:zO gd g o true:=by first | exact Z | exact gB Z Z Z Z) (ht:o.dst=some t:=by exact Z) (c:Nat.blt t n=true:=by exact Z) (w:Bx B->ae P G E r gd p ops ⟨n,(t,s)::g,h,d,i⟩ K:=by exact Fg):ae P G E r gd p (o::ops) ⟨n,g,h,d,i⟩ K:=ae.one a b ht c (w ⟨k⟩)
def Fj (z:Int) (k:B) (a:OpOK P G h o g (ze j z):=by first | exact yK Z Z Z (MW some (by omega)) (wrap_i64 (by omega) (by omega)) | exact yK Z Z Z (MW some (by omega)) (xA (by omega) (by omega))) (b:zO gd g o true:=by first | exact Z | exact gB Z Z Z Z) (ht:o.dst=some t:=by exact Z) (c:Nat.blt t n=true:=by exact Z) (w:Bx B->ae P G E r gd p ops ⟨n,(t,ze j z)::g,h,d,i⟩ K:=by exact Fg):ae P G E r gd p (o::ops) ⟨n,g,h,d,i⟩ K:=ae.one a b ht c (w ⟨k⟩)
def Do (z:Nat) (k:B) (a:OpOK P G h o g (ze j z):=by first | exact yK Z Z Z (MW some (by omega)) (wrap_i64 (by omega) (by omega)) | exact yK Z Z Z (MW some (by omega)) (xA (by omega) (by omega))) (b:zO gd g o true:=by first | exact Z | exact gB Z Z Z Z) (ht:o.dst=some t:=by exact Z) (c:Nat.blt t n=true:=by exact Z) (w:Bx B->ae P G E r gd p ops ⟨n,(t,ze j z)::g,h,d,i⟩ K:=by exact Fg):ae P G E r gd p (o::ops) ⟨n,g,h,d,i⟩ K:=ae.one a b ht c (w ⟨k⟩)
def Fk {b:Array TypeId} {args:List SV} (c:zm P G f args s) (k:B) (a:o.op=.call {callee:=.value (.func f),args:=xs,argTypes:=b}:=by exact Z) (l:uk g xs.toList=some args:=by exact Z) (e:zO gd g o true:=by first | exact Z | exact gB Z Z Z Z) (ht:o.dst=some t:=by exact Z) (j:Nat.blt t n=true:=by exact Z) (w:Bx B->ae P G E r gd p ops ⟨n,(t,s)::g,h,d,i⟩ K:=by exact Fg):ae P G E r gd p (o::ops) ⟨n,g,h,d,i⟩ K:=ae.one (hZ (VL a l c)) e ht j (w ⟨k⟩)
def Fl {b:Array TypeId} {args:List SV} (a:o.op=.call {callee:=.value (.func f),args:=xs,argTypes:=b}) (l:uk g xs.toList=some args) (c:zm P G f args s) (k:B) (e:zO gd g o true:=by first | exact Z | exact gB Z Z Z Z) (ht:o.dst=some t:=by exact Z) (j:Nat.blt t n=true:=by exact Z) (w:Bx B->ae P G E r gd p ops ⟨n,(t,s)::g,h,d,i⟩ K:=by exact Fg):ae P G E r gd p (o::ops) ⟨n,g,h,d,i⟩ K:=ae.one (hZ (VL a l c)) e ht j (w ⟨k⟩)
def Fm {t:TypeId} {c:Nat} {zs:List Value} {B:Nat->Prop} (k:∀b,B b) (hp:p=false:=by exact Z) (a:o.op=.alloc t:=by exact Z) (e:al P t zs:=by infer_instance) (f:zO gd g o true:=by first | exact Z | exact gB Z Z Z Z) (ht:o.dst=some c:=by exact Z) (j:Nat.blt c n=true:=by exact Z) (w:∀b,Bx (B b)->ae P G E r gd p ops ⟨n,(c,G9 b)::g,⟨some b,t,zs.map eqS,0⟩::h,d,i⟩ K:=by intro _;exact Fg):ae P G E r gd p (o::ops) ⟨n,g,h,d,i⟩ K:=have:=e;ae.alloc hp a f ht j fun b=>w b ⟨k b⟩
def Fo {t:Nat} {p:Prop} (k1:b=true->p->B) (k2:b=false->q->C) (e:c=.tmp t:=by exact Z) (d:look t S.g=some (zp b):=by exact Z) (a:BP b p q:=by infer_instance) (w:Bx B->T P G E r x S Q:=by exact Fg) (v:Bx C->T P G E r y S Q:=by exact Fg):T P G E r (.cond c x y) S Q:=fj e d (fun h=>w ⟨k1 h (a.t h)⟩) (fun h=>v ⟨k2 h (a.f h)⟩)
def Fp {t:Nat} (k1:b=true->B) (k2:b=false->C) (d:c=.tmp t:=by exact Z) (a:look t S.g=some (zp b):=by exact Z) (w:Bx B->T P G E r x S Q:=by exact Fg) (v:Bx C->T P G E r y S Q:=by exact Fg):T P G E r (.cond c x y) S Q:=fj d a (fun h=>w ⟨k1 h⟩) (fun h=>v ⟨k2 h⟩)
def FP {t:Nat} {p:Prop} (k1:b=true->p->B) (k2:b=false->q->T P G E r y S Q) (e:c=.tmp t:=by exact Z) (d:look t S.g=some (zp b):=by exact Z) (a:BP b p q:=by infer_instance) (w:Bx B->T P G E r x S Q:=by exact Fg):T P G E r (.cond c x y) S Q:=fj e d (fun h=>w ⟨k1 h (a.t h)⟩) (fun h=>k2 h (a.f h))
def FQ {t:Nat} {p:Prop} (k1:b=true->p->T P G E r x S Q) (k2:b=false->q->C) (e:c=.tmp t:=by exact Z) (d:look t S.g=some (zp b):=by exact Z) (a:BP b p q:=by infer_instance) (v:Bx C->T P G E r y S Q:=by exact Fg):T P G E r (.cond c x y) S Q:=fj e d (fun h=>k1 h (a.t h)) (fun h=>v ⟨k2 h (a.f h)⟩)
def FR {t:Nat} (k1:b=true->B) (k2:b=false->T P G E r y S Q) (d:c=.tmp t:=by exact Z) (a:look t S.g=some (zp b):=by exact Z) (w:Bx B->T P G E r x S Q:=by exact Fg):T P G E r (.cond c x y) S Q:=fj d a (fun h=>w ⟨k1 h⟩) (fun h=>k2 h)
def FT {t:Nat} (k1:b=true->T P G E r x S Q) (k2:b=false->C) (d:c=.tmp t:=by exact Z) (a:look t S.g=some (zp b):=by exact Z) (v:Bx C->T P G E r y S Q:=by exact Fg):T P G E r (.cond c x y) S Q:=fj d a (fun h=>k1 h) (fun h=>v ⟨k2 h⟩)
def Fq {fn:Func} {c:Code} {args:List SV} {H:HL} {Q:SV->HL->Prop} (hf:P.funcs[f]? =some fn) (k:B) (a:(fn.name== "runtime.NumGoroutine")=false:=by exact Z) (e:fn.body=some c:=by exact Z) (b:Nat.ble args.length fn.ntmps=true:=by exact Z) (w:Bx B->T P G aX none c {n:=fn.ntmps,g:=params 0 args,h:=H,d:=[],i:=(0,false)} (ph P fn.results.toList Q):=by exact Fg):CallSpec P G f args H Q:=wR hf a e b (w ⟨k⟩)
def Fs {S2:St} (h:aF G E r S S2) (k:B) (w:Bx B->T P G E r x S2 Q:=by exact Fg):T P G E r x S Q:=zH h (w ⟨k⟩)
end
end Go.Sv
namespace Go.Sv
open Go Go.RowKit
section
variable {P:Program} {G:Imm} {E:aD} {r:Option Nat} {gd:G4} {p:Bool} {o:Oper} {ops:List Oper} {K:St->Prop} {n t:Nat} {g:Ha} {h:HL} {d:G7} {i:Nat×Bool} {s:SV} {B C:Prop} {S:St} {Q:Hb} {x y:Code}
variable {α:Type} {k:List Value} {f:α->List SV} {m j:Operand} {cs:List SV} {l:List α} {c e st a z b:Nat} {q:G3}
def Fx (j:Nat) {t m:Nat} {zs:List Value} [am P t e st] [av P e zs a] {x y:Operand} {B:G3->Prop} (b:o.op=.call {callee:=.builtin .append,args:= #[x,y],argTypes:= #[t,t]}) (hx:yW g x=some (eqS (rowV q m))) (hy:yW g y=some (zR st f l)) (F:h[j]? =some (rowE q e st m cs)) (hq:zX q m) (u:cs.length=m*st) (k:∀q,zX q (m+l.length)->B q) (hp:p=false:=by exact Z) (v:zO gd g o true:=by first | exact Z | exact gB Z Z Z Z) (ht:o.dst=some c:=by exact Z) (A:Nat.blt c n=true:=by exact Z) (hf:∀z∈l,(f z).length=st:=by first | exact fun _ _=>rfl | (intro z hz;rw [AS.1 hz];rfl) | exact yZ) (D:(m+l.length)*a<=yE:=by unfold yE;first | omega | (simp;omega)) (s:m+l.length<=yE:=by unfold yE;first | omega | (simp;omega)) (w:∀q,Bx (B q)->ae P G E r gd p ops ⟨n,(c,eqS (rowV q (m+l.length)))::g,wE h j [rowE q e st (m+l.length) (cs++l.flatMap f)],d,i⟩ K:=by intro _;exact Fg):ae P G E r gd p (o::ops) ⟨n,g,h,d,i⟩ K:=ae.append j hp b hx hy F v ht A hq u hf D s fun q hq=>w q ⟨k q hq⟩
def FL (j:Nat) {t m:Nat} {zs:List Value} [am P t e st] [av P e zs a] {x y:Operand} (b:o.op=.call {callee:=.builtin .append,args:= #[x,y],argTypes:= #[t,t]}) (hx:yW g x=some (eqS (rowV q m))) (hy:yW g y=some (zR st f l)) (D:h[j]? =some (rowE q e st m cs)) (hq:zX q m) (u:cs.length=m*st) (k:∀q,zX q (m+l.length)->ae P G E r gd p ops ⟨n,(c,eqS (rowV q (m+l.length)))::g,wE h j [rowE q e st (m+l.length) (cs++l.flatMap f)],d,i⟩ K) (hp:p=false:=by exact Z) (v:zO gd g o true:=by first | exact Z | exact gB Z Z Z Z) (ht:o.dst=some c:=by exact Z) (w:Nat.blt c n=true:=by exact Z) (hf:∀z∈l,(f z).length=st:=by first | exact fun _ _=>rfl | (intro z hz;rw [AS.1 hz];rfl) | exact yZ) (A:(m+l.length)*a<=yE:=by unfold yE;first | omega | (simp;omega)) (s:m+l.length<=yE:=by unfold yE;first | omega | (simp;omega)):ae P G E r gd p (o::ops) ⟨n,g,h,d,i⟩ K:=ae.append j hp b hx hy D v ht w hq u hf A s k
end
end Go.Sv
