/- The rule of a range over a function. -/
import Derived.Test.YtceodgbmninaoaaGreatDoorSvi
import Derived.Laws.Externs
set_option linter.all false
namespace Go.Sv
open Go Go.RowKit
section
variable {P:Program} {G:Imm} {E:aD} {r:Option Nat} {S:St} {Q:Hb}
variable {F O:Nat->Prop} {InvX:Exit->HL->Nat×Bool->Prop} {Inv:Nat->HL->Nat×Bool->Prop} {W W':World} {l:Nat} {I I':Imm} {a:Act} {ro:Loop} {g:Ha}
def Sat.putLoop (f:Sat G E (some l) S I F a W) (c:Loop):Sat G E (some l) S I F a (W.putObj l (.loop c))/\Fram (fun b=>own S F b\/b=l) I W (fun b=>own S F b\/b=l) I (W.putObj l (.loop c))/\(W.putObj l (.loop c)).heap[l]? =some (.loop c):=by
 obtain⟨⟨h,i⟩,j⟩:=f.l l Z;have d:(W.putObj l (.loop c)).heap[l]? =some (.loop c):=World.putObj_heap_same (yv i);obtain⟨n,hf⟩:=uz (W':=W.putObj l (.loop c)) f.m (vu f.m i GS) Z Z Z B fun k hk=>World.putObj_heap_other hk;exact⟨f.stay hf (fun b e=>e▸j) n fun k hk=>by grind,hf.weaken (fun b g=>.inr g) fun b g=>.inr g,d⟩
def Sat.has (c:Sat G E r S I F a W) {b:Nat} (h:own S F b):b<W.heap.size/\I b=none:=by
 rcases h with h | h | h
 .exact c.h.lt h
 .have:=c.dk b h;exact⟨yv this,vu c.m this GS⟩
 .exact⟨(c.f b h).1,(c.f b h).2.1⟩
def Sat.not_own (c:Sat G E r S I F a W) {b:Nat} {o:Loop} (h:W.heap[b]? =some (.loop o)) (d:¬ F b):¬ own S F b:=by
 rintro (h1 | h1 | h1)
 .exact Jx c.h h GS h1
 .have:=c.dk b h1;grind
 grind
def Xr:G7->List SV->Ha
 | p::ps,s::ss=>(p,s)::Xr ps ss
 | _,_=>[]
theorem zb6 {t:Nat} {s:SV}:∀ {ps:G7} {a:List SV},a.length=ps.length->look t (Xr ps a++g)=some s->(∃j:Nat,ps[j]? =some t/\a[j]? =some s)\/(t∉ps/\look t g=some s)
  | [],[],_,h=>.inr ⟨B,by assumption⟩
  | [],_::_,hl,_=>by grind
  | _::_,[],hl,_=>by grind
  | p::ps,s0::a,hl,h=>by
    simp only [Xr,B1,look] at h
    split at h
    . rename_i e;cases h;exact .inl ⟨0,by simp_all,Z⟩
    . rename_i e
      rcases zb6 (by grind) h with ⟨j,h1,b⟩ | ⟨h1,b⟩
      . exact .inl ⟨j+1,by assumption,by assumption⟩
      . exact .inr ⟨fun c=>(DZ.1 c).elim (fun e'=>by simp_all) h1,b⟩
abbrev WP (ps:List Nat) (vs:List Value) (tmps:Array Value):Array Value:=(ps.zip vs).foldl (fun t x=>t.setIfInBounds x.1 x.2) tmps
def VN {t:Nat}:∀ {ps:G7} {vs:List Value} {tmps:Array Value},t∉ps->(WP ps vs tmps).getD t undef=tmps.getD t undef
 | [],_,_,_=>by rfl
 | _::_,[],_,_=>by rfl
 | p::ps,v::vs,tmps,h=>by
  have a:p≠t:=fun e=>h (by grind)
  simp only [WP,List.zip_cons_cons,Au];have:=VN (vs:=vs) (tmps:=tmps.setIfInBounds p v) fun hm=>h (Bi _ hm);simp_all
def zen {t:Nat} {x:Value}:∀ {ps:G7} {vs:List Value} {tmps:Array Value} {j:Nat},ps.Nodup->ps[j]? =some t->vs[j]? =some x->t<tmps.size->(WP ps vs tmps).getD t undef=x
 | [],_,_,_,_,h,_,_=>by grind
 | _::_,[],_,_,_,_,h,_=>by grind
 | p::ps,v::vs,tmps,j,hnd,hp,hv,hlt=>by
  have a:=List.nodup_cons.1 hnd;simp only [WP,List.zip_cons_cons,Au];cases j with
  | zero=>
   simp at hp hv;subst hp;subst hv;have:=VN (vs:=vs) (tmps:=tmps.setIfInBounds p v) a.1;simp_all
  | succ j=>
   have:=zen (tmps:=tmps.setIfInBounds p v) a.2 (by simpa using hp) (by simpa using hv) (by simpa using hlt);omega
def zjT {ps:G7} {a:List SV} {vs:List Value} {tmps:Array Value} (i:dens I a vs) (e:a.length=ps.length) (b:ps.Nodup) (hp:∀ p∈ps,p<tmps.size) (f:∀ t s,look t g=some s->s.den I (tmps.getD t undef)) (t:Nat) (s:SV)
 (h:look t (Xr ps a++g)=some s):s.den I ((WP ps vs tmps).getD t undef):=by
 rcases zb6 e h with ⟨j,h1,c⟩ | ⟨h1,c⟩
 .obtain⟨x,hx,d⟩:=i.get c;rw [zen b h1 hx (hp t (AE h1))];omega
 .rw [VN h1];grind
def UF:Exit->Option Code
 | .ret=>some .ret
 | .exit id=>some (.exit id)
 | _=>none
def fT (G:Imm) (E:aD) (r:Option Nat) (ro:Loop) (S:St) (a:Act) (l:Nat) (rec:LoopState->Option Code->Loop) (Inv:Nat->HL->Nat×Bool->Prop) (InvX:Exit->HL->Nat×Bool->Prop) (i:Nat×Bool) (I:Imm) (F:Nat->Prop) (W:World):Prop:=
  ∃h ie Fc,Sat G E r {S with h:=h,i:=ie} I Fc a W/\(∀b,F b↔own {S with h:=h,i:=ie} Fc b\/b=l\/r=some b)/\¬ Fc l/\(∀k,r=some k->k≠l/\W.heap[k]? =some (.loop ro)) /\
    ((i.2=false/\W.heap[l]? =some (.loop (rec .ready none))/\Inv i.1 h ie)\/(i.2=true/\∃ e c,UF e=some c/\W.heap[l]? =some (.loop (rec .done (some c)))/\InvX e h ie))
def fT.now {g:LoopState->Option Code->Loop} {i:Nat×Bool} (h:fT G E r ro S a l g Inv InvX i I F W) (f:Fram (fun b=>¬ F b) I W O I' W') (s:Holds G I' W'):fT G E r ro S a l g Inv InvX i I' F W':=by
 obtain⟨h,p,Fc,q,j,u,m,t⟩:=h;have fr:∀ b o,F b->W.heap[b]? =some o->W'.heap[b]? =some o:=fun b o h1 d=>(f.old b (yv d) fun h=>h h1).trans d;have n:=fun k hk=>fr k _ ((j k).2 (.inr (.inr hk))) (m k hk).2;have fl:=fun o=>fr l o ((j l).2 (.inr (.inl Z)));exact⟨h,p,Fc,q.stay f (fun b h1 d=>h1 ((j b).2 (.inl d))) s fun k hk=>⟨ro,n k hk⟩,j,u,fun k hk=>⟨(m k hk).1,n k hk⟩,t.imp (fun⟨h1,d,h3⟩=>⟨h1,fl _ d,h3⟩) fun⟨h1,e,c,d,h3,h4⟩=>⟨h1,e,c,d,fl _ h3,h4⟩⟩
def zqK (G:Imm) (E:aD) (r:Option Nat) (ro:Loop) (S:St) (a:Act) (l:Nat) (rec:LoopState->Option Code->Loop) (Inv:Nat->HL->Nat×Bool->Prop) (InvX:Exit->HL->Nat×Bool->Prop):aD where
 ok i I F W:=∃ I1 W1,fT G E r ro S a l rec Inv InvX i I1 F W1/\Fram (fun b=>¬ F b) I1 W1 (fun b=>¬ F b) I W
 stab:=by
  rintro i I F W I' W' ⟨I1,W1,h,f⟩ hle hos ht ho hs hw hn;exact⟨I1,W1,h,hos.trans f.os,ht.trans f.tape,ho.trans f.output,Imm.le_trans f.imm hle,Ag f.size hs,fun b hb hb'=>(hw b (Classical.not_not.1 hb')).trans (f.old b hb hb'),fun b _ hb'=>.inl fun hF=>hb' (hn b hF),fun _ h=>.inl h⟩
def Jy (Inv:Nat->HL->Nat×Bool->Prop) (InvX:Exit->HL->Nat×Bool->Prop) (k:Nat):Hb
 | .normal,S=>Inv (k+1) S.h S.i
 | .ret,S=>InvX .ret S.h S.i
 | .exit id,S=>InvX (.exit id) S.h S.i
 | _,_=>False
def zb7 (f:Fram O I W F I' W') (X:Nat->Prop):Fram (fun b=>O b\/X b) I W (fun b=>F b\/X b) I' W':=
 f.weaken (fun _ h=>.inl h) fun _ hb=>hb.elim .inl fun h=>.inr (.inr h)
theorem zqL {fnid:FuncId} {ps:Array Tmp} {assign body:Code} {db:Nat} {xs:List (List SV)}
    (a1:∀ L∈xs,L.length=ps.size) (a3:ps.toList.Nodup) (a2:∀ p∈ps.toList,p<S.n)
    (Q:∀ (k:Nat) (L:List SV) (h:HL) (i:Nat×Bool),xs[k]? =some L->Inv k h i->T P G E (some l) assign ⟨S.n,Xr ps.toList L++S.g,h,[],i⟩ (fun e S'=>e= .normal/\T P G E (some l) body S' (Jy Inv InvX k))):
    Yd P G (zqK G E r ro S a l (fun st pe=>{state:=st,pending:=pe,fn:=fnid,tmps:=a.tmps,params:=ps,assign:=assign,body:=body,defers:=db}) Inv InvX) l xs:=by
  intro k L hk n I F W vs ⟨I1,W1,h1,f0⟩ b0 hm hd;obtain⟨h,ie,Fc,s0,hF,hc,hr,hl⟩:=h1.now f0 hm;obtain⟨_,A,a0⟩:(k,false).2=false/\_/\_:=hl.elim id fun⟨h,_⟩=>by cases h
  have a7:=a1 L (AE hk);have Y:vs.toArray.size=ps.size:=by have:=hd.1;simp;omega
  refine⟨fnid,_,assign,body,run_yield A Y,roundIn_of_wpIn trivial ?_⟩;have a4:=s0.not_own A hc
  have D:((ps.zip vs.toArray).foldl (fun (t:Array Value) (x:Tmp×Value)=>t.setIfInBounds x.1 x.2) a.tmps)=((ps.toList.zip vs).foldl (fun (t:Array Value) (x:Tmp×Value)=>t.setIfInBounds x.1 x.2) a.tmps):=by
    rw [<-Array.foldl_toList];simp
  have a8:∀ (z:List (Tmp×Value)) (t:Array Value),(z.foldl (fun (t:Array Value) (x:Tmp×Value)=>t.setIfInBounds x.1 x.2) t).size=t.size:=by
    intro z
    induction z with
    | nil=>intro t;rfl
    | cons x z ih=>intro t;simp only [Au];rw [ih];simp
  have hs:Sat G E (some l) ⟨S.n,Xr ps.toList L++S.g,h,[],ie⟩ I Fc {tmps:=((ps.zip vs.toArray).foldl (fun (t:Array Value) (x:Tmp×Value)=>t.setIfInBounds x.1 x.2) a.tmps),defers:=[]} W:=
    ⟨by simp only [D,a8,s0.n],fun t s ht=>by rw [D];exact zjT hd (by rw [a7];simp) a3 (fun p hp=>by rw [s0.n];exact a2 p hp) s0.g t s ht,hm,s0.h,Z,BX,fun b K=>(by cases K),s0.e,fun b K=>⟨(s0.f b K).1,(s0.f b K).2.1,(s0.f b K).2.2.1,B⟩,fun j M=>by cases M;exact⟨⟨_,A⟩,fun h=>a4 (h.imp id fun h=>.inr (h.elim B id))⟩⟩
  refine wpIn_mono (Q k L h ie hk a0 n I Fc _ W hs) fun e a₁ W₁ ⟨S₁,I₁,F₁,s1,⟨he,hT⟩,f1⟩=>?_;subst he;have a6:=(f1.old l (yv A) (hs.l l Z).2).trans A;refine⟨_,run_beginRound a6 Z,?_⟩;obtain⟨s2,f2,e2⟩:=s1.putLoop {state:=.busy,pending:=none,fn:=fnid,tmps:=a.tmps,params:=ps,assign:=assign,body:=body,defers:=db};refine wpIn_mono (hT n I₁ F₁ a₁ _ s2) fun e a₂ W₂ ⟨S₂,I₂,F₂,s3,hq,f3⟩=>?_;have a5:=(f3.old l (yv e2) (s2.l l Z).2).trans e2
  have R:∀ (q:Option Code) (u:Loop) (b:Bool),(Instr.endRound l q).run P W₂= .ok (.bool b) (W₂.putObj l (.loop u)) ->
      ((b=true/\u={state:=.ready,pending:=none,fn:=fnid,tmps:=a.tmps,params:=ps,assign:=assign,body:=body,defers:=db}/\Inv (k+1) S₂.h S₂.i) \/
       (b=false/\∃ e c,UF e=some c/\u={state:=.done,pending:=some c,fn:=fnid,tmps:=a.tmps,params:=ps,assign:=assign,body:=body,defers:=db}/\InvX e S₂.h S₂.i)) ->
      ∃v w',(Instr.endRound l q).run P W₂= .ok v w'/\∃ b I' F',Ending.returned v= .returned (.bool b)/\(zqK G E r ro S a l (fun st pe=>{state:=st,pending:=pe,fn:=fnid,tmps:=a.tmps,params:=ps,assign:=assign,body:=body,defers:=db}) Inv InvX).ok (k+1,!b) I' F' w'/\YZ F' I' w'/\Holds G I' w'/\Fram F I W F' I' w':=by
    intro q u b X O;obtain⟨s4,f4,e4⟩:=s3.putLoop u;have y:=(((zb7 f1 (· =l)).trans f2).trans (zb7 f3 (· =l))).trans f4;have U:∀ b o,W.heap[b]? =some o->(∀c e f,o≠ .cells c e f)->¬ Fc b->b≠l->(W₂.putObj l (.loop u)).heap[b]? =some o:=fun b o h1 h2 h3 h4=>(y.old b (yv h1) fun h=>h.elim (fun h=>h.elim (Jx s0.h h1 h2) fun h=>h.elim B h3) h4).trans h1;have N:∀ j,r=some j->j≠l/\(W₂.putObj l (.loop u)).heap[j]? =some (.loop ro):=fun j M=>⟨(hr j M).1,U j _ (hr j M).2 GS (fun h=>(s0.l j M).2 (.inr (.inr h))) (hr j M).1⟩;have s5:=s0.anew y.imm s4.m s4.h s4.e (fun b K=>U b _ (s0.dk b K) GS (fun h=>(s0.f b h).2.2.2 K) fun e=>by have:=s0.dk b K;rw [e,A] at this;cases this) (fun j M=>⟨ro,(N j M).2⟩)
      (fun c d=>(y.own c (.inl (d.imp id .inr))).elim (fun h=>h.elim (fun h=>h.imp id fun h=>.inl (h.elim B id)) fun e=>M1 (e▸d.imp id .inr) (s4.l l Z).2) fun h=>.inr (.inr h)) fun c d=>⟨(s4.f c d).1,(s4.f c d).2.1,(s4.f c d).2.2.1⟩
    refine⟨_,_,X,b,I₂,fun c=>own {S with h:=S₂.h,i:=S₂.i} F₂ c\/c=l\/r=some c,Z,⟨_,_,⟨S₂.h,S₂.i,F₂,s5,fun c=>Iff.rfl,fun h=>(s4.l l Z).2 (.inr (.inr h)),N,?_⟩,.refl _ _ _⟩,?_,s4.m,y.weaken (fun c d=>(hF c).2 ?_) fun c d=>?_⟩
    . rcases O with ⟨rfl,rfl,hi⟩ | ⟨rfl,e,c,a9,rfl,hi⟩
      . exact .inl ⟨Z,e4,hi⟩
      . exact .inr ⟨Z,e,c,a9,e4,hi⟩
    . rintro c (h' | rfl | h')
      . exact s5.has h'
      . exact⟨yv e4,vu s4.m e4 GS⟩
      . have:=(N c h').2;exact⟨yv this,vu s4.m this GS⟩
    . exact d.imp (.imp id fun h=>.inr (h.elim B id)) .inl
    . rcases d with (h' | h' | h') | h' | h'
      . exact .inl (.inl (.inl h'))
      . exact .inr ((hF c).2 (.inl (.inr (.inl h'))))
      . exact .inl (.inl (.inr (.inr h')))
      . exact .inl (.inr h')
      . exact .inr ((hF c).2 (.inr (.inr h')))
  have H:=fun q=>run_endRound (P:=P) (w:=W₂) q a5;cases e with
  | normal=>exact R none _ true (by simpa using H none) (.inl ⟨Z,Z,hq⟩)
  | ret=>exact R (some .ret) _ false (by simpa using H (some .ret)) (.inr ⟨Z,.ret,.ret,Z,Z,hq⟩)
  | exit id=>exact R (some (.exit id)) _ false (by simpa using H (some (.exit id))) (.inr ⟨Z,.exit id,.exit id,Z,Z,hq⟩)
  | _=>exact hq.elim
theorem zjU (e:Sat G E r S I F a W) (fnid:FuncId) (ps:Array Tmp) (assign body:Code):
    ∃(l:Nat) (D:G7) (W1:World) (db:Nat),(Instr.enterLoop fnid a.tmps ps assign body r).run P W= .ok (l,D.map ga) W1/\W1.heap[l]? =some (.loop {state:=.ready,pending:=none,fn:=fnid,tmps:=a.tmps,params:=ps,assign:=assign,body:=body,defers:=db}) /\
      W.heap.size<=l/\(∀b∈D,W.heap.size<=b/\W1.heap[b]? =some (.deferred (some [])))/\D.Nodup/\W1.os=W.os/\W1.tape=W.tape/\W1.output=W.output/\W.heap.size<=W1.heap.size/\∀ b,b<W.heap.size->W1.heap[b]? =W.heap[b]? :=by
  cases hr:r with
  | none=>
    refine⟨W.heap.size+1,[W.heap.size],_,W.heap.size,run_enterLoop_outer fnid a.tmps ps assign body,?_,C,?_,B,Z,Z,Z,by simp;omega,fun b c=>?_⟩
    . have:=World.alloc_heap_new (W.alloc (.deferred (some []))) (.loop {state:=.ready,pending:=none,fn:=fnid,tmps:=a.tmps,params:=ps,assign:=assign,body:=body,defers:=W.heap.size})
      simp_all
    . intro b c
      simp at c;subst c;exact⟨Af _,(wj _ _ B).trans (aM _ _)⟩
    . rw [wj _ _ GV,wj _ _ c]
  | some l0=>
    obtain⟨⟨d,f⟩,_⟩:=e.l l0 hr;refine⟨W.heap.size,[],W.alloc (.loop {state:=.ready,pending:=none,fn:=fnid,tmps:=a.tmps,params:=ps,assign:=assign,body:=body,defers:=d.defers}),d.defers,?_,aM _ _,Af _,B,B,Z,Z,Z,B,fun b c=>wj _ _ c⟩;unfold Instr.enterLoop;simp only [Sem.run_bind,run_getLoop f,run_newObj_alloc,Result.andThen,Sem.run_pure,B2]
end
section
variable {P:Program} {G:Imm} {E:aD} {r:Option Nat} {gd:G4} {p:Bool} {o:Oper} {ops:List Oper} {K:St->Prop} {S:St} {Q:Hb}
variable {α β γ:Type} {n t e st:Nat} {i:Nat×Bool} {x y:Code} {parts:Array (Nat×Operand)} {qs:List (Nat×List SV)} {c:Operand} {g a:Ha} {h h':HL} {zs:List Value} {d:G7} {b:Bool}
def ae.oneB (a:OpOK P G h o g (zp b)) (c:zO gd g o true) (ht:o.dst=some t) (e:Nat.blt t n=true)
 (h1:b=true->ae P G E r gd p ops ⟨n,(t,zp true)::g,h,d,i⟩ K) (f:b=false->ae P G E r gd p ops ⟨n,(t,zp false)::g,h,d,i⟩ K):ae P G E r gd p (o::ops) ⟨n,g,h,d,i⟩ K:=by
 cases b with
 | true=>exact ae.one a c ht e (h1 Z)
 | false=>exact ae.one a c ht e (f Z)
def xt (b:c= .tmp t) (a:look t S.g=some (zp true)) (h:T P G E r x S Q):T P G E r (.cond c x y) S Q:=fj b a (fun _=>h) (fun h=>M1 h J)
def yM (b:c= .tmp t) (a:look t S.g=some (zp false)) (h:T P G E r y S Q):T P G E r (.cond c x y) S Q:=fj b a (fun h=>M1 h J) (fun _=>h)
def yL {K:St->Prop} (h:T P G E r x S (ZG K Q)) (k:∀ S',K S'->T P G E r y S' Q):T P G E r (.seq x y) S Q:=
 zi (VE h fun e S' hq=>by cases e <;> first | exact k S' hq | exact hq)
def zqM (q:Prop):SV:=⟨fun _ v=>∃ b,v= .bool b/\(b=true->q),fun _ _ _ _ h=>h⟩
def WQ {H:HL} {t u e st:TypeId} [am P t e st] {x y:Operand} {f:α->List SV} {l:List α} (hop:o.op= .binOp .eql t x y u) (hx:yW g x=some (zR n f l)) (hy:yW g y=some (G8)):OpOK P G H o g (zqM (l=[])):=
 yy GW fun I W a _ _ d=>by
  obtain⟨c,cap,h1,_,_,k⟩:=d.get GB hx;have m:a.eval y= .slice none 0 0:=d.get GB hy;refine⟨.bool c.isNone,?_,_,Z,fun i=>?_⟩
  .have e:=run_equal_slice_nil (w:=W) t _ c l.length cap (am.u (P:=P));have e2:(binOp .eql t (.slice c l.length cap) (.slice none 0 0)).run P W= .ok (.bool c.isNone) W:=by
    show ((do pure (.bool (<-Op.equal t (.slice c l.length cap) (.slice none 0 0)))):Sem Value).run P W=_;simp [e]
   simp [execOp,hop,h1,m,eqGuard,e2]
  grind
def qH {q:Prop} (f:c= .tmp t) (e:look t S.g=some (zqM q)) (h1:q->T P G E r x S Q) (j:T P G E r y S Q):T P G E r (.cond c x y) S Q:=by
 intro n I F a W d;subst f;obtain⟨b,i,hq⟩:=d.g t _ e;exact wpIn_cond_split i (fun h=>h1 (hq h) n I F a W d) (fun _=>j n I F a W d)
theorem Jz [am P t e st] [E:al P e zs] {ps:Ha} (hop:o.op= .buildSlice t n parts) (hp:WN g parts.toList=some ps) [hf:FlatL ps qs]
 (O:n*st<=16777216) (hq:qs.length=n) (k:n=0\/zs≠[]) (R:UB st (qs.map (·.2))=true)
 (A:Jk ((List.range n).map fun i=>(i*st,st)) ((yD zs (n*st)).map eqS) qs=some (qs.map (·.2)).flatten):
 OpL P G o g [] (fun s H'=>∃ b,zX (some (b,n)) n/\s=eqS (rowV (some (b,n)) n)/\H'=[rowE (some (b,n)) e st n (qs.map (·.2)).flatten]):=by
 have N:st=zs.length:=by
  obtain⟨j,S,Y⟩:=am.i (P:=P) (t:=t) (e:=e) (st:=st);obtain⟨i,z,hi,_,_,M⟩:=E.i;rw [S] at hi;cases hi;omega
 have X:(qs.map (·.2)).flatten.length=n*st:=by
  have:∀ {l:List (List SV)},(∀c∈l,c.length=st)->l.flatten.length=l.length*st:=by
   intro l;induction l with
   | nil=>simp
   | cons x l ih=>grind
  rw [this (UC R),BR,hq]
 have u:n<=maxLen:=by
  rcases Bm st with m | m
  .grind
  .have:=Bn n m;unfold maxLen;omega
 have m:OpL P G o g [] (fun s H'=>∃ b,s=eqS (rowV (some (b,n)) n)/\H'=[rowE (some (b,n)) e st n (qs.map (·.2)).flatten]):=lU GW fun I W a F p=>by
  obtain⟨c',y,w,D⟩:=VI (a:=a) (I:=I) (c:=(yD zs (n*st)).toArray) hp hf (UA GB p) A (by simpa using XV (yD zs (n*st))) (by simpa using ib E.one _ (k.imp (fun h=>by simp [h]) id));have:=UD (P:=P) (t:=t) (e:=e) (st:=st) (n:=n) (W:=W) (parts:=(parts.map fun (i,x)=>(i,a.eval x))) (c':=c') O (by rw [Bb];exact y);have f:c'.toList.take (qs.map (·.2)).flatten.length=c'.toList:=by rw [<-w.1];exact B3
  refine⟨c',e,_,_,by simp only [execOp,hop,Sem.run_bind,this,Result.andThen_ok,Sem.run_pure];rfl,Z,?_,by rw [f];exact D,by rw [f];exact w⟩;have:=w.1;simp only [BH] at this;omega
 exact fun K r I W a d Q F U p L=>m K r I W a d Q F U p fun v I' W' s H' ⟨b,e1,e2⟩=>L v I' W' s H' ⟨b,⟨Af _,u⟩,e1,e2⟩
theorem ae.buildRow {a k:Nat} [am P t e st] [al P e zs] {ps:Ha} (hp:p=false) (f:o.op= .buildSlice t n parts) (c:WN g parts.toList=some ps) [FlatL ps qs] (u:zO gd g o true) (ht:o.dst=some k) (v:Nat.blt k a=true)
 (m:n*st<=16777216) (hq:qs.length=n) (j:n=0\/zs≠[]) (q:UB st (qs.map (·.2))=true)
 (w:Jk ((List.range n).map fun i=>(i*st,st)) ((yD zs (n*st)).map eqS) qs=some (qs.map (·.2)).flatten)
 (l:∀ b,zX (some (b,n)) n->ae P G E r gd p ops ⟨a,(k,eqS (rowV (some (b,n)) n))::g,rowE (some (b,n)) e st n (qs.map (·.2)).flatten::h,d,i⟩ K):ae P G E r gd p (o::ops) ⟨a,g,h,d,i⟩ K:=
 .loc0 hp (Jz f c m hq j q w) u ht v fun s H' ⟨b,y,x,e2⟩=>by subst x;subst e2;exact l b y
def aA (b:bN g a):aC ⟨n,g,h,d,i⟩ ⟨n,a,h,d,i⟩:=⟨Z,b,wq _,Z,Z⟩
def xm {s s':SV} (h:look t g=some s) (b:s=s') (k:bN g a):bN g ((t,s')::a):=aa (b▸h) k
def zF (a:h'.Sublist h):aF G E r ⟨n,g,h,d,i⟩ ⟨n,g,h',d,i⟩:=.reH (fun _ _ h=>h.less a) fun _ h=>(VM a).subset h
def xz {c:Code} (Inv:α->β->St) (p:α->β->Prop) (μ:α->β->Nat) (f:α) (b0:β) (d:p f b0) (j:aC S (Inv f b0))
 (i:∀ a b,p a b->T P G E r c (Inv a b) (ZG (fun S'=>∃ a' b',p a' b'/\μ a' b'<μ a b/\aC S' (Inv a' b')) Q)):T P G E r (.loop c) S Q:=
 xi (γ:=α×β) (fun g=>Inv g.1 g.2) (fun g=>p g.1 g.2) (fun g=>μ g.1 g.2) (f,b0) d j fun g hg=>VE (i g.1 g.2 hg) fun e S' hq=>by
  simp_all
def uu {c:Code} (Inv:α->β->γ->St) (p:α->β->γ->Prop) (μ:α->β->γ->Nat) (j:α) (b0:β) (i:γ) (f:p j b0 i) (l:aC S (Inv j b0 i))
 (k:∀ a b d,p a b d->T P G E r c (Inv a b d) (ZG (fun S'=>∃ a' b' d',p a' b' d'/\μ a' b' d'<μ a b d/\aC S' (Inv a' b' d')) Q)):T P G E r (.loop c) S Q:=
 xi (γ:=α×β×γ) (fun g=>Inv g.1 g.2.1 g.2.2) (fun g=>p g.1 g.2.1 g.2.2) (fun g=>μ g.1 g.2.1 g.2.2) (j,b0,i) f l fun g hg=>VE (k g.1 g.2.1 g.2.2 hg) fun e S' hq=>by
  simp_all
def uf {c:Code} {δ:Type} (Inv:α->β->γ->δ->St) (p:α->β->γ->δ->Prop) (μ:α->β->γ->δ->Nat) (k:α) (b0:β) (j:γ) (i:δ) (f:p k b0 j i) (m:aC S (Inv k b0 j i))
 (l:∀ a b d e,p a b d e->T P G E r c (Inv a b d e) (ZG (fun S'=>∃ a' b' d' e',p a' b' d' e'/\μ a' b' d' e'<μ a b d e/\aC S' (Inv a' b' d' e')) Q)):T P G E r (.loop c) S Q:=
 xi (γ:=α×β×γ×δ) (fun g=>Inv g.1 g.2.1 g.2.2.1 g.2.2.2) (fun g=>p g.1 g.2.1 g.2.2.1 g.2.2.2) (fun g=>μ g.1 g.2.1 g.2.2.1 g.2.2.2) (k,b0,j,i) f m fun g hg=>VE (l g.1 g.2.1 g.2.2.1 g.2.2.2 hg) fun e S' hq=>by
  simp_all
def an (c:bN g a) (b:h=h'):aC ⟨n,g,h,d,i⟩ ⟨n,a,h',d,i⟩:=⟨Z,c,b▸wq _,Z,Z⟩
def zI {k:IntKind} {m n:Int} (h:m=n) (I:Imm) (v:Value) (a:(ze k m).den I v):(ze k n).den I v:=h▸a
def yz {c:Bool} (h:b=c) (I:Imm) (v:Value) (a:(zp b).den I v):(zp c).den I v:=h▸a
end
inductive aB (g:Ha):G7->Ha->Prop
 | nil:aB g [] []
 | cons {t:Nat} {s:SV} {ks:G7} {g2:Ha} (h:look t g=some s) (k:aB g ks g2):aB g (t::ks) ((t,s)::g2)
 | skip {t:Nat} {ks:G7} {g2:Ha} (k:aB g ks g2):aB g (t::ks) g2
section
variable {P:Program} {G:Imm} {E:aD} {r:Option Nat} {Q:Hb} {n:Nat} {g g2:Ha} {h:HL} {d:G7} {i:Nat×Bool} {c x y:Code} {α β γ δ:Type}
abbrev Gx:=List (Nat×SV)
def Qj (k:G7) (e:α->Gx->Gx) (b:α->HL) (p:α->Prop) (μ:α->Nat) (f:α) (j:p f)
 (l:∀ a,p a->T P G E r c ⟨n,e a g2,b a,d,i⟩ (ZG (fun S'=>∃ a',p a'/\μ a'<μ a/\aC S' ⟨n,e a' g2,b a',d,i⟩) Q))
 (o:aB g k g2:=by repeat (first | exact .nil | (apply aB.cons;rfl) | apply aB.skip))
 (m:aC ⟨n,g,h,d,i⟩ ⟨n,e f g2,b f,d,i⟩:=by exact MM):T P G E r (.loop c) ⟨n,g,h,d,i⟩ Q:=
 xi (fun a=>⟨n,e a g2,b a,d,i⟩) p μ f j m l
def Xt (l:G7) (f:α->β->Gx->Gx) (e:α->β->HL) (p:α->β->Prop) (μ:α->β->Nat) (j:α) (b0:β) (k:p j b0)
 (m:∀ a b,p a b->T P G E r c ⟨n,f a b g2,e a b,d,i⟩ (ZG (fun S'=>∃ a' b',p a' b'/\μ a' b'<μ a b/\aC S' ⟨n,f a' b' g2,e a' b',d,i⟩) Q))
 (q:aB g l g2:=by repeat (first | exact .nil | (apply aB.cons;rfl) | apply aB.skip))
 (o:aC ⟨n,g,h,d,i⟩ ⟨n,f j b0 g2,e j b0,d,i⟩:=by exact MM):T P G E r (.loop c) ⟨n,g,h,d,i⟩ Q:=
 xz (fun a b=>⟨n,f a b g2,e a b,d,i⟩) p μ j b0 k o m
def Ju (o:G7) (k:α->β->γ->Gx->Gx) (f:α->β->γ->HL) (p:α->β->γ->Prop) (μ:α->β->γ->Nat) (l:α) (b0:β) (j:γ) (m:p l b0 j)
 (q:∀ a b e,p a b e->T P G E r c ⟨n,k a b e g2,f a b e,d,i⟩ (ZG (fun S'=>∃ a' b' e',p a' b' e'/\μ a' b' e'<μ a b e/\aC S' ⟨n,k a' b' e' g2,f a' b' e',d,i⟩) Q))
 (t:aB g o g2:=by repeat (first | exact .nil | (apply aB.cons;rfl) | apply aB.skip))
 (s:aC ⟨n,g,h,d,i⟩ ⟨n,k l b0 j g2,f l b0 j,d,i⟩:=by exact MM):T P G E r (.loop c) ⟨n,g,h,d,i⟩ Q:=
 uu (fun a b e=>⟨n,k a b e g2,f a b e,d,i⟩) p μ l b0 j m s q
def jm (s:G7) (m:α->β->γ->δ->Gx->Gx) (j:α->β->γ->δ->HL) (p:α->β->γ->δ->Prop) (μ:α->β->γ->δ->Nat) (o:α) (b0:β) (l:γ) (k:δ) (q:p o b0 l k)
 (t:∀ a b e f,p a b e f->T P G E r c ⟨n,m a b e f g2,j a b e f,d,i⟩ (ZG (fun S'=>∃ a' b' e' f',p a' b' e' f'/\μ a' b' e' f'<μ a b e f/\aC S' ⟨n,m a' b' e' f' g2,j a' b' e' f',d,i⟩) Q))
 (v:aB g s g2:=by repeat (first | exact .nil | (apply aB.cons;rfl) | apply aB.skip))
 (u:aC ⟨n,g,h,d,i⟩ ⟨n,m o b0 l k g2,j o b0 l k,d,i⟩:=by exact MM):T P G E r (.loop c) ⟨n,g,h,d,i⟩ Q:=
 uf (fun a b e f=>⟨n,m a b e f g2,j a b e f,d,i⟩) p μ o b0 l k q u t
def zyP (s:G7) (o:α->β->γ->δ->Gx->Gx) (m:α->β->γ->δ->HL) (dd:α->β->γ->δ->G7) (p:α->β->γ->δ->Prop) (μ:α->β->γ->δ->Nat) (l:α) (b0:β) (k:γ) (j:δ) (q:p l b0 k j)
 (t:∀ a b e f,p a b e f->T P G E r c ⟨n,o a b e f g2,m a b e f,dd a b e f,i⟩ (ZG (fun S'=>∃ a' b' e' f',p a' b' e' f'/\μ a' b' e' f'<μ a b e f/\aC S' ⟨n,o a' b' e' f' g2,m a' b' e' f',dd a' b' e' f',i⟩) Q))
 (v:aB g s g2:=by repeat (first | exact .nil | (apply aB.cons;rfl) | apply aB.skip))
 (u:aC ⟨n,g,h,d,i⟩ ⟨n,o l b0 k j g2,m l b0 k j,dd l b0 k j,i⟩:=by exact MM):T P G E r (.loop c) ⟨n,g,h,d,i⟩ Q:=
 uf (fun a b e f=>⟨n,o a b e f g2,m a b e f,dd a b e f,i⟩) p μ l b0 k j q u t
def uK (l:G7) (j:α->Gx->Gx) (f:α->HL) (e:α->Nat×Bool) (p:α->Prop) (μ:α->Nat) (b:α) (k:p b)
 (m:∀ a,p a->T P G E r c ⟨n,j a g2,f a,d,e a⟩ (ZG (fun S'=>∃ a',p a'/\μ a'<μ a/\aC S' ⟨n,j a' g2,f a',d,e a'⟩) Q))
 (q:aB g l g2:=by repeat (first | exact .nil | (apply aB.cons;rfl) | apply aB.skip))
 (o:aC ⟨n,g,h,d,i⟩ ⟨n,j b g2,f b,d,e b⟩:=by exact MM):T P G E r (.loop c) ⟨n,g,h,d,i⟩ Q:=
 xi (fun a=>⟨n,j a g2,f a,d,e a⟩) p μ b k o m
def zyQ (t:G7) (q:α->β->γ->δ->Gx->Gx) (o:α->β->γ->δ->HL) (m:α->β->γ->δ->Nat×Bool) (p:α->β->γ->δ->Prop) (μ:α->β->γ->δ->Nat) (l:α) (b0:β) (k:γ) (j:δ) (s:p l b0 k j)
 (u:∀ a b e f,p a b e f->T P G E r c ⟨n,q a b e f g2,o a b e f,d,m a b e f⟩ (ZG (fun S'=>∃ a' b' e' f',p a' b' e' f'/\μ a' b' e' f'<μ a b e f/\aC S' ⟨n,q a' b' e' f' g2,o a' b' e' f',d,m a' b' e' f'⟩) Q))
 (w:aB g t g2:=by repeat (first | exact .nil | (apply aB.cons;rfl) | apply aB.skip))
 (v:aC ⟨n,g,h,d,i⟩ ⟨n,q l b0 k j g2,o l b0 k j,d,m l b0 k j⟩:=by exact MM):T P G E r (.loop c) ⟨n,g,h,d,i⟩ Q:=
 uf (fun a b e f=>⟨n,q a b e f g2,o a b e f,d,m a b e f⟩) p μ l b0 k j s v u
def Vx (e:G7) (c:α->Gx->Gx) (b:α->HL) (p:α->Prop)
 (hx:T P G E r x ⟨n,g,h,d,i⟩ (ZG (fun S'=>∃ a,p a/\aC S' ⟨n,c a g2,b a,d,i⟩) Q)) (hy:∀ a,p a->T P G E r y ⟨n,c a g2,b a,d,i⟩ Q)
 (j:aB g e g2:=by repeat (first | exact .nil | (apply aB.cons;rfl) | apply aB.skip)):T P G E r (.seq x y) ⟨n,g,h,d,i⟩ Q:=
 yL hx fun S' ⟨a,hp,f⟩=>xq f (hy a hp)
def iQ (f:G7) (e:α->β->Gx->Gx) (c:α->β->HL) (p:α->β->Prop)
 (hx:T P G E r x ⟨n,g,h,d,i⟩ (ZG (fun S'=>∃ a b,p a b/\aC S' ⟨n,e a b g2,c a b,d,i⟩) Q)) (hy:∀ a b,p a b->T P G E r y ⟨n,e a b g2,c a b,d,i⟩ Q)
 (k:aB g f g2:=by repeat (first | exact .nil | (apply aB.cons;rfl) | apply aB.skip)):T P G E r (.seq x y) ⟨n,g,h,d,i⟩ Q:=
 yL hx fun S' ⟨a,b,hp,j⟩=>xq j (hy a b hp)
def zsL (f:G7) (e:α->β->Gx->Gx) (c:α->β->HL) (dd:α->β->G7) (p:α->β->Prop)
 (hx:T P G E r x ⟨n,g,h,d,i⟩ (ZG (fun S'=>∃ a b,p a b/\aC S' ⟨n,e a b g2,c a b,dd a b,i⟩) Q)) (hy:∀ a b,p a b->T P G E r y ⟨n,e a b g2,c a b,dd a b,i⟩ Q)
 (k:aB g f g2:=by repeat (first | exact .nil | (apply aB.cons;rfl) | apply aB.skip)):T P G E r (.seq x y) ⟨n,g,h,d,i⟩ Q:=
 yL hx fun S' ⟨a,b,hp,j⟩=>xq j (hy a b hp)
end
section
variable {P:Program} {G:Imm} {E:aD} {r:Option Nat} {gd:G4} {p:Bool} {o:Oper} {ops:List Oper} {K:St->Prop} {n t:Nat} {g:Ha} {h:HL} {d:G7} {i:Nat×Bool} {s:SV} {B C:Prop} {S:St} {Q:Hb} {x y:Code}
variable {b:Bool} {c:Operand} {k:Nat} {z m:Prop}
def Ft {t:Nat} (k:B) (b:c=.tmp t:=by exact Z) (a:look t S.g=some (zp true):=by exact Z) (w:Bx B->T P G E r x S Q:=by exact Fg):T P G E r (.cond c x y) S Q:=xt b a (w ⟨k⟩)
def Fu {t:Nat} (k:B) (b:c=.tmp t:=by exact Z) (a:look t S.g=some (zp false):=by exact Z) (w:Bx B->T P G E r y S Q:=by exact Fg):T P G E r (.cond c x y) S Q:=yM b a (w ⟨k⟩)
def Fv {n:Nat} {g:Ha} {h:HL} {d:G7} {i:Nat×Bool} (k:B) {a:HE} (w:Bx B->T P G E r x ⟨n,g,h,d,i⟩ Q:=by exact Fg):T P G E r x ⟨n,g,a::h,d,i⟩ Q:=zH (zF (B5 _ _)) (w ⟨k⟩)
def FE {y:Prop} (k1:b=true->z->B) (k2:b=false->y->C) (c:OpOK P G h o g (zp b):=by first | exact zZ Z Z Z Z | exact xl Z Z Z | exact zC Z Z | exact Xm Z Z) (j:zO gd g o true:=by first | exact Z | exact gB Z Z Z Z) (ht:o.dst=some t:=by exact Z) (k:Nat.blt t n=true:=by exact Z) (a:BP b z y:=by infer_instance) (w:Bx B->ae P G E r gd p ops ⟨n,(t,zp true)::g,h,d,i⟩ K:=by exact Fg) (v:Bx C->ae P G E r gd p ops ⟨n,(t,zp false)::g,h,d,i⟩ K:=by exact Fg):ae P G E r gd p (o::ops) ⟨n,g,h,d,i⟩ K:=ae.oneB c j ht k (fun e=>w ⟨k1 e (a.t e)⟩) (fun e=>v ⟨k2 e (a.f e)⟩)
def FF (k1:b=true->B) (k2:b=false->C) (a:OpOK P G h o g (zp b):=by first | exact zZ Z Z Z Z | exact xl Z Z Z | exact zC Z Z | exact Xm Z Z) (c:zO gd g o true:=by first | exact Z | exact gB Z Z Z Z) (ht:o.dst=some t:=by exact Z) (f:Nat.blt t n=true:=by exact Z) (w:Bx B->ae P G E r gd p ops ⟨n,(t,zp true)::g,h,d,i⟩ K:=by exact Fg) (v:Bx C->ae P G E r gd p ops ⟨n,(t,zp false)::g,h,d,i⟩ K:=by exact Fg):ae P G E r gd p (o::ops) ⟨n,g,h,d,i⟩ K:=ae.oneB a c ht f (fun e=>w ⟨k1 e⟩) (fun e=>v ⟨k2 e⟩)
def FI {y:Prop} (k1:b=true->z->ae P G E r gd p ops ⟨n,(t,zp true)::g,h,d,i⟩ K) (k2:b=false->y->ae P G E r gd p ops ⟨n,(t,zp false)::g,h,d,i⟩ K) (c:OpOK P G h o g (zp b):=by first | exact zZ Z Z Z Z | exact xl Z Z Z | exact zC Z Z | exact Xm Z Z) (j:zO gd g o true:=by first | exact Z | exact gB Z Z Z Z) (ht:o.dst=some t:=by exact Z) (k:Nat.blt t n=true:=by exact Z) (a:BP b z y:=by infer_instance):ae P G E r gd p (o::ops) ⟨n,g,h,d,i⟩ K:=ae.oneB c j ht k (fun e=>k1 e (a.t e)) (fun e=>k2 e (a.f e))
def FJ (k1:b=true->ae P G E r gd p ops ⟨n,(t,zp true)::g,h,d,i⟩ K) (k2:b=false->ae P G E r gd p ops ⟨n,(t,zp false)::g,h,d,i⟩ K) (a:OpOK P G h o g (zp b):=by first | exact zZ Z Z Z Z | exact xl Z Z Z | exact zC Z Z | exact Xm Z Z) (c:zO gd g o true:=by first | exact Z | exact gB Z Z Z Z) (ht:o.dst=some t:=by exact Z) (e:Nat.blt t n=true:=by exact Z):ae P G E r gd p (o::ops) ⟨n,g,h,d,i⟩ K:=ae.oneB a c ht e k1 k2
def FK (a:OpOK P G h o g (zp b)) (k1:b=true->ae P G E r gd p ops ⟨n,(t,zp true)::g,h,d,i⟩ K) (k2:b=false->ae P G E r gd p ops ⟨n,(t,zp false)::g,h,d,i⟩ K) (c:zO gd g o true:=by first | exact Z | exact gB Z Z Z Z) (ht:o.dst=some t:=by exact Z) (e:Nat.blt t n=true:=by exact Z):ae P G E r gd p (o::ops) ⟨n,g,h,d,i⟩ K:=ae.oneB a c ht e k1 k2
def FG (a:OpOK P G h o g (zp b)) (k1:b=true->B) (k2:b=false->C) (c:zO gd g o true:=by first | exact Z | exact gB Z Z Z Z) (ht:o.dst=some t:=by exact Z) (f:Nat.blt t n=true:=by exact Z) (w:Bx B->ae P G E r gd p ops ⟨n,(t,zp true)::g,h,d,i⟩ K:=by exact Fg) (v:Bx C->ae P G E r gd p ops ⟨n,(t,zp false)::g,h,d,i⟩ K:=by exact Fg):ae P G E r gd p (o::ops) ⟨n,g,h,d,i⟩ K:=ae.oneB a c ht f (fun e=>w ⟨k1 e⟩) (fun e=>v ⟨k2 e⟩)
end
section
variable {n:Nat} {g g':List (Nat×SV)} {h h':HL} {d:List Nat} {i:Nat×Bool}
def MM (hg:bN g g':=by exact zk):aC ⟨n,g,h,d,i⟩ ⟨n,g',h,d,i⟩:=aA hg
def MN (hh:h=h') (hg:bN g g':=by exact zk):aC ⟨n,g,h,d,i⟩ ⟨n,g',h',d,i⟩:=an hg hh
end
class bI (P:Program) (t:TypeId) (n st:outParam Nat):Prop where
 h:∃ e,P.underlying t=some (.array n e)/\(P.info? e).map (·.size)=some st
class aV (P:Program) (t:TypeId):Prop where
 h:P.underlying t=some .string
section
variable {P:Program} {G:Imm} {E:aD} {r:Option Nat} {gd:G4} {p:Bool} {o:Oper} {ops:List Oper} {K:St->Prop} {H:HL} {g:Ha} {S:St}
variable {x c:Operand} {b n i:Nat} {t:TypeId} {f:FuncId} {k:IntKind}
def Xa {t st:Nat} [u:bI P t n st] {q:Nat} (hop:o.op= .indexAddr t x c) (hx:yW g x=some (G9 b)) (hi:yW g c=some (ze k i)) (h1:i<n) (hq:i*st=q):
 OpOK P G H o g (eqS (.pointer (some ⟨b,q,none⟩))):=
 yy GW fun I W a _ _ l=>by
  have m:a.eval x=_:=l.get GB hx;have d:a.eval c= .int k i:=l.get GB hi;obtain⟨e,p,r⟩:=u.h;obtain⟨j,s,f⟩:=DB.1 r;have v:(sizeOf e).run P W= .ok st W:=by simp [sizeOf,typeInfo,s,f]
  refine⟨.pointer (some ⟨b,q,none⟩),?_,Z⟩;have hin:0<=(i:Int)/\(i:Int)<n:=C;have:(Instr.indexAt t (.pointer (some ⟨b,0,none⟩)) (.int k i)).run P W= .ok (.pointer (some ⟨b,q,none⟩)) W:=by
   simp [Instr.indexAt,run_underlying p,Instr.sureAddr,asIntOf,hin,v,Addr.add,hq,h1];exact fun h=>h.symm
  simp [execOp,hop,m,d,this]
def zfJ [ak P t] {off:Nat} {c:Array Value} {v:Value} (hop:o.op= .load t x) (hx:yW g x=some (eqS (.pointer (some ⟨b,off,none⟩)))) (l:G b=some c) (k:c[off]? =some v):OpOK P G H o g (eqS v):=
 yy GW fun I W a d _ i=>by
  have h:a.eval x=_:=i.get GB hx;obtain⟨e,f,j⟩:=d.mem b c (d.glob b c l);refine⟨v,?_,Z⟩;have:=vm (P:=P) (t:=t) (by rw [xC j];exact k);simp [execOp,hop,h,Instr.loadAt,Instr.sureAddr,this]
def zhk [f:aV P t] {s:ByteArray} {b:Operand} (hop:o.op= .index t x b) (hx:yW g x=some (eqS (.string s))) (hi:yW g b=some (ze k i)) (h1:i<s.size):
 OpOK P G H o g (ze .u8 ((s[i]'h1).toNat:Nat)):=
 yy GW fun I W a _ _ d=>by
  have e:a.eval x=_:=d.get GB hx;have c:a.eval b= .int k i:=d.get GB hi;refine⟨_,?_,Z⟩;have:=run_index_string W t s k i f.h;rw [MZ ⟨C,C⟩] at this;simp only [BQ] at this;simp [execOp,hop,e,c,this]
def jQ (f:FuncId):SV:=
 ⟨fun I v=>∃ b c,v= .pointer (some ⟨b,0,none⟩)/\I b=some c/\c[0]? =some (.func (.func f) #[] #[.pointer (some ⟨b,0,none⟩)]),
  fun _ _ _ hl ⟨b,c,hv,hI,hc⟩=>⟨b,c,hv,hl b c hI,hc⟩⟩
def Xx [ak P t] (hop:o.op= .load t x) (hx:yW g x=some (jQ f)):OpOK P G H o g (wD f [jQ f]):=
 yy GW fun I W a j _ i=>by
  obtain⟨b,c,h,hI,d⟩:=i.get GB hx;obtain⟨e,fr,k⟩:=j.mem b c hI;refine⟨_,?_,[.pointer (some ⟨b,0,none⟩)],Z,yB ⟨b,c,Z,hI,d⟩ aq⟩;have:=vm (P:=P) (t:=t) (by rw [xC k];exact d);simp [execOp,hop,h,Instr.loadAt,Instr.sureAddr,this]
def zjV (j t:Nat) {e k:Nat} (q:S.h[j]? =some ⟨some b,e,[wD f [G9 b]],k⟩) (ht:look t S.g=some (G9 b)):
 aF G E r S ⟨S.n,(t,jQ f)::S.g,wE S.h j [],S.d,S.i⟩:=
 mX j t q ht fun _ _ _ _ _ _ _ _ _ _ l=>by
  obtain⟨I',s1,s2,c,hI,p⟩:=ou l;refine⟨I',s1,s2,fun v a=>?_⟩;obtain⟨x,hx,⟨xs,rfl,o⟩,_⟩:=p 0 _ Z;obtain⟨y,s,rfl,hy,m⟩:=xW o;cases dens_nil_inv m
  cases hy
  exact⟨b,c,a,hI,by omega⟩
def zqN {fn:Func} {y z:Operand} {k:Array TypeId} {m c:Nat} (hf:P.funcs[f]? =some fn) (b:(fn.name == "runtime.NumGoroutine")=false) (r:fn.body.isNone=true) (p:Extern.findNext fn=none) (q:Extern.find fn=some add64Entry)
 (hop:o.op= .call {callee:=.value (.func f),args:= #[x,y,z],argTypes:=k}) (hx:yW g x=some (ze .u64 m)) (hy:yW g y=some (ze .u64 n)) (l:yW g z=some (ze .u64 c)) (s:c<=1):
 OpOK P G H o g (yR [ze .u64 ((m+n+c)%18446744073709551616:Nat),ze .u64 ((m+n+c)/18446744073709551616:Nat)]):=
 yy GW fun I W a _ _ i=>by
  have h:a.eval x=_:=i.get Gl hx;have e:a.eval y=_:=i.get Gl hy;have d:a.eval z=_:=i.get Gl l;refine⟨_,?_,_,Z,yB Z (yB Z aq)⟩;have h1:=run_callFunc_extern hf b r p q #[.int .u64 m,.int .u64 n,.int .u64 c] W;rw [run_add64 m n c C C C C] at h1
  have j:a.eval (.func f)= .func (.func f) #[] #[]:=rfl;simp only [execOp,hop,resolve,j,Deferred.ofValue,Sem.run_bind,Sem.run_pure,Result.andThen_ok,invoke,BS,List.map_toArray,Ar,B2,h,e,d];assumption
end
end Go.Sv
