/- Ranges over functions whose iterator owns memory that it. -/
import Derived.Test.YtceodgbmninaoaaGreatDoorSvs
import Derived.Lib.AppendZerosOnto
set_option linter.all false
namespace Go.Sv
open Go Go.RowKit
section
variable {P:Program} {G:Imm} {E:aD} {r:Option Nat} {S:St} {Q:Hb}
variable {α:Type} {i:Nat×Bool} {cs caps:List SV} {b:Option Nat} {A:Nat->Imm->World->Prop} {n e t k0 st m:Nat} {xs:List (List SV)} {h h':HL} {g:Ha} {d:G7} {ps:Array Tmp} {f:α->List SV} {x:Operand} {k:FuncId} {l:List α} {I:Imm} {W:World} {assign body:Code} {s s':SV} {q:G3}
def kg {H0 h1:HL} {QH:Nat×Bool->HL->Prop} {f:FuncId} (hx:x= .tmp t) (hg:look t g=some (wD f caps)) (b6:bD P G f caps xs H0 QH A) (c4:∀ ss∈xs,ss.length=ps.size) (c7:ps.toList.Nodup) (c5:(ps.toList.all fun p=>Nat.blt p n)=true)
 (Inv:Nat->HL->Nat×Bool->Prop) (InvX:Exit->HL->Nat×Bool->Prop) (h0:Inv 0 h1 i)
 (a9:∀ (l k:Nat) (ss:List SV) (h:HL) (i:Nat×Bool),xs[k]? =some ss->Inv k h i->T P G E (some l) assign ⟨n,Xr ps.toList ss++g,h,[],i⟩ (fun e S'=>e= .normal/\T P G E (some l) body S' (Jy Inv InvX k)))
 (a8:∀ (h H':HL) (i:Nat×Bool) (D:G7),Inv xs.length h i->QH (xs.length,false) H'->Q .normal ⟨n,g,H'++h,D++d,i⟩)
 (u:∀ (h H':HL) (i:Nat×Bool) (j:Nat) (D:G7) (e:Exit) (c:Code),UF e=some c->InvX e h i->QH (j,true) H'->Q e ⟨n,g,H'++h,D++d,i⟩)
 (hA:∀ (k:Nat) (h:HL) (i:Nat×Bool) (I:Imm) (W:World),Inv k h i->HoldsH h I W->A k I W:=by exact fun _ _ _ _ _ _ _=>trivial):T P G E r (.rangeFunc x ps assign body) ⟨n,g,H0++h1,d,i⟩ Q:=by
 intro m I F a W z;subst hx;obtain⟨cv,d5,d2⟩:=z.g t _ hg;refine wpIn_rangeFunc fun fnid _=>?_;obtain⟨l,D,W1,db,b3,U,d8,hD,b9,e1,e2,e3,e4,e5⟩:=zjU (P:=P) z fnid ps assign body;have he:Ext I W I W1:=⟨e1,e2,e3,Imm.le_refl _,e4,fun b o _=>e5 b o,fun b h h'=>M1 h h',fun _ h=>h.elim⟩;have O:Holds G I W1:=⟨z.m.glob,fun b c hc=>by obtain⟨e,fz,h⟩:=z.m.mem b c hc;grind⟩
 obtain⟨ro,K⟩:∃ ro:Loop,∀k,r=some k->W.heap[k]? =some (.loop ro):=by
  cases M:r with
  | none=>simp
  | some k0=>obtain⟨⟨c1,h⟩,_⟩:=z.l k0 M;simp_all
 have H:∀ k,r=some k->k≠l/\W1.heap[k]? =some (.loop ro):=fun k q=>⟨by grind,(e5 k (yv (K k q))).trans (K k q)⟩
 have w:=z.keep he O;have d1:¬ F l:=fun h=>by have:=(z.f l h).1;omega
 have X:∀ b∈D,¬b<W.heap.size:=fun b o=>by grind
 have s1:Sat G E r ⟨n,g,H0++h1,D++d,i⟩ I F {a with defers:=D.map ga++a.defers} W1:=
  ⟨w.n,w.g,w.m,w.h,by simp [z.d],Bt.2 ⟨b9,z.dn,fun x hx y hy e=>X x hx (e▸yv (z.dk y hy))⟩,fun b o=>(Bu.1 o).elim (fun h=>(hD b h).2) (w.dk b),w.e,fun b o=>⟨(w.f b o).1,(w.f b o).2.1,(w.f b o).2.2.1,fun h=>(Bu.1 h).elim (fun h=>X b h (z.f b o).1) (w.f b o).2.2.2⟩,
   fun k q=>⟨(w.l k q).1,fun h=>(w.l k q).2 (h.imp id (.imp (fun h=>(Bu.1 h).elim (fun h=>M1 (yv (K k q)) (X k h)) id) id))⟩⟩
 have b7:∀ {b},b∈bs h1->b∈bs (H0++h1):=fun h=>VM (B6 _ _) |>.subset h
 have s2:=(s1.reH (s1.h.less (B6 H0 h1)) fun _=>b7).1;have c6:(zqK G E r ro ⟨n,g,h1,D++d,i⟩ {a with defers:=D.map ga++a.defers} l (fun st pe=>{state:=st,pending:=pe,fn:=fnid,tmps:=a.tmps,params:=ps,assign:=assign,body:=body,defers:=db}) Inv InvX).ok (0,false) I (fun b=>own ⟨n,g,h1,D++d,i⟩ F b\/b=l\/r=some b) W1:=⟨I,W1,⟨h1,i,F,s2,fun b=>Iff.rfl,d1,H,.inl ⟨Z,U,h0⟩⟩,.refl _ _ _⟩
 have d6:YZ (fun b=>own ⟨n,g,h1,D++d,i⟩ F b\/b=l\/r=some b) I W1:=by
  rintro b (h | rfl | h)
  .exact s2.has h
  .exact⟨yv U,vu O U GS⟩
  .have:=(H b h).2;exact⟨yv this,vu O this GS⟩
 have d7:∀ b,(own ⟨n,g,h1,D++d,i⟩ F b\/b=l\/r=some b)->b∉bs H0:=by
  intro b o hH;have hS:b∈bs (H0++h1):=VM (B7 _ _) |>.subset hH
  rcases o with (h | h | h) | rfl | h
  .have:=s1.h.nodup;rw [we] at this;grind
  .exact Jx s1.h (s1.dk b h) GS hS
  .exact (s1.f b h).2.2.1 hS
  .exact Jx s1.h U GS hS
  .exact Jx s1.h (H b h).2 GS hS
 have hy:=zqL (P:=P) (G:=G) (E:=E) (r:=r) (S:=⟨n,g,h1,D++d,i⟩) (a:={a with defers:=D.map ga++a.defers}) (l:=l) (fnid:=fnid) (ps:=ps) (assign:=assign) (body:=body) (db:=db) (ro:=ro) (xs:=xs) (Inv:=Inv) (InvX:=InvX) c4 c7 (fun p hp=>Bv▸(B9.1 c5 p hp)) (a9 l);refine⟨l,D.map ga,W1,{target:=.fn (.func f) cv.toArray,args:= #[.func (.yield l) #[] #[]]},W1,f,(Value.func (.yield l) #[] #[]::cv).toArray,W1,b3,?_,fun f' _=>Qr r f',?_,fun h=>by simp [Fr,Fence.wide] at h,?_⟩
 .simp only [resolve];have:a.eval (.tmp t)= .func (.func f) #[] cv.toArray:=d5;simp only [this,Deferred.ofValue,Sem.run_pure,BS];simp [Act.eval]
 .have:(#[Value.func (.yield l) #[] #[]]++cv.toArray)=(Value.func (.yield l) #[] #[]::cv).toArray:=by apply AW;simp
  simp only [invoke,this,b6.enters]
 .refine ut r ((b6.main l _ I _ W1 cv hy (fun k I1 F1 W2 ⟨_,_,⟨h,N,Fc,s,hF,_,_,hl⟩,f⟩=>hl.elim (fun⟨_,_,a3⟩=>hA _ _ _ _ _ a3 (s.h.keep f fun b o hn=>hn ((hF b).2 (.inl (.inl o))))) fun⟨a1,_⟩=>by grind) c6 d6 d7 O (s1.h.less (B7 H0 h1)) d2).mono ?_);rintro e W' ⟨v,I',F',j,H',rfl,hi,b0,⟨_,_,k1,f1⟩,d9,b8,a6,Y,d0⟩;obtain⟨h,N,Fc,s3,b2,d3,b5,c8⟩:=k1.now f1 a6
  have c0:∀ (st:LoopState) (pe:Option Code),st≠ .busy->W'.heap[l]? =some (.loop {state:=st,pending:=pe,fn:=fnid,tmps:=a.tmps,params:=ps,assign:=assign,body:=body,defers:=db}) ->
   ∃W2,(Instr.endLoop l).run P W'= .ok pe W2/\Sat G E r ⟨n,g,H'++h,D++d,N⟩ I' Fc {a with defers:=D.map ga++a.defers} W2/\Fram (own ⟨n,g,H0++h1,d,i⟩ F) I W (own ⟨n,g,H'++h,D++d,N⟩ Fc) I' W2:=by
   intro st pe c3 R;refine⟨_,run_endLoop (P:=P) R c3,?_⟩;obtain⟨a5,a7⟩:=uz (W':=W'.putObj l (.loop {state:=.exhausted,pending:=pe,fn:=fnid,tmps:=a.tmps,params:=ps,assign:=assign,body:=body,defers:=db})) a6 (vu a6 R GS) Z Z Z B fun k q=>World.putObj_heap_other q;have L:∀ k,r=some k->(W'.putObj l (.loop {state:=.exhausted,pending:=pe,fn:=fnid,tmps:=a.tmps,params:=ps,assign:=assign,body:=body,defers:=db})).heap[k]? =some (.loop ro):=fun k q=>(World.putObj_heap_other (b5 k q).1).trans (b5 k q).2;have s4:=s3.stay a7 (fun b e=>e▸s3.not_own R d3) a5 fun k q=>⟨ro,L k q⟩;have b1:=Y.keep a7 fun b o e=>Jx Y R GS (e▸o);have hx:∀ b,own ⟨n,g,h,D++d,N⟩ Fc b->b∉bs H':=fun b o=>b8 b ((b2 b).2 (.inl o));have fA:=((he.own _).trans d0).trans (a7.weaken (fun b e=>.inr ((b2 b).2 (.inr (.inl e)))) fun b o=>.inr o);have cl:∀ b,b<W.heap.size->(b∈bs H0\/own ⟨n,g,h1,D++d,i⟩ F b\/b=l\/r=some b)->r≠some b->own ⟨n,g,H0++h1,d,i⟩ F b:=fun b hlt o M=>by
    rcases o with h | (h | h | h) | h | h
    .exact .inl (VM (B7 _ _) |>.subset h)
    .exact .inl (b7 h)
    .exact .inr (.inl ((Bu.1 h).elim (fun h=>M1 hlt (X b h)) id))
    .exact .inr (.inr h)
    .omega
    grind
   have ho:∀ b,own ⟨n,g,H'++h,D++d,N⟩ Fc b->b∈bs H'\/own ⟨n,g,h,D++d,N⟩ Fc b:=fun b o=>by simp only [own,we,Bu] at o ⊢;grind
   have b4:∀ k,r=some k->¬ own ⟨n,g,H'++h,D++d,N⟩ Fc k:=fun k q h=>(ho k h).elim (Jx b1 (L k q) GS) (s4.l k q).2;refine⟨⟨s4.n,s4.g,a5,⟨by rw [we];exact Bt.2 ⟨b1.nodup,s4.h.nodup,fun x c2 y hy e=>hx y (.inl hy) (e▸c2)⟩,fun p hp=>(Bu.1 hp).elim (b1.mem p) (s4.h.mem p)⟩,s4.d,s4.dn,s4.dk,s4.e,fun b o=>⟨(s4.f b o).1,(s4.f b o).2.1,fun h'=>?_,(s4.f b o).2.2.2⟩,fun k q=>⟨⟨ro,L k q⟩,b4 k q⟩⟩,fA.os,fA.tape,fA.output,fA.imm,fA.size,fun b o hn=>?_,fun b o hb'=>?_,fun b o=>?_⟩
   .rw [we] at h';exact (Bu.1 h').elim (hx b (.inr (.inr o))) (s4.f b o).2.2.1
   .by_cases M:r=some b
    .grind
    .exact fA.old b o fun h=>hn (cl b o h M)
   .exact (fA.new b o hb').elim (fun h=>(Ab b W.heap.size).imp (fun hlt=>cl b hlt h fun M=>hb' (vu a5 (L b M) GS)) id) .inr
   .exact (fA.own b ((ho b o).imp id fun h=>(b2 b).2 (.inl h))).elim (fun h=>(Ab b W.heap.size).imp (fun hlt=>cl b hlt h fun M=>b4 b M o) id) .inr
  rcases c8 with ⟨a1,a2,a3⟩ | ⟨a1,e,c,a2,a3,a4⟩
  .obtain⟨W2,f1,f2,f3⟩:=c0 _ _ B a2;have c9:=hi.elim id fun h=>by rw [a1] at h;cases h
   rw [c9] at a3 b0;exact⟨none,W2,f1,⟨_,I',Fc,f2,a8 h H' N D a3 b0,f3⟩⟩
  .obtain⟨W2,f1,f2,f3⟩:=c0 _ _ B a3;refine⟨some c,W2,f1,?_⟩;have a0:QH (j.1,true) H':=a1▸b0;cases e with
   | ret=>cases a2;exact wpIn_ret ⟨_,I',Fc,f2,u h H' N j.1 D .ret _ Z a4 a0,f3⟩
   | exit id=>cases a2;exact wpIn_exit ⟨_,I',Fc,f2,u h H' N j.1 D (.exit id) _ Z a4 a0,f3⟩
   | _=>cases a2
def uN {f:FuncId} (hx:x= .tmp t) (v:look t g=some (wD f caps)) (u:jk P G f caps xs A) (o:∀ m∈xs,m.length=ps.size) (s:ps.toList.Nodup) (q:(ps.toList.all fun p=>Nat.blt p n)=true)
 (Inv:Nat->HL->Nat×Bool->Prop) (InvX:Exit->HL->Nat×Bool->Prop) (z:Inv 0 h i)
 (j:∀ (l k:Nat) (m:List SV) (h:HL) (i:Nat×Bool),xs[k]? =some m->Inv k h i->T P G E (some l) assign ⟨n,Xr ps.toList m++g,h,[],i⟩ (fun e S'=>e= .normal/\T P G E (some l) body S' (Jy Inv InvX k)))
 (b:∀ (h:HL) (i:Nat×Bool) (D:G7),Inv xs.length h i->Q .normal ⟨n,g,h,D++d,i⟩)
 (a:∀ (h:HL) (i:Nat×Bool) (D:G7) (e:Exit) (c:Code),UF e=some c->InvX e h i->Q e ⟨n,g,h,D++d,i⟩)
 (y:∀ (k:Nat) (h:HL) (i:Nat×Bool) (I:Imm) (W:World),Inv k h i->HoldsH h I W->A k I W:=by exact fun _ _ _ _ _ _ _=>trivial):T P G E r (.rangeFunc x ps assign body) ⟨n,g,h,d,i⟩ Q:=
 kg (H0:=[]) hx v u o s q Inv InvX z j (fun h H' i D hi e=>by grind) (fun h H' i _ D e c w hx F=>by grind) y
def JB (a:cB h h'):aF G E r ⟨n,g,h,d,i⟩ ⟨n,g,h',d,i⟩:=.reH (fun _ _=>a.holds) fun b hb=>a.bs▸hb
def vO (hp:h.Perm h'):aF G E r ⟨n,g,h,d,i⟩ ⟨n,g,h',d,i⟩:=
 .reH (fun _ _ s=>⟨(hp.filterMap _).nodup_iff.1 s.nodup,fun p hp'=>s.mem p (hp.mem_iff.2 hp')⟩) fun _ hb=>(hp.filterMap _).mem_iff.2 hb
def zrT {b c2:List SV} {xs:List Value} (h:∀ v,s.den I v->s'.den I v) (c:dens I (b++s::c2) xs):dens I (b++s'::c2) xs:=by
 refine⟨by rw [c.1];simp,fun i r x a hx=>?_⟩;rcases C9 i b.length with hi | rfl | hi
 .rw [Ad hi] at a
  exact c.2 i r x (by grind) hx
 .rw [Ae (Af _),Az] at a
  cases a
  exact h x (c.2 b.length s x B hx)
 .obtain⟨j,d⟩:∃ j,i-b.length=j+1:=⟨i-b.length-1,C⟩;rw [Ae C,d,Bh] at a
  exact c.2 i r x (by grind) hx
def HoldsH.ent {pre post:HL} {q a:HE} (h:HoldsH (pre++q::post) I W) (d:a.b=q.b) (c:aT I W q->aT I W a):HoldsH (pre++a::post) I W:=
 ⟨by have:=h.nodup;simpa [bs,Aj,d] using this,fun p hp=>(Bu.1 hp).elim (fun h1=>h.mem p (Bu.2 (.inl h1))) fun h1=>(DZ.1 h1).elim (fun e=>e▸c (h.mem q B)) fun h1=>h.mem p (by grind)⟩
def HoldsH.cells {pre post:HL} {k:Nat} {cs':List SV} (h:HoldsH (pre++⟨b,e,cs,k⟩::post) I W) (a:cs'.length=cs.length) (f:∀ xs,dens I cs xs->dens I cs' xs):HoldsH (pre++⟨b,e,cs',k⟩::post) I W:=h.ent Z fun d=>by
 cases b with
 | none=>exact .of_none Z (Aa (a.trans (MW List.length (d.none Z))))
 | some b=>
  obtain⟨m,c,l,j,i,g⟩:=d.some Z;exact .of_some Z ⟨m,c,l,by grind,by grind,by grind⟩
def vB (k c2:List SV) (pre mid post:HL) {b0:Option Nat} {j:Nat} (hq:zX q m) (s:l.length=m) (c:cs=l.flatMap f) (hf:∀ x∈l,(f x).length=st) (t:m<=yE):
 aF G E r ⟨n,g,pre++rowE q e st m cs::(mid++⟨b0,j,k++eqS (rowV q m)::c2,k0⟩::post),d,i⟩ ⟨n,g,pre++(mid++⟨b0,j,k++zR st f l::c2,k0⟩::post),d,i⟩:=by
 intro I F a W p;subst c;obtain⟨I',s1,w,o⟩:=ot p hq s hf t;obtain⟨s2,u⟩:=s1.reH (h':=pre++(mid++⟨b0,j,k++zR st f l::c2,k0⟩::post)) (by
  have:=s1.h;simp only [<-Bw pre] at this ⊢
  exact this.cells B fun xs=>zrT fun v e=>(show v=_ from e)▸o) fun b h=>by simpa [bs] using h
 exact⟨I',s2,w.trans u⟩
def uF (pre mid post:HL) {b0:Option Nat} {b:Nat} (hq:zX q m) (c:l.length=m) (a:cs=l.flatMap f) (hf:∀ x∈l,(f x).length=st) (h:m<=yE):
 aF G E r ⟨n,g,pre++rowE q e st m cs::(mid++⟨b0,b,[eqS (rowV q m)],k0⟩::post),d,i⟩ ⟨n,g,pre++(mid++⟨b0,b,[zR st f l],k0⟩::post),d,i⟩:=vB [] [] pre mid post hq c a hf h
def XW {k:Nat} (a:∀ I v,s.den I v->s'.den I v):aF G E r ⟨n,g,⟨b,e,[s],k⟩::h,d,i⟩ ⟨n,g,⟨b,e,[s'],k⟩::h,d,i⟩:=
 JB ⟨Z,Z,Z,Z,fun I xs c=>by obtain⟨x,rr,rfl,hx,hr⟩:=xW c;cases dens_nil_inv hr;exact yB (a I x hx) aq,wq h⟩
end
section
variable {P:Program} {G:Imm} {E:aD} {r:Option Nat} {S:St}
variable {l:List Oper} {N id:Nat} {sv:Nat->SV} {i:Nat×Bool} {Q:Hb} {s:SV} {g:Ha} {h:HL} {d:G7}
def Qt (sv:Nat->SV) (N:Nat) (s:SV):Nat->SV:=fun i=>if i=N then s else sv i
def uJ:Qt sv N s N=s:=by simp [Qt]
def xF {i:Nat} (h:i≠N):Qt sv N s i=sv i:=by simp [Qt,h]
theorem jj (h:s=sv N):Qt sv N s=sv:=by
 funext j;unfold Qt;grind
inductive gr (P:Program) (G:Imm) (E:aD) (gd:G4) (o:Oper) (g:Ha) (h:HL) (i:Nat×Bool):(SV->HL->Nat×Bool->Prop)->Prop
 | ok {s:SV} (ho:OpOK P G h o g s) (hg:zO gd g o true):gr P G E gd o g h i fun s' h' i'=>s'=s/\h'=h/\i'=i
 | no (hg:zO gd g o false):gr P G E gd o g h i fun s' h' i'=>s'=eqS undef/\h'=h/\i'=i
 | loc (pre Hp suf:HL) {Kl:SV->HL->Prop} (hs:h=pre++Hp++suf) (ho:OpL P G o g Hp Kl) (hg:zO gd g o true):gr P G E gd o g h i fun s' h' i'=>∃ H',Kl s' H'/\h'=pre++H'++suf/\i'=i
 | env {Kx:SV->Nat×Bool->Prop} (ho:ev P G E o g i Kx) (hg:zO gd g o true):gr P G E gd o g h i fun s' h' i'=>Kx s' i'/\h'=h
theorem gr.run {n:Nat} {o:Oper} {C:SV->HL->Nat×Bool->Prop} (z:gr P G E (xX l) o g h i C) {I:Imm} {F:Nat->Prop} {a:Act} {W:World} (c:Sat G E r ⟨n,[],h,d,i⟩ I F a W) (u:∀ t∈o.looksAt l.toArray,∀s,look t g=some s->s.den I (a.tmps.getD t undef)) {m:Nat} {q:Act->World->Prop} {Q:Exit->Act->World->Prop}
 (k:∀ s h' i' v I' F' W',C s h' i'->Sat G E r ⟨n,[],h',d,i'⟩ I' F' a W'->Fram (own ⟨n,[],h,d,i⟩ F) I W (own ⟨n,[],h',d,i'⟩ F') I' W'->s.den I' v->q (a.put o.dst v) W'):
 if Region.wanted o (yielded l.toArray a.tmps) then o.wpIn (Fr r) m P a W q Q else (∀f,o.about P W a.eval=some f->(Fr r).fn f)/\q (a.put o.dst undef) W:=by
 have K:reads g I o a:=fun x hx s c=>by
  cases x with
  | tmp t=>exact u t (ZI hx) s c
  | _=>cases c;rfl
 have D:∀ {b},zO (xX l) g o b->Region.wanted o (yielded l.toArray a.tmps)=b:=mY (fun j=>by simp [xX]) fun j w d s e hj=>u d (Jj e (by simpa [xX] using hj)) s
 cases z with
 | ok z hg=>
  rw [D hg,MX Z];exact z m r I W a _ Q c.m c.h K fun v I' W' O R u=>k _ _ _ v I' F W' ⟨Z,Z,Z⟩ (c.keep O R) (O.own _) u
 | no hg=>
  rw [D hg,MY B];exact⟨fun f _=>Qr r f,k _ _ _ _ I F W ⟨Z,Z,Z⟩ c (Fram.refl _ _ _) Z⟩
 | loc pre Hp suf hsp z hg=>
  rw [D hg,MX Z];subst hsp;have y:∀ {p H s:HL} {b:Nat},b∈bs (p++H++s)↔(b∈bs p\/b∈bs H)\/b∈bs s:=fun {p H s b}=>by simp [we,or_assoc]
  refine z m r I W a _ Q c.m (c.h.less ((B6 pre Hp).trans (B7 _ _))) K fun v I' W' s H' L hf A M u=>?_;obtain⟨s1,N⟩:=c.turn (fun b h=>y.2 (.inl (.inr h))) hf (fun b h=>(y.1 h).elim (fun h=>h.elim (fun h=>.inl (y.2 (.inl (.inl h)))) fun h=>(hf.own b h).imp (fun h=>y.2 (.inl (.inr h))) id) fun h=>.inl (y.2 (.inr h))) A (HoldsH.frame c.h M hf);grind
 | env z hg=>
  rw [D hg,MX Z];refine z m r I F W a _ Q c.m K c.e (fun b y=>⟨(c.f b y).1,(c.f b y).2.1⟩) fun v I' F' W' s i' L hf A hE hF' u=>?_;obtain⟨s1,N⟩:=c.env hf A hE hF';grind
def zCh (P:Program) (G:Imm) (E:aD) (l:List Oper) (n:Nat) (g0:Ha) (R:(Nat->Prop)->(Nat->SV)->HL->Nat×Bool->Prop) (L:Nat->Prop) (sv:Nat->SV) (hc:HL) (ic:Nat×Bool) (k:Nat) (o:Oper):Prop:=
 aL o n=true/\∃ C,gr P G E (xX l) o (wy l sv g0 k) hc ic C/\∀ s h' i',C s h' i'->∃ sv2,(∀j,(j=k\/L j)->sv2 j=Qt sv k s j)/\R (fun j=>j=k\/L j) sv2 h' i'
def TA (P:Program) (G:Imm) (E:aD) (r:Option Nat) (l:List Oper) (S:St) (Q:Hb):Prop:=
 ∀π,Ord l π (Array.replicate l.length false)->∀ n I F a W,Sat G E r S I F a W->wpOpsIn (Fr r) n P l.toArray (post G E r Q (own S F) I W) π a {W with drawn:=W.drawn+1}
def Ya (L:Array Bool):Nat:=L.toList.count false
def zfG {L:Array Bool} {i:Nat} (hi:i<L.size) (a:¬ Ld L i):Ya L=Ya (L.setIfInBounds i true)+1:=by
 have b:L[i]=false:=by
  unfold Ld at a
  simp only [Ak,AJ hi,AA] at a
  simpa using a
 have c:0<L.toList.count false:=List.count_pos_iff.2 (by grind);have h1:(L.toList.set i true).count false=L.toList.count false-1:=by rw [List.count_set GM];simp [b]
 unfold Ya;grind
def zuh:∀ {f t:Nat} {L:Array Bool},L.size=l.length->Ya L<=f->Ord l (Region.linearise.go .any l.toArray f t L []) L
 | 0,t,L,hL,hc=>AQ.2 fun i hi=>by
  obtain⟨o,a,b,_⟩:=(vZ hL).1 hi;have:=zfG (by grind) b;omega
 | f+1,t,L,hL,hc=>by
  simp only [Region.linearise.go];change Ord l (match (Region.ready .any l.toArray L)[t%(Region.ready .any l.toArray L).length]? with
   | some i=>Region.linearise.go .any l.toArray f (t/(Region.ready .any l.toArray L).length) (L.setIfInBounds i true) [i]
   | none=>[].reverse) L
  cases hi:(Region.ready .any l.toArray L)[t%(Region.ready .any l.toArray L).length]? with
  | none=>exact List.length_eq_zero_iff.1 (Nat.eq_zero_of_not_pos fun h=>M1 (List.getElem?_eq_none_iff.1 hi) (Nat.not_le_of_lt (Be _ h)))
  | some i=>
   have c:=AE hi;obtain⟨o,a,b,_⟩:=(vZ hL).1 c;have:=zfG (by grind) b;simp only [];rw [linearise_go_acc];exact⟨c,zuh (by grind) C⟩
def TA.T [b:bi P] (h:TA P G E r l S Q):T P G E r (.region id l.toArray true) S Q:=fun n I F a W c=>wpIn_region_draw fun t=>by
 simp only [Region.schedule,b.h,Bool.true_or,if_true];exact h _ (zuh B (by simp [Ya])) n I F a W c
theorem zb8 {n:Nat} (a1:Ze l=true) (a7:ui l=true) (a6:Zf l=true) (y:Xl l N=true) (hN:N<=l.length) {R:(Nat->Prop)->(Nat->SV)->HL->Nat×Bool->Prop} (sv:Nat->SV)
    (a5:∀ i o,l[i]? =some o->i<N->∀ (L:Nat->Prop) sv x u,R L sv x u->¬ L i->(∀e∈o.after.toList,Region.binds .any e=true->L e.on)->(∀j o,l[j]? =some o->L j->∀ e∈o.after.toList,Region.binds .any e=true->L e.on)->zCh P G E l n g R L sv x u i o)
    (hK:∀ (L:Nat->Prop) sv x u,R L sv x u->(∀j,j<N->L j)->ae P G E r (xX l) false (l.drop N) ⟨n,wy l sv g N,x,d,u⟩ fun S'=>Q .normal S')
    (h0:R (fun _=>False) sv h i):TA P G E r l ⟨n,g,h,d,i⟩ Q:=by
  intro π hπ m I0 F0 a0 W0 hs
  let Y (π:G7) (L:Array Bool):Prop:=∀ (x:HL) (u:Nat×Bool) (I:Imm) (F:Nat->Prop) (a:Act) (W:World) (sv:Nat->SV),Ord l π L->R (Ld L) sv x u->Mid G E r l N sv ⟨n,g,x,d,u⟩ L I F a W->Fram (own ⟨n,g,h,d,i⟩ F0) I0 W0 (own ⟨n,g,x,d,u⟩ F) I W->wpOpsIn (Fr r) m P l.toArray (post G E r Q (own ⟨n,g,h,d,i⟩ F0) I0 W0) π a W
  have A:∀ {π},(∀L:Array Bool,(¬∀ j,j<N->Ld L j)->Y π L)->∀ L,Y π L:=fun {π} hz L=>by
    by_cases b:∀ j,j<N->Ld L j
    . intro x u I F a W sv M hR c hf
      rw [zp8 y a1 (Af _) hN c.size (fun j q=>⟨fun h=>c.low j h,fun h=>b j h⟩) M];have:=nL l.toArray (fun j=>by simp [xX]) (hK _ _ _ _ hR b) N (fun i=>by simp) m (post G E r Q (own ⟨n,g,h,d,i⟩ F0) I0 W0) I F a W (c.done b) fun S' E' I' F' a' W' h1 ⟨h2,e⟩ h3=>⟨S',I',F',e▸h1,h2,hf.trans h3⟩
      grind
    grind
  have O:∀ π L,Y π L:=fun π=>by
    induction π with
    | nil=>
      refine A fun L b x u I F a W sv M hR c hf=>?_
      exfalso
      obtain⟨j,q⟩:=Classical.not_forall.1 b;obtain⟨k,⟨b2,b0⟩,a9⟩:=exists_least (p:=fun j=>j<N/\¬ Ld L j) ⟨j,Classical.not_imp.1 q⟩;have z:l[k]? =some (l[k]'(by omega)):=AL _
      have:k∈Region.ready .any l.toArray L:=(vZ c.size).2 ⟨_,z,b0,fun e he hb=>M4 fun hx=>by
        have h1:=VG a1 z he hb
        grind⟩
      rw [M] at this;grind
    | cons k π ih=>
      refine A fun L b x u I F a W sv M hR c hf=>?_;obtain⟨o,D,hn,f⟩:=(vZ c.size).1 M.1;have X:k<N:=Nat.lt_of_not_le fun h=>b fun j q=>(zaL y (yJ D) h (C:j<k)).listed (L:=Ld L) c.closed fun o' ho'=>by grind
      have z:k<L.size:=by rw [c.size];exact yJ D
      obtain⟨a2,C,hC,b1⟩:=a5 k o D X (Ld L) sv x u hR hn f c.closed;rw [wpOpsIn_cons];unfold wpOpIn;rw [AK,D];refine hC.run c.sat (fun t ht s=>c.slot a6 D hn f ht) fun s h' i' v I' F' W' hc' s1 f1 hv=>?_;obtain⟨a4,S,a3⟩:=b1 s h' i' hc';rw [show (fun j=>j=k\/Ld L j)=Ld (L.setIfInBounds k true) from funext fun j=>propext (YA z).symm] at a3
      have a8:Mid G E r l N (Qt sv k s) ⟨n,g,h',d,i'⟩ L I' F' a W':=⟨c.size,s1,fun t s hl hno=>s.mono _ _ _ f1.imm (c.old t s hl hno),fun j p d hp q H=>by
        rw [xF (show j≠k from fun e=>hn (e▸q))]
        exact (sv j).mono _ _ _ f1.imm (c.new j p d hp q H),c.low,c.closed⟩
      have w:=a8.step a7 D X (vL a2) f (by rw [uJ];exact hv)
      exact ih _ _ _ I' F' _ W' a4 M.2 a3 ⟨w.size,w.sat,w.old,fun j o d q K H=>by rw [S j ((YA z).1 K)];exact w.new j o d q K H,w.low,w.closed⟩ (hf.trans f1)
  have H:=zel hs.m (W0.drawn+1);have U:=hs.keep H.2 H.1;have K:∀ j,¬Ld (Array.replicate l.length false) j:=fun j=>by
    unfold Ld;simp only [Ak,Array.getElem?_replicate];grind
  exact O π _ h i I0 F0 a0 _ sv hπ (by rw [show Ld (Array.replicate l.length false)=fun _=>False from funext fun j=>eq_false (K j)];omega)
    ⟨B,{U with g:=fun t s h=>(by cases h)},fun t s hl _=>U.g t s hl,fun j o d _ q=>M1 q (K j),fun j q=>M1 q (K j),fun j o _ q=>M1 q (K j)⟩ (H.2.own _)
def un:∀ {l:List Oper} {k i:Nat} {sv:Nat->SV} {g:Ha},i<=k->wy (l.take k) sv g i=wy l sv g i
 | [],k,i,sv,g,_=>by simp
 | o::l,k,0,sv,g,h=>by rw [uj,uj]
 | o::l,k+1,i+1,sv,g,h=>un (l:=l) (Nat.le_of_succ_le_succ h)
theorem wW [A:bi P] (N:Nat) (g:kO l N=true) (h:ae P G E r (xX l) true (l.take N) S (fun S1=>ae P G E r (xX l) false (l.drop N) S1 (fun S'=>Q .normal S'))):
 T P G E r (.region id l.toArray true) S Q:=by
 simp only [kO,AD] at g
 obtain⟨v,u,t,b⟩:=g;obtain⟨sv,y,q⟩:=zoe h Z;obtain⟨M,x⟩:∃ M,M=(l.take N).length:=⟨_,Z⟩;rw [<-x] at y
 have c:M<=N/\M<=l.length/\l.drop N=l.drop M:=by rw [x,BG];exact⟨C,C,by simp⟩
 refine TA.T (zb8 (R:=fun _ a w p=>a=sv/\w=S.h/\p=S.i) v u t ?_ c.2.1 sv (fun k o hk hkN=>?_) (fun L a w p ⟨e1,e2,e3⟩ _=>?_) ⟨Z,Z,Z⟩)
 .refine B9.2 fun j z=>?_;have:=B9.1 b j z;grind
 .rintro L a w p ⟨rfl,rfl,rfl⟩ _ _ _;have h1:=q k o (by grind);rw [un C] at h1
  refine⟨by unfold aL;split;rfl;rename_i e;exact Bv▸h1.1 _ e,?_⟩;rcases h1.2 with ⟨n,m⟩ | ⟨n,m⟩ | ⟨n,m⟩
  .exact⟨_,.ok n m,fun s h' i' ⟨f,d,q3⟩=>⟨a,fun j _=>by rw [jj f],Z,d,q3⟩⟩
  .exact⟨_,.no n,fun s h' i' ⟨f,d,q3⟩=>⟨a,fun j _=>by rw [jj (f.trans m.symm)],Z,d,q3⟩⟩
  .exact⟨_,.env n m,fun s h' i' ⟨⟨f,d⟩,q3⟩=>⟨a,fun j _=>by rw [jj f],Z,q3,d⟩⟩
 .subst e1;subst e2;subst e3;rw [un c.1,c.2.2] at y
  exact y
theorem zU [bi P] (N:Nat) {y:Code} (a:kO l N=true) (h:ae P G E r (xX l) true (l.take N) S (fun S1=>ae P G E r (xX l) false (l.drop N) S1 (fun S'=>T P G E r y S' Q))):
 T P G E r (.seq (.region id l.toArray true) y) S Q:=zi (wW N a h)
end
section
variable {P:Program} {G:Imm} {E:aD} {r:Option Nat} {S:St}
variable {o:Oper} {H H':HL} {g:Ha} {s:SV}
def cP (c:H'.Sublist H) (h:OpOK P G H' o g s):OpOK P G H o g s:=
 fun n r I W a b Q e f d k=>h n r I W a b Q e (f.less c) d k
def VO (d:Option Nat) (s:SV) (g:Ha):Ha:=match d with
 | some t=>(t,s)::g
 | none=>g
def bE (P:Program) (G:Imm) (gd:G4) (n:Nat) (h:HL) (g:Ha) (o:Oper) (s:SV):Prop:=
 aL o n=true/\((OpOK P G h o g s/\zO gd g o true)\/(zO gd g o false/\s=eqS undef))
def bE.sub {c:G4} {n:Nat} {h h':HL} (d:h.Sublist h') (f:bE P G c n h g o s):bE P G c n h' g o s:=⟨f.1,f.2.imp (fun⟨a,b⟩=>⟨cP d a,b⟩) fun h=>h⟩
def ab (P:Program) (G:Imm) (gd:G4) (n:Nat) (h Hc:HL) (early:Nat->Bool) (k:Nat) (l:List Oper) (g:Ha) (K:Ha->Prop):Prop:=
 ∃sv:Nat->SV,K (wy l sv g l.length)/\∀ i o,l[i]? =some o->(bE P G gd n h (wy l sv g i) o (sv i)/\early (k+i)=true)\/bE P G gd n Hc (wy l sv g i) o (sv i)
def vU (o:Oper) (l:List Oper) (sv:Nat->SV) (g:Ha) (k:Nat):wy (o::l) sv g (k+1)=wy l (fun i=>sv (i+1)) (VO o.dst (sv 0) g) k:=rfl
section
variable {gd:G4} {n:Nat} {g:Ha} {h Hc:HL} {early:Nat->Bool} {o:Oper} {ops:List Oper} {k t:Nat} {s:SV} {K:Ha->Prop}
def ab.nil (a:K g):ab P G gd n h Hc early k [] g K:=⟨fun _=>eqS undef,a,fun i o hi=>by grind⟩
def ab.cons (b:(bE P G gd n h g o s/\early k=true)\/bE P G gd n Hc g o s) (a:ab P G gd n h Hc early (k+1) ops (VO o.dst s g) K):ab P G gd n h Hc early k (o::ops) g K:=by
 obtain⟨sv,h1,c⟩:=a;refine⟨fun | 0=>s | i+1=>sv i,h1,fun i p hp=>?_⟩;cases i with
 | zero=>cases hp;exact b
 | succ i=>rw [<-An,Nat.add_right_comm];exact c i p hp
def ab.one (b:OpOK P G h o g s) (c:zO gd g o true) (ht:o.dst=some t) (e:Nat.blt t n=true) (d:early k=true) (a:ab P G gd n h Hc early (k+1) ops ((t,s)::g) K):ab P G gd n h Hc early k (o::ops) g K:=
 .cons (.inl ⟨⟨by unfold aL;grind,.inl ⟨b,c⟩⟩,d⟩) (by rw [ht];exact a)
def ag (b:OpOK P G Hc o g s) (c:zO gd g o true) (ht:o.dst=some t) (d:Nat.blt t n=true) (a:ab P G gd n h Hc early (k+1) ops ((t,s)::g) K):ab P G gd n h Hc early k (o::ops) g K:=
 .cons (.inr ⟨by unfold aL;grind,.inl ⟨b,c⟩⟩) (by rw [ht];exact a)
def ab.no (b:zO gd g o false) (ht:o.dst=some t) (c:Nat.blt t n=true) (a:ab P G gd n h Hc early (k+1) ops ((t,eqS undef)::g) K):ab P G gd n h Hc early k (o::ops) g K:=
 .cons (.inr ⟨by unfold aL;grind,.inr ⟨b,Z⟩⟩) (by rw [ht];exact a)
def ab.oneB {b:Bool} (a:OpOK P G h o g (zp b)) (c:zO gd g o true) (ht:o.dst=some t) (e:Nat.blt t n=true) (d:early k=true)
 (h1:b=true->ab P G gd n h Hc early (k+1) ops ((t,zp true)::g) K) (f:b=false->ab P G gd n h Hc early (k+1) ops ((t,zp false)::g) K):ab P G gd n h Hc early k (o::ops) g K:=by
 cases b with
 | true=>exact .one a c ht e d (h1 Z)
 | false=>exact .one a c ht e d (f Z)
end
def YR (l:List Oper) (N k:Nat):Bool:=((iS l).getD N 0).testBit k
def uG:∀ {l:List Oper} {k:Nat} {sv a:Nat->SV} {g:Ha},(∀j,j<k->sv j=a j)->wy l sv g k=wy l a g k
 | [],_,_,_,_,_=>by rfl
 | _::_,0,_,_,_,_=>by rfl
 | o::l,k+1,sv,a,g,h=>by
  rw [vU,vU,h 0 C];exact uG fun j b=>h (j+1) C
def mO:∀ {l:List Oper} {k i:Nat} {sv:Nat->SV} {g:Ha},wy l sv g (k+i)=wy (l.drop k) (fun j=>sv (k+j)) (wy l sv g k) i
 | [],k,i,sv,g=>by simp [wy]
 | o::l,0,i,sv,g=>by simp [uj]
 | o::l,k+1,i,sv,g=>by
  rw [Nat.add_right_comm,vU,vU,mO];grind
def uB {l:List Oper} {i:Nat} {o:Oper} {sv:Nat->SV} {g:Ha} (h:l[i]? =some o):wy l sv g (i+1)=VO o.dst (sv i) (wy l sv g i):=by
 rw [mO,AO (yJ h),vU,uj,show l[i]'(yJ h)=o by grind];rfl
def ar (P:Program) (G:Imm) (E:aD) (gd:G4) (n:Nat) (Hc:HL) (o:Oper) (g:Ha) (h:HL) (ix:Nat×Bool) (C:Ha->HL->Nat×Bool->Prop):Prop:=
 aL o n=true/\∃ C0,gr P G E gd o g h ix C0/\∀ s h' i',C0 s h' i'->Hc.Sublist h'/\C (VO o.dst s g) h' i'
def de (P:Program) (G:Imm) (E:aD) (r:Option Nat) (l:List Oper) (n:Nat) (d:G7) (M:Nat) (K:St->Prop):(Ns:G7)->(k:Nat)->(Hc:HL)->Ha->HL->Nat×Bool->Prop
 | [],k,_,g,h,ix=>ab P G (xX l) n h h (fun _=>false) k ((l.take M).drop k) g (fun g'=>ae P G E r (xX l) false (l.drop M) ⟨n,g',h,d,ix⟩ K)
 | N::Ns,k,Hc,g,h,ix=>ab P G (xX l) n h Hc (YR l N) k ((l.take N).drop k) g (fun g'=>∃ oN,l[N]? =some oN/\ar P G E (xX l) n Hc oN g' h ix (fun g2 h2 i2=>de P G E r l n d M K Ns (N+1) Hc g2 h2 i2))
def VR (l:List Oper) (M:Nat):Nat->G7->Bool
 | k,[]=>Nat.ble k M
 | k,N::Ns=>Nat.ble k N&&(Nat.blt N M&&(((List.range l.length).all fun j=>Nat.ble j N||((iS l).getD j 0).testBit N)&&VR l M (N+1) Ns))
def XB (l:List Oper) (M:Nat) (Ns:G7):Bool:=Ze l&&(ui l&&(Zf l&&(Xl l M&&(Nat.ble M l.length&&VR l M 0 Ns))))
section
variable {l:List Oper} {n M:Nat} {d:G7} {g0 g:Ha} {sv:Nat->SV} {h Hc:HL} {K:St->Prop} {ix:Nat×Bool}
variable {k N:Nat} {L:Nat->Prop} {Ns:G7}
theorem QB {b:Nat->Bool} {K:Ha->Prop} (u:k<=N) (w:N<=l.length) (v:wy l sv g0 k=g)
 (r:ab P G (xX l) n h Hc b k ((l.take N).drop k) g K):
 ∃a:Nat->SV,(∀j,j<k->a j=sv j)/\K (wy l a g0 N)/\∀ j o,k<=j->j<N->l[j]? =some o->(bE P G (xX l) n h (wy l a g0 j) o (a j)/\b j=true)\/bE P G (xX l) n Hc (wy l a g0 j) o (a j):=by
 obtain⟨c,q,m⟩:=r;obtain⟨a,d,e⟩:∃ a:Nat->SV,(∀j,j<k->a j=sv j)/\∀ j,a (k+j)=c j:=⟨fun j=>if j<k then sv j else c (j-k),fun j hj=>MX hj,fun j=>(MY C).trans (by simp)⟩
 have f:∀ i,k+i<=N->wy ((l.take N).drop k) c g i=wy l a g0 (k+i):=fun i hi=>by
  rw [mO,uG d,v,BI,un C];simp_all
 refine⟨_,d,?_,fun j o t p s=>?_⟩
 .grind
 .obtain⟨i,rfl⟩:∃ i,j=k+i:=⟨j-k,C⟩;grind
def UL (P:Program) (G:Imm) (E:aD) (r:Option Nat) (l:List Oper) (n:Nat) (d:G7) (M:Nat) (K:St->Prop) (Hc:HL) (g0:Ha) (L:Nat->Prop) (sv:Nat->SV) (hc:HL) (ix:Nat×Bool):Prop:=
  Hc.Sublist hc/\(∀j,L j->j<l.length) /\
  ((∃N Ns,VR l M N (N::Ns)=true/\¬ L N/\(∀j o,j<N->l[j]? =some o->¬ L j->(bE P G (xX l) n hc (wy l sv g0 j) o (sv j)/\YR l N j=true)\/bE P G (xX l) n Hc (wy l sv g0 j) o (sv j)) /\
      ∃oN,l[N]? =some oN/\ar P G E (xX l) n Hc oN (wy l sv g0 N) hc ix (fun g2 h2 i2=>de P G E r l n d M K Ns (N+1) Hc g2 h2 i2)) \/
   ((∀j o,j<M->l[j]? =some o->¬ L j->bE P G (xX l) n hc (wy l sv g0 j) o (sv j))/\ae P G E r (xX l) false (l.drop M) ⟨n,wy l sv g0 M,hc,d,ix⟩ K))
def ZL (h:VR l M k (N::Ns)=true):k<=N/\N<M/\(∀j,j<l.length->N<j->bx l j N)/\VR l M (N+1) Ns=true/\VR l M N (N::Ns)=true:=by
 simp only [VR,AD] at h ⊢
 obtain⟨h1,c,b,a⟩:=h;refine⟨A9 h1,A9 c,fun j d f=>aY ?_,a,(Nat.ble_eq▸Af N:Nat.ble N N=true),c,b,a⟩;exact (Av _ _▸B9.1 b j (AI.2 d)).elim (fun e=>M1 (A9 e) C) fun h=>h
theorem zhO (A:M<=l.length) (q:VR l M k Ns=true) (y:wy l sv g0 k=g) (m:Hc.Sublist h)
 (u:∀ j,L j->j<k) (s:k<=l.length) (f:∀ j o,j<k->l[j]? =some o->¬ L j->bE P G (xX l) n Hc (wy l sv g0 j) o (sv j)) (x:de P G E r l n d M K Ns k Hc g h ix):
 ∃a,(∀j,j<k->a j=sv j)/\UL P G E r l n d M K Hc g0 L a h ix:=by
 have e:∀ {a:Nat->SV},(∀j,j<k->a j=sv j)->∀ j o,j<k->l[j]? =some o->¬ L j->bE P G (xX l) n Hc (wy l a g0 j) o (a j):=fun h1 j o c ho hn=>by
  rw [h1 j c,uG fun i hi=>h1 i C];grind
 cases Ns with
 | nil=>
  obtain⟨a,h1,w,v⟩:=QB (A9 q) A y x;refine⟨a,h1,m,fun j c=>Ah (u j c) s,.inr ⟨fun j o c ho hn=>?_,w⟩⟩;rcases Ab j k with b | b
  . exact (e h1 j o b ho hn).sub m
  grind
 | cons N Ns=>
  obtain⟨t,z,_,_,p⟩:=ZL q;obtain⟨a,h1,w,v⟩:=QB t C y x;refine⟨a,h1,m,fun j c=>Ah (u j c) s,.inl ⟨N,Ns,p,fun h=>?_,fun j o c ho hn=>?_,w⟩⟩
  . grind
  grind
theorem bE.step {o:Oper} {a:HL} {R:(Nat->Prop)->(Nat->SV)->HL->Nat×Bool->Prop} (f:bE P G (xX l) n a (wy l sv g0 k) o (sv k)) (g:R (fun j=>j=k\/L j) sv a ix):zCh P G E l n g0 R L sv a ix k o:=by
 rcases f with ⟨h1,⟨c,b⟩ | ⟨c,b⟩⟩
 .exact⟨h1,_,.ok c b,fun s h' i' ⟨e,e2,d⟩=>⟨sv,fun j _=>by rw [jj e],by grind⟩⟩
 .exact⟨h1,_,.no c,fun s h' i' ⟨e,e2,d⟩=>⟨sv,fun j _=>by rw [jj (e.trans b.symm)],by grind⟩⟩
def Kt (M:Nat) (Ns:G7) (Hc:HL) {Q:Hb} (K:XB l M Ns=true) (a4:Hc.Sublist h)
 (hr:de P G E r l n d M (fun S'=>Q .normal S') Ns 0 Hc g h ix):TA P G E r l ⟨n,g,h,d,ix⟩ Q:=by
 simp only [XB,AD] at K
 obtain⟨a2,Y,X,z,S,hN⟩:=K;have S:=A9 S;obtain⟨sv,_,W⟩:=zhO (sv:=fun _=>eqS undef) (L:=fun _=>False) S hN (uj _ _ _) a4 (fun j a=>a.elim) (BL _) (fun j o a=>M1 a (by simp)) hr;refine zb8 a2 Y X z S sv (fun k o hk hkM L sv' hc ic hR hn hpre hcl=>?_) (fun L sv' hc ic hR u=>?_) W
 .have F:=yJ hk;have q:∀ o',l[k]? =some o'->∀ e∈o'.after.toList,Region.binds .any e=true->L e.on:=fun o' m=>by grind
  obtain⟨v,t,⟨N,Ns,f,p,hf,oN,D,w⟩ | ⟨hf,b⟩⟩:=hR
  .obtain⟨_,a5,x,A,_⟩:=ZL f;rcases C9 k N with H | rfl | H
   .exact ((hf k o H hk hn).elim (·.1) (·.sub v)).step ⟨v,fun j a=>a.elim (fun e=>e▸F) (t j),.inl ⟨N,Ns,f,fun h=>h.elim GR p,fun j o a ho c=>hf j o a ho fun h=>c (.inr h),oN,D,w⟩⟩
   .rw [hk] at D;cases D
    have y:∀ j,L j->j<k:=fun j a=>by
     rcases C9 j k with h1 | rfl | h1
     .omega
     .grind
     .exact M1 ((x j (t j a) h1).listed hcl fun o' m=>hcl j o' m a) p
    obtain⟨O,C0,hC,u⟩:=w;refine⟨O,C0,hC,fun s h2 i2 a3=>?_⟩;obtain⟨I,b⟩:=u s h2 i2 a3;have a1:wy l (Qt sv' k s) g (k+1)=VO o.dst s (wy l sv' g k):=by
     rw [uB hk,uJ,uG fun j a=>xF (by omega)]
    obtain⟨U,h1,h2⟩:=zhO (L:=fun j=>j=k\/L j) S A a1 I (fun j a=>a.elim GR fun h=>by grind) (by omega) (fun j o' a m c=>by
     have a0:j≠k:=fun e=>c (.inl e);rw [xF a0,uG fun i hi=>xF (C:i≠k)]
     exact (hf j o' (by omega) m fun h=>c (.inr h)).elim (fun⟨_,h3⟩=>M1 ((aY h3).listed hcl q) fun h=>c (.inr h)) fun h=>h) b
    grind
   .exact M1 ((x k F H).listed hcl q) p
  .exact (hf k o hkM hk hn).step ⟨v,fun j a=>a.elim (fun e=>e▸F) (t j),.inr ⟨fun j o a ho c=>hf j o a ho fun h=>c (.inr h),b⟩⟩
 .obtain⟨_,_,⟨N,Ns,f,p,_⟩ | ⟨_,b⟩⟩:=hR
  .exact M1 (u N (ZL f).2.1) p
  .exact b
end
end
section
variable {P:Program} {G:Imm} {E:aD} {r:Option Nat} {S:St}
variable {l:List Oper} {a b i:Nat} {L:Array Bool} {p:G7} {Q:Hb}
def ren (p:G7) (o:Oper):Oper:={o with after:=o.after.map fun e=>{e with on:=p.idxOf e.on},guard:=o.guard.map fun x=>(p.idxOf x.1,x.2)}
def xQ (p:G7) (l:List Oper):List Oper:=p.map fun i=>ren p (l.getD i default)
def JC (p:G7) (l:List Oper):Bool:=p.isPerm (List.range l.length)
def Kh (h:JC p l=true) (i:Nat):(xQ p l)[p.idxOf i]? =(l[i]?).map (ren p):=by
 have a:i∈p↔i<l.length:=(List.isPerm_iff.1 h).mem_iff.trans AI;unfold xQ;grind
def zyd (h:JC p l=true) {j:Nat} (hi:i<l.length):p.idxOf j=p.idxOf i↔j=i:=by
 have c:∀ i,i∈p↔i<l.length:=fun i=>(List.isPerm_iff.1 h).mem_iff.trans AI;refine⟨fun e=>?_,fun e=>by grind⟩
 have a:=List.idxOf_lt_length_iff.2 ((c i).2 hi);have h1:p[p.idxOf i]=i:=List.getElem_idxOf a;grind
def ow (h:JC p l=true) {L':Array Bool} (d:L.size=l.length) (b:L'.size=l.length) (c:∀ i,Ld L' (p.idxOf i)↔Ld L i):p.idxOf i∈Region.ready .any (xQ p l).toArray L'↔i∈Region.ready .any l.toArray L:=by
 have a:(xQ p l).length=l.length:=by simpa [xQ] using (List.isPerm_iff.1 h).length_eq
 rw [vZ d,vZ (by omega),Kh h,c];cases l[i]? with
 | none=>simp
 | some o=>simp [ren,c,Region.binds]
def dQ (p:G7) (b:JC p l=true) (h:TA P G E r (xQ p l) S Q):TA P G E r l S Q:=by
 have d:(xQ p l).length=l.length:=by simpa [xQ] using (List.isPerm_iff.1 b).length_eq
 have m:∀ (π:G7) (L L':Array Bool),L.size=l.length->L'.size=l.length->(∀i,Ld L' (p.idxOf i)↔Ld L i)->Ord l π L->Ord (xQ p l) (π.map p.idxOf) L':=fun π=>by
  induction π with
  | nil=>
   intro L L' e c g f;refine AQ.2 fun k t=>?_;obtain⟨o',q,_⟩:=(vZ (by omega)).1 t
   have z:k<p.length:=by have:=yJ q;simpa [xQ] using this
   have s:=(List.isPerm_iff.1 b).nodup_iff.2 List.nodup_range;have:p[k]∈Region.ready .any l.toArray L:=(ow b e c g).1 (by grind);rw [f] at this;grind
  | cons i π ih=>
   intro L L' e c g f;refine⟨(ow b e c g).2 f.1,ih _ _ (by grind) (by grind) (fun j=>?_) f.2⟩;obtain⟨o,hi,_⟩:=(vZ e).1 f.1;rw [YA (by rw [c];have:=(ow b e c g).2 f.1;obtain⟨o',h1,_⟩:=(vZ (by omega)).1 this;grind),YA (by grind),g,zyd b (yJ hi)]
 have u:∀ {F:Fence} {n:Nat} {Q:Exit->Act->World->Prop} (π:G7) (a:Act) (w:World),wpOpsIn F n P (xQ p l).toArray Q (π.map p.idxOf) a w->wpOpsIn F n P l.toArray Q π a w:=fun {F n Q} π=>by
  induction π with
  | nil=>exact fun a w h=>h
  | cons i π ih=>
   intro a w h;rw [Ar,wpOpsIn_cons] at h
   rw [wpOpsIn_cons];have hy:∀ j,yielded (xQ p l).toArray a.tmps (p.idxOf j)=yielded l.toArray a.tmps j:=fun j=>by
    unfold yielded;rw [AK,AK,Kh b];cases l[j]? <;> rfl
   unfold wpOpIn at h ⊢
   rw [AK,Kh b] at h
   rw [AK];cases hi:l[i]? with
   | none=>grind
   | some o=>
    rw [hi] at h
    have v:Region.wanted (ren p o) (yielded (xQ p l).toArray a.tmps)=Region.wanted o (yielded l.toArray a.tmps):=by
     unfold Region.wanted;cases hg:o.guard with
     | none=>simp [ren,hg]
     | some x=>simp [ren,hg,hy]
    simp only [AM,v] at h ⊢
    cases o
    cases hw1:Region.wanted _ _ <;> rw [hw1] at h
    . exact⟨h.1,ih _ _ h.2⟩
    . exact Oper.wpIn_mono ih h
 intro π hπ n I F a W y;exact u π _ _ (h _ (m π _ _ B (by grind) (fun i=>by unfold Ld;simp [Ak,Array.getElem?_replicate];grind) hπ) n I F a W y)
def zcj (l:List Oper) (a b:Nat):List Oper:=l.modify b fun o=>{o with after:=o.after.push ⟨a,.phase⟩}
def mT:(zcj l a b)[i]? =(l[i]?).map fun o=>{o with after:=if b=i then o.after.push ⟨a,.phase⟩ else o.after}:=by
 unfold zcj;rw [List.getElem?_modify];split <;> simp
def kM (c:L.size=l.length):i∈Region.ready .any (zcj l a b).toArray L↔i∈Region.ready .any l.toArray L/\(i=b->Ld L a):=by
 rw [vZ c,vZ (by rw [c];simp [zcj]),mT];cases l[i]? with
 | none=>simp
 | some o=>
  have:(∀e∈(if b=i then o.after.push ⟨a,.phase⟩ else o.after).toList,Region.binds .any e=true->Ld L e.on)↔(∀e∈o.after.toList,Region.binds .any e=true->Ld L e.on)/\(i=b->Ld L a):=by
   split
   . rename_i h;simp [or_imp,forall_and,h,show Region.binds .any ⟨a,.phase⟩=true from rfl]
   . grind
  grind
def jc {F:Fence} {n:Nat} {Q:Exit->Act->World->Prop}:∀ {π:G7} {c:Act} {w:World},wpOpsIn F n P (zcj l a b).toArray Q π c w->wpOpsIn F n P l.toArray Q π c w
 | [],c,w,h=>h
 | i::π,c,w,h=>by
  have y:yielded (zcj l a b).toArray c.tmps=yielded l.toArray c.tmps:=by
   funext j;unfold yielded;rw [AK,AK,mT];cases l[j]? <;> rfl
  rw [wpOpsIn_cons] at h ⊢
  unfold wpOpIn at h ⊢
  rw [y,AK,mT] at h
  rw [AK];cases hi:l[i]? with
  | none=>rw [hi] at h;exact jc h
  | some o=>
   rw [hi] at h
   simp only [AM] at h ⊢
   cases o
   cases hw:Region.wanted _ (yielded l.toArray c.tmps)
   . exact⟨(MY (Dw.1 hw)▸h:).1,jc (MY (Dw.1 hw)▸h:).2⟩
   . exact Oper.wpIn_mono (fun _ _=>jc) (MX hw▸h:)
def Ord.add:∀ {π:G7} {L:Array Bool},L.size=l.length->Ld L a->Ord l π L->Ord (zcj l a b) π L
 | [],L,hL,ha,h=>AQ.2 fun i hi=>by have:=((kM hL).1 hi).1;rw [h] at this;grind
 | i::π,L,hL,ha,h=>⟨(kM hL).2 ⟨h.1,fun _=>ha⟩,h.2.add (by grind) (by
  obtain⟨o,c,_⟩:=(vZ hL).1 h.1
  exact (YA (by grind)).2 (.inr ha))⟩
theorem Ord.split (g:a≠b):∀ {π:G7} {L:Array Bool},L.size=l.length->Ord l π L->Ord (zcj l a b) π L\/Ord (zcj l b a) π L
  | [],L,hL,h=>.inl (AQ.2 fun i hi=>by have:=((kM hL).1 hi).1;rw [h] at this;grind)
  | i::π,L,hL,h=>by
    obtain⟨o,p,_⟩:=(vZ hL).1 h.1;have hi:∀ {j},j=i->Ld (L.setIfInBounds i true) j:=fun e=>(YA (by grind)).2 (.inl e)
    have f:(L.setIfInBounds i true).size=l.length:=by simpa using hL
    have one:∀ {c d:Nat},i≠d->Ord (zcj l c d) π (L.setIfInBounds i true)->Ord (zcj l c d) (i::π) L:=fun e k=>⟨(kM hL).2 ⟨h.1,fun e'=>M1 e' e⟩,k⟩
    by_cases m:i=a
    . exact .inl (one (fun e=>g (m.symm.trans e)) (h.2.add f (hi m.symm)))
    . by_cases n:i=b
      . exact .inr (one m (h.2.add f (hi n.symm)))
      . exact (h.2.split g f).imp (one n) (one m)
def qA (a b:Nat) (f:a≠b) (h1:TA P G E r (zcj l a b) S Q) (j:TA P G E r (zcj l b a) S Q):TA P G E r l S Q:=fun π hπ n I F i W g=>by
 have e:∀ c d,(zcj l c d).length=l.length:=fun c d=>by simp [zcj]
 rcases hπ.split f B with h | h
 .exact jc (h1 π (by grind) n I F i W g)
 .exact jc (j π (by grind) n I F i W g)
end
section
variable {P:Program} {G:Imm} {E:aD} {r:Option Nat} {S:St}
def Qu (l:List Oper) (N:Nat):Bool:=XB l (N+1) [N]
def ar.mono {c:G4} {n:Nat} {Hc:HL} {o:Oper} {g:Ha} {h:HL} {a:Nat×Bool} {C C':Ha->HL->Nat×Bool->Prop} (d:ar P G E c n Hc o g h a C) (e:∀ g h i,C g h i->C' g h i):ar P G E c n Hc o g h a C':=
 let ⟨h1,C0,h2,h3⟩:=d;⟨h1,C0,h2,fun s h' i' b=>⟨(h3 s h' i' b).1,e _ _ _ (h3 s h' i' b).2⟩⟩
def aU (P:Program) (G:Imm) (E:aD) (r:Option Nat) (gd:G4) (o:Oper) (rest:List Oper) (Hc:HL) (S:St) (K:St->Prop):Prop:=
 ar P G E gd S.n Hc o S.g S.h S.i fun g h i=>ae P G E r gd false rest ⟨S.n,g,h,S.d,i⟩ K
section
variable {N n:Nat} {Hc:HL} {l:List Oper} {oN:Oper} {Q:Hb} {g:Ha} {h:HL} {d:G7} {i:Nat×Bool}
variable {id:Nat} {y:Code}
def de.nil {K:St->Prop} (a:ae P G E r (xX l) false (l.drop id) ⟨n,g,h,d,i⟩ K):de P G E r l n d id K [] id Hc g h i:=by
 show ab _ _ _ _ _ _ _ _ ((l.take id).drop id) _ _;rw [BI,Az,Di];exact .nil a
def l8 (N:Nat) (Hc:HL) (a:Qu l N=true) (b:l[N]? =some oN) (c:Hc.Sublist h)
 (e:ab P G (xX l) n h Hc (YR l N) 0 (l.take N) g (fun f=>aU P G E r (xX l) oN (l.drop (N+1)) Hc ⟨n,f,h,d,i⟩ (fun S'=>Q .normal S'))):TA P G E r l ⟨n,g,h,d,i⟩ Q:=
 let ⟨sv,h1,h2⟩:=e;Kt (N+1) [N] Hc a c ⟨sv,⟨oN,b,h1.mono fun _ _ _ h=>.nil h⟩,h2⟩
def zfL [bi P] (N:Nat) (Hc:HL) (a:Qu l N=true) (b:l[N]? =some oN) (c:Hc.Sublist h)
 (e:ab P G (xX l) n h Hc (YR l N) 0 (l.take N) g (fun f=>aU P G E r (xX l) oN (l.drop (N+1)) Hc ⟨n,f,h,d,i⟩ (fun S'=>Q .normal S'))):T P G E r (.region id l.toArray true) ⟨n,g,h,d,i⟩ Q:=(l8 N Hc a b c e).T
def UG [bi P] (N:Nat) (Hc:HL) (a:Qu l N=true) (b:l[N]? =some oN) (c:Hc.Sublist h)
 (e:ab P G (xX l) n h Hc (YR l N) 0 (l.take N) g (fun f=>aU P G E r (xX l) oN (l.drop (N+1)) Hc ⟨n,f,h,d,i⟩ (fun S'=>T P G E r y S' Q))):T P G E r (.seq (.region id l.toArray true) y) ⟨n,g,h,d,i⟩ Q:=zi (l8 N Hc a b c e).T
def zoh [bi P] (p:G7) (N:Nat) (Hc:HL) (hp:JC p l=true) (a:Qu (xQ p l) N=true) (b:(xQ p l)[N]? =some oN) (c:Hc.Sublist h)
 (e:ab P G (xX (xQ p l)) n h Hc (YR (xQ p l) N) 0 ((xQ p l).take N) g (fun f=>aU P G E r (xX (xQ p l)) oN ((xQ p l).drop (N+1)) Hc ⟨n,f,h,d,i⟩ (fun S'=>T P G E r y S' Q))):T P G E r (.seq (.region id l.toArray true) y) ⟨n,g,h,d,i⟩ Q:=
 zi (dQ p hp (l8 N Hc a b c e)).T
end
section
variable {gd:G4} {n:Nat} {g:Ha} {h Hc:HL} {o:Oper} {ix:Nat×Bool} {C:Ha->HL->Nat×Bool->Prop}
variable {Kl:SV->HL->Prop} {t e c st:Nat} {x y:Operand} {cs:List SV} {q:HE}
def ar.loc (pre Hp suf:HL) (a:h=pre++Hp++suf) (c:OpL P G o g Hp Kl) (e:zO gd g o true) (f:aL o n=true) (b:∀ s H',Kl s H'->Hc.Sublist (pre++H'++suf)/\C (VO o.dst s g) (pre++H'++suf) ix):ar P G E gd n Hc o g h ix C:=
 ⟨f,_,.loc pre Hp suf a c e,fun s h' i' ⟨H',d,i,e2⟩=>by grind⟩
def ar.at (j:Nat) (c:OpL P G o g [q] Kl) (a:h[j]? =some q) (e:zO gd g o true) (f:aL o n=true) (b:∀ s H',Kl s H'->Hc.Sublist (wE h j H')/\C (VO o.dst s g) (wE h j H') ix):ar P G E gd n Hc o g h ix C:=
 .loc (h.take j) [q] (h.drop (j+1)) (Zo a) c e f fun s H' d=>by rw [<-ul a];grind
def ar.loc1 (j:Nat) (b:OpL P G o g [q] Kl) (e:h[j]? =some q) (c:zO gd g o true) (ht:o.dst=some t) (d:Nat.blt t n=true) (a:∀ s H',Kl s H'->Hc.Sublist (wE h j H')/\C ((t,s)::g) (wE h j H') ix):ar P G E gd n Hc o g h ix C:=
 .at j b e c (by unfold aL;grind) (by rw [ht];exact a)
def ar.loc1n (j:Nat) (b:OpL P G o g [q] Kl) (d:h[j]? =some q) (c:zO gd g o true) (ht:o.dst=none) (a:∀ s H',Kl s H'->Hc.Sublist (wE h j H')/\C g (wE h j H') ix):ar P G E gd n Hc o g h ix C:=
 .at j b d c (by unfold aL;grind) (by rw [ht];exact a)
def ar.loc0 (b:OpL P G o g [] Kl) (d:zO gd g o true) (ht:o.dst=some t) (e:Nat.blt t n=true) (a:∀ s H',Kl s H'->Hc.Sublist (wE.cat H' h)/\C ((t,s)::g) (wE.cat H' h) ix):ar P G E gd n Hc o g h ix C:=
 .loc [] [] h Z b d (by unfold aL;grind) fun s H' c=>by rw [ht,BJ,<-mV];exact a s H' c
def ar.env {Kx:SV->Nat×Bool->Prop} (c:ev P G E o g ix Kx) (a:Hc.Sublist h) (f:zO gd g o true) (ht:o.dst=some t) (i:Nat.blt t n=true) (b:∀ s i',Kx s i'->C ((t,s)::g) h i'):ar P G E gd n Hc o g h ix C:=
 ⟨by unfold aL;grind,_,.env c f,fun s h' i' ⟨d,e⟩=>by rw [e,ht];exact⟨a,b s i' d⟩⟩
def ar.no (a:Hc.Sublist h) (c:zO gd g o false) (ht:o.dst=some t) (d:Nat.blt t n=true) (b:C ((t,eqS undef)::g) h ix):ar P G E gd n Hc o g h ix C:=
 ⟨by unfold aL;grind,_,.no c,fun s h' i' ⟨f,e2,e⟩=>by rw [f,e2,e,ht];exact⟨a,b⟩⟩
def ar.append (j:Nat) {a:Nat} {zs:List Value} [am P t e st] [av P e zs a] {q:G3} {m:Nat} {α:Type} {f:α->List SV} {l:List α}
 (d:o.op= .call {callee:=.builtin .append,args:= #[x,y],argTypes:= #[t,t]}) (hx:yW g x=some (eqS (rowV q m))) (hy:yW g y=some (zR st f l)) (w:h[j]? =some (rowE q e st m cs)) (r:zO gd g o true) (ht:o.dst=some c) (u:Nat.blt c n=true)
 (hq:zX q m) (p:cs.length=m*st) (hf:∀ z∈l,(f z).length=st) (v:(m+l.length)*a<=yE) (k:m+l.length<=yE)
 (i:∀ b,zX b (m+l.length)->Hc.Sublist (wE h j [rowE b e st (m+l.length) (cs++l.flatMap f)])/\C ((c,eqS (rowV b (m+l.length)))::g) (wE h j [rowE b e st (m+l.length) (cs++l.flatMap f)]) ix):ar P G E gd n Hc o g h ix C:=
 .loc1 j (UE d hx hy hq p hf v k) w r ht u fun s H' ⟨b,D,A,e2⟩=>by grind
def aU.store (j:Nat) {d:G7} {i:Nat×Bool} {a:List Oper} {K:St->Prop} {t m:TypeId} [ai P t m] {b off k:Nat} {ds:List SV} {s:SV} [bj s ds] (f:o.op= .store t x y) (hx:yW g x=some (eqS (.pointer (some ⟨b,off,none⟩)))) (hy:yW g y=some s)
 (z:h[j]? =some ⟨some b,e,cs,k⟩) (q:ds.length=m) (c:Nat.ble (off+ds.length) cs.length=true) (v:o.dst=none) (u:zO gd g o true) (w:Hc.Sublist (wE h j [⟨some b,e,xB cs off ds,k⟩]))
 (p:ae P G E r gd false a ⟨n,g,wE h j [⟨some b,e,xB cs off ds,k⟩],d,i⟩ K):aU P G E r gd o a Hc ⟨n,g,h,d,i⟩ K:=
 .loc1n j (xf f hx hy q (A9 c)) z u v fun s' H' ⟨_,l⟩=>by grind
end
end
section
variable {P:Program} {G:Imm} {E:aD} {r:Option Nat} {S:St} {gd:G4} {p:Bool} {o:Oper} {ops:List Oper} {K:St->Prop}
variable {k kq:IntKind} {zs:List Value} {x y:Operand} {cs:List SV} {t e b n tn st a m c f:Nat} {i:Nat×Bool} {g:Ha} {h:HL} {d:G7}
def Jl (zs:List Value) (n:Nat):(Builtin.zeroCells zs.toArray n).toList=yD zs (n*zs.length):=by
 have:Builtin.zeroCells zs.toArray n=madeCells zs.toArray (n*zs.length):=by simp [Builtin.zeroCells,madeCells]
 rw [this,Yc]
def UH {ty:Nat} {kn:IntKind} [am P t e st] [a0:aR P tn kn] [S:av P e zs a] {W:World} {l:Nat} {xs:List Value} (d:W.ownsRow 0 e st (.slice (some ⟨b,0,none⟩) n l) n xs)
 (O:n+m<=maxLen) (r:(n+m)*a<=140737488355328):
 ∃v' W',(Builtin.append_ #[t,tn] ty #[.slice (some ⟨b,0,none⟩) n l,.int kq m]).run P W= .ok v' W'/\W'.ownsRow 0 e st v' (n+m) (xs++yD zs (m*st))/\W.grownBy W' (some b)/\(v'.ownBlock=some b\/v'.ownBlock=some W.heap.size):=by
 obtain⟨i,hi,q⟩:=am.i (P:=P) (t:=t);obtain⟨i',z,L,D,A,U,s⟩:=S.i;rw [hi] at L;cases L
 have Y:=am.u (P:=P) (t:=t);have v:=a0.h;have a6:0<st:=by rw [<-q,U];exact Er.2 S.pos
 have x:zs.length=st:=C;have R:n+m<=9223372036854775807:=by simp only [maxLen] at O;omega
 have I:(yD zs (m*st)).length=m*st:=um _ _;have j:(xs++yD zs (m*st)).length=(n+m)*st:=by rw [Aw,d.1,I,Bs]
 have y:∀ k,Builtin.zeroCells z.cells k=(yD zs (k*st)).toArray:=fun k=>by apply AW;rw [A,Jl,x]
 have G:∀ u∈yD zs (m*st),u.oneCell'=true:=ib (im S.one) _ (.inr S.pos);have hw:IntKind.i64.wrap (m:Int)=m:=by rw [IntKind.wrap_i64];omega
 have K:¬ ((m:Int)<0):=C;have Q:¬ (281474976710656<(m:Int)*(i.bytes:Int)):=by
  have:m*a<=(n+m)*a:=BK _ C;rw [s,<-BO];omega
 rcases d.2 with ⟨h,_⟩ | ⟨g,cap,o,h,a4,hg,a7,a3,a2,w⟩
 .grind
 cases h
 by_cases c:n+m<=l
 .have M:n*st+(yD zs (m*st)).length<=o.size:=by rw [I,a2,<-Bs];exact BK _ c
  have f:=run_storeCells_at P b (n*st) e (yD zs (m*st)) 0 o W hg (by omega) G;simp only [At] at f
  have F:(Builtin.append_ #[t,tn] ty #[.slice (some ⟨b,0,none⟩) n l,.int kq m]).run P W= .ok (.slice (some ⟨b,0,none⟩) (n+m) l) (W.setRow b (o.toList.take (n*st)++yD zs (m*st)++o.toList.drop (n*st+(yD zs (m*st)).length)).toArray):=by
   by_cases h0:m=0
   .subst h0;have a5:yD zs (0*st)=[]:=Aa (by omega);rw [a5] at f ⊢
    have X:IntKind.i64.wrap 0=0:=J;have p:n<=l:=c;simp [Builtin.append_,run_underlying Y,run_underlying v,sizeOf,typeInfo,hi,asInt,asIntOf,X,p,q,Addr.add_lit,f]
   .have E:st≠0:=C;simp [Builtin.append_,run_underlying Y,run_underlying v,sizeOf,typeInfo,zeroValue,hi,D,asInt,asIntOf,hw,K,Q,c,Addr.add_lit,y,q,f];intro hx;simp_all
  refine⟨_,_,F,⟨j,.inr ⟨b,l,_,Z,a4,setRow_heap W b o _ e _ hg,c,a3,?_,?_⟩⟩,⟨Z,Z,Z,B,fun k _ hk=>setRow_other W b k _ (fun e=>hk (by grind))⟩,.inl Z⟩
  .grind
  grind
 .have H:=
   run_firstCells_some (P:=P) W.drew i.size n ⟨b,0,none⟩ n l xs (by rw [q];exact d.1) (by simpa using d.cells (g:=b) Z)
  have hr:=Lib.run_append_grow_zeros (P:=P) W t tn ty e i z kq kn Y v hi D (some ⟨b,0,none⟩) n l xs H m C C C C (by
   omega) (by rw [s];exact growslice_fits C r)
  have a1:=grownCap_ge W (n+m) l e;have N:=grownCap_le_maxLen W (n+m) l e O;refine⟨_,_,hr,⟨j,.inr ⟨W.heap.size,_,_,Z,BL _,heap_alloc_new W.drew _,a1,N,?_,?_⟩⟩,⟨Z,Z,Z,B,fun k hk _=>wj W.drew _ hk⟩,.inr Z⟩
  .simp only [Array.size_append,AH,size_zeroCells,d.1,A,x,<-Bs];grind
  grind
def zb9 {p:IntKind} [am P t e st] [aR P tn p] [j:av P e zs c] {i:Nat}
 (hop:o.op= .call {callee:=.builtin .append,args:= #[x,y],argTypes:= #[t,tn]}) (hx:yW g x=some (eqS (rowV (some (b,i)) n))) (hy:yW g y=some (ze k m)) (hq:zX (some (b,i)) n) (v:cs.length=n*st) (f:(n+m)*c<=yE) (u:n+m<=yE):
 OpL P G o g [rowE (some (b,i)) e st n cs] (fun s H'=>∃ q',zX q' (n+m)/\s=eqS (rowV q' (n+m))/\H'=[rowE q' e st (n+m) (cs++(yD zs (m*st)).map eqS)]):=by
 refine lP hop hx hq v fun I W a xs r q d=>?_;obtain⟨l,W',A,e2,z,w⟩:=UH (P:=P) (t:=t) (tn:=tn) (ty:=o.type) (kq:=k) d (by unfold maxLen;unfold yE at u;omega) f
 rw [show a.eval y= .int k m from q.get Gl hy];exact⟨l,W',_,A,e2,z,fun b f=>w.elim (fun h=>.inl (h.symm.trans f)) fun h=>.inr (by grind),XV _,ib (im j.one) _ (.inr j.pos)⟩
def bK (j:Nat) {p:Nat} {Hc:HL} {v:IntKind} [am P t e st] [aR P tn v] [av P e zs a] {q:Nat}
 (l:o.op= .call {callee:=.builtin .append,args:= #[x,y],argTypes:= #[t,tn]}) (hx:yW g x=some (eqS (rowV (some (b,q)) n))) (hy:yW g y=some (ze k m)) (I:h[j]? =some (rowE (some (b,q)) e st n cs)) (ht:o.dst=some p) (F:Nat.blt p f=true) (D:zO gd g o true)
 (hq:zX (some (b,q)) n) (A:cs.length=n*st) (H:(n+m)*a<=yE) (z:n+m<=yE) (M:0<n+m)
 (w:∀ c,zX (some c) (n+m)->Hc.Sublist (wE h j [rowE (some c) e st (n+m) (cs++(yD zs (m*st)).map eqS)])/\ae P G E r gd false ops ⟨f,(p,eqS (rowV (some c) (n+m)))::g,wE h j [rowE (some c) e st (n+m) (cs++(yD zs (m*st)).map eqS)],d,i⟩ K):aU P G E r gd o ops Hc ⟨f,g,h,d,i⟩ K:=
 .loc1 j (zb9 l hx hy hq A H z) I D ht F fun s H' ⟨c,u,L,e2⟩=>by
  subst L;subst e2;cases c with
  | none=>exact M1 (show n+m=0 from u) C
  | some c=>grind
def zhq {H:HL} [am P t e 1] {low high:Option Operand} {lo hi:Nat} {z:Operand} {h:IntKind} (d:o.op= .slice t x low high none) (hx:yW g x=some (eqS (rowV (some (b,f)) n))) (hq:zX (some (b,f)) n)
 (c:low=some y) (hy:yW g y=some (ze k lo)) (a:high=some z) (i:yW g z=some (ze h hi)) (h1:lo<hi) (j:hi<=n):OpOK P G H o g (eqS (.slice (some ⟨b,lo,none⟩) (hi-lo) (f-lo))):=
 ik d hx (.inr ⟨_,_,c,hy⟩) (.inr ⟨_,_,a,i⟩) (.inl ⟨Z,Z⟩) C (Ag j hq.1) (Af _) (by rw [MY (by have:=hq.1;omega)];simp [Addr.add_lit])
def ah (pre Hp suf:HL) {xs:Array Operand} {e:Array TypeId} {f:FuncId} {args:List SV} {Q:SV->HL->Prop} (hp:p=false) (b:o.op= .call {callee:=.value (.func f),args:=xs,argTypes:=e})
 (m:uk g xs.toList=some args) (n:h=pre++Hp++suf) (j:CallSpec P G f args Hp Q) (l:zO gd g o true) (ht:o.dst=some c) (hd:Nat.blt c a=true)
 (k:∀ s H',Q s H'->ae P G E r gd p ops ⟨a,(c,s)::g,pre++H'++suf,d,i⟩ K):ae P G E r gd p (o::ops) ⟨a,g,h,d,i⟩ K:=by
 refine ae.loc hp n (VL b m j) l Gt fun s H' hq=>?_;rw [ht];exact k s H' hq
end
section
variable {P:Program} {G:Imm} {E:aD} {r:Option Nat} {S:St}
def zhr (j i off:Nat) {n:Nat} {g:Ha} {h:HL} {d:G7} {p:Nat×Bool} {b cap e st m b0 k k0:Nat} {cs c:List SV} {α:Type} {f:α->List SV} {l:List α} (t:h[j]? =some (rowE (some (b,cap)) e st m cs)) (u:(wE h j [])[i]? =some ⟨some b0,k,c,k0⟩) (q:c[off]? =some (eqS (rowV (some (b,cap)) m))) (hq:zX (some (b,cap)) m) (K:l.length=m) (o:cs=l.flatMap f) (hf:∀ x∈l,(f x).length=st) (L:m<=yE):
 aF G E r ⟨n,g,h,d,p⟩ ⟨n,g,wE (wE h j []) i [⟨some b0,k,c.set off (zR st f l),k0⟩],d,p⟩:=by
 intro I F a W H;subst o;have A:h=h.take j++rowE (some (b,cap)) e st m (l.flatMap f)::h.drop (j+1):=by simpa using Zo t
 have e2:wE h j []=h.take j++h.drop (j+1):=by rw [ul t,BV]
 obtain⟨I',s1,y,D⟩:=ot (by rw [<-A];exact H) hq K hf L;rw [<-A,<-e2] at y;rw [<-e2] at s1;have z:wE h j []=(wE h j []).take i++⟨some b0,k,c,k0⟩::(wE h j []).drop (i+1):=by simpa using Zo u
 have N:c=c.take off++eqS (rowV (some (b,cap)) m)::c.drop (off+1):=by rw [<-(EC.1 q).2,<-AO,BB]
 rw [ul u];have w:=s1.h;rw [z] at w
 obtain⟨s2,M⟩:=s1.reH (h':=(wE h j []).take i++[⟨some b0,k,c.set off (zR st f l),k0⟩]++(wE h j []).drop (i+1)) (by
  rw [Bw];refine w.cells B fun xs hx=>?_;rw [List.set_eq_take_append_cons_drop,MX (yJ q)];rw [N] at hx
  exact zrT (s:=eqS (rowV (some (b,cap)) m)) (fun v e=>(show v=_ from e)▸D) hx) fun b h=>by rw [z];simpa [bs] using h
 exact⟨I',s2,y.trans M⟩
end
section
variable {P:Program} {G:Imm} {E:aD} {r:Option Nat} {gd:G4} {p:Bool} {o:Oper} {ops:List Oper} {K:St->Prop} {n t:Nat} {g:Ha} {h:HL} {d:G7} {i:Nat×Bool} {s:SV} {B C:Prop} {S:St} {Q:Hb} {x y:Code}
def Fw [bi P] (N:Nat) {id:Nat} {l:List Oper} (k:B) (a:kO l N=true:=by kernel_rfl) (w:Bx B->ae P G E r (xX l) true (l.take N) S (fun S1=>ae P G E r (xX l) false (l.drop N) S1 (fun S'=>T P G E r y S' Q)):=by exact Fg):T P G E r (.seq (.region id l.toArray true) y) S Q:=zU N a (w ⟨k⟩)
end
section
variable {P:Program} {G:Imm} {gd:G4} {n:Nat} {g:Ha} {h H:HL} {early:Nat->Bool} {o:Oper} {ops:List Oper} {k t:Nat} {s:SV} {K:Ha->Prop} {B:Prop}
def Fy (a:ab P G gd n h H early (k+1) ops ((t,s)::g) K) (b:OpOK P G h o g s:=by first | exact zC Z Z | exact yC Z Z Z | exact zS Z Z Z | exact yN Z Z | exact ZJ Z Z | exact xP Z Z | exact E3 Z Z Z | exact yt Z Z | exact jT Z Z | exact wI Z Z | exact zZ Z Z Z Z | exact Xm Z Z | exact xp Z Z Z | exact yQ Z Z Z | exact lk Z Z | (refine zh Z Z Z ?_ (by assumption);omega) | exact zy Z Z (by decide) Z (by simp) Z Z | exact xl Z Z Z | exact zQ 0 Z Z Z Z | exact zQ 1 Z Z Z Z | exact zQ 2 Z Z Z Z | exact E4 0 Z Z Z Z | exact E4 1 Z Z Z Z | exact zE 0 Z Z Z Z Z) (c:zO gd g o true:=by first | exact Z | exact gB Z Z Z Z) (ht:o.dst=some t:=by exact Z) (e:Nat.blt t n=true:=by exact Z) (d:early k=true:=by kernel_rfl):ab P G gd n h H early k (o::ops) g K:=ab.one b c ht e d a
def Fz (a:ab P G gd n h H early (k+1) ops ((t,s)::g) K) (b:OpOK P G H o g s:=by first | exact zC Z Z | exact yC Z Z Z | exact zS Z Z Z | exact yN Z Z | exact ZJ Z Z | exact xP Z Z | exact E3 Z Z Z | exact yt Z Z | exact jT Z Z | exact wI Z Z | exact zZ Z Z Z Z | exact Xm Z Z | exact xp Z Z Z | exact yQ Z Z Z | exact lk Z Z | (refine zh Z Z Z ?_ (by assumption);omega) | exact zy Z Z (by decide) Z (by simp) Z Z | exact xl Z Z Z | exact zQ 0 Z Z Z Z | exact zQ 1 Z Z Z Z | exact zQ 2 Z Z Z Z | exact E4 0 Z Z Z Z | exact E4 1 Z Z Z Z | exact zE 0 Z Z Z Z Z) (c:zO gd g o true:=by first | exact Z | exact gB Z Z Z Z) (ht:o.dst=some t:=by exact Z) (d:Nat.blt t n=true:=by exact Z):ab P G gd n h H early k (o::ops) g K:=ag b c ht d a
def FA {A B:Prop} (w:Bx B->A:=by
 intro h
 repeat (first | refine Fz ?_ | refine Fy ?_ | refine ab.nil ⟨_,Z,?_⟩)
 exact h.o):Bx B->A:=w
def FB {A B:Prop} (k:B) (w:Bx B->A:=by exact FA):A:=w ⟨k⟩
def FC (a:OpOK P G h o g s) (z:B) (b:zO gd g o true:=by first | exact Z | exact gB Z Z Z Z) (ht:o.dst=some t:=by exact Z) (d:Nat.blt t n=true:=by exact Z) (c:early k=true:=by kernel_rfl) (w:Bx B->ab P G gd n h H early (k+1) ops ((t,s)::g) K:=by exact FA):ab P G gd n h H early k (o::ops) g K:=ab.one a b ht d c (w ⟨z⟩)
def FD (a:OpOK P G H o g s) (z:B) (b:zO gd g o true:=by first | exact Z | exact gB Z Z Z Z) (ht:o.dst=some t:=by exact Z) (c:Nat.blt t n=true:=by exact Z) (w:Bx B->ab P G gd n h H early (k+1) ops ((t,s)::g) K:=by exact FA):ab P G gd n h H early k (o::ops) g K:=ag a b ht c (w ⟨z⟩)
end
end Go.Sv
