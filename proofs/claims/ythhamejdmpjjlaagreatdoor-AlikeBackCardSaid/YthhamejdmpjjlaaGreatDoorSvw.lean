/- Ranges over functions whose iterator owns memory that it turns. -/
import Derived.Test.YthhamejdmpjjlaaGreatDoorSvs
import Derived.Lib.AppendZerosOnto
namespace Go.Sv
open Go Go.RowKit
section
variable {P:Program} {G:Imm} {E:Env} {r:Option Nat} {S:St} {Q:Exit→St→Prop}
structure IterSpecH (P:Program) (G:Imm) (f:FuncId) (caps:List SV) (xs:List (List SV)) (H0:HL) (QH:Nat×Bool→HL→Prop):Prop where
 enters:∀ args w,(callFunc f args).run P w= .ok (.enter f args) w
 main:∀ (l:Nat) (E:Env) (I:Imm) (F:Nat→Prop) (W:World) (cv:List Value),Zz P G E l xs→E.ok (0,false) I F W→XS F I W→(∀b,F b→b∉bs H0)→Holds G I W→HoldsH H0 I W→dens I caps cv →
  Calls P f (Value.func (.yield l) #[] #[]::cv).toArray W fun e W'=>∃ v I' F' i H',e= .returned v∧(i=(xs.length,false)∨i.2=true)∧QH i H'∧E.ok i I' F' W'∧XS F' I' W'∧(∀b,F' b→b∉bs H')∧Holds G I' W'∧HoldsH H' I' W'∧Fram (fun b=>b∈bs H0∨F b) I W (fun b=>b∈bs H'∨F' b) I' W'
theorem VC {f:FuncId} {fn:Func} {c:Code} {caps:List SV} {xs:List (List SV)} {H0:HL} {QH:Nat×Bool→HL→Prop} (hf:P.funcs[f]? =some fn) (hname:(fn.name == "runtime.NumGoroutine")=false) (hb:fn.body=some c) (hn:Nat.ble (caps.length+1) fn.ntmps=true) (hres:fn.results= #[])
  (hT:∀ (l:Nat) (E:Env),Zz P G E l xs→T P G E none c {n:=fn.ntmps,g:=params 0 (yieldS l::caps),h:=H0,d:=[],i:=(0,false)} (fun e S=>(e= .ret∨e= .normal)∧∃ H',H'.Sublist S.h∧QH S.i H'∧(S.i=(xs.length,false)∨S.i.2=true))):IterSpecH P G f caps xs H0 QH:=by
 refine⟨fun args w=>?_,fun l E I F W cv hy he hF hFH hm hh hd=>?_⟩
 ·have h1:fn.name ≠ "runtime.NumGoroutine" :=by simpa using hname
  simp [callFunc,hf,h1,hb]
 ·have h:=zbm (E:=E) (i0:=(0,false)) (H:=H0) (args:=yieldS l::caps) (vs:=Value.func (.yield l) #[] #[]::cv) (I:=I) (F:=F) (W:=W) (Q:=fun _ H' i=>QH i H'∧(i=(xs.length,false)∨i.2=true)) hf hb (by simpa using hn)
   (XW (hT l E hy) fun e S ⟨h1,H',h2,h3,h4⟩=>⟨h1,_,H',by rw [hres];exact .none,h2,h3,h4⟩) hm hh (zW rfl hd) he (fun b hb=>⟨(hF b hb).1,(hF b hb).2,hFH b hb⟩)
  refine h.mono ?_
  rintro e W' ⟨v,I',F',s,H',i',h1,⟨h2,h2'⟩,_,h4,h5,h6,h7,h8⟩
  exact⟨v,I',F',i',H',h1,h2',h2,h6,fun b hb=>⟨(h7 b hb).1,(h7 b hb).2.1⟩,fun b hb=>(h7 b hb).2.2,h4,h5,h8⟩
structure IterSpecG (P:Program) (G:Imm) (f:FuncId) (caps:List SV) (xs:List (List SV)) (H0:HL) (QH:Nat×Bool→HL→Prop) (ne:Prop):Prop where
 enters:∀ args w,(callFunc f args).run P w= .ok (.enter f args) w
 main:∀ (l:Nat) (E:Env) (I:Imm) (F:Nat→Prop) (W:World) (cv:List Value),Zz P G E l xs→(ne→∀ I F W,¬E.ok (xs.length,false) I F W)→E.ok (0,false) I F W→XS F I W→(∀b,F b→b∉bs H0)→Holds G I W→HoldsH H0 I W→dens I caps cv →
  Calls P f (Value.func (.yield l) #[] #[]::cv).toArray W fun e W'=>∃ v I' F' i H',e= .returned v∧(i=(xs.length,false)∨i.2=true)∧QH i H'∧E.ok i I' F' W'∧XS F' I' W'∧(∀b,F' b→b∉bs H')∧Holds G I' W'∧HoldsH H' I' W'∧Fram (fun b=>b∈bs H0∨F b) I W (fun b=>b∈bs H'∨F' b) I' W'
theorem zke {ne:Prop} {H0 h1:HL} {QH:Nat×Bool→HL→Prop} {x:Operand} {t:Nat} {ps:Array Tmp} {assign body:Code} {f:FuncId} {caps:List SV} {xs:List (List SV)} (hx:x= .tmp t) (hg:look t S.g=some (wp f caps)) (hit:IterSpecG P G f caps xs H0 QH ne) (hsp:List.Perm S.h (H0++h1)) (hps:∀ ss∈xs,ss.length=ps.size) (hnd:ps.toList.Nodup) (hpn:∀ p∈ps.toList,p<S.n)
  (Inv:Nat→HL→Nat×Bool→Prop) (InvX:Exit→HL→Nat×Bool→Prop) (h0:Inv 0 h1 S.i)
  (hbody:∀ (l k:Nat) (ss:List SV) (h:HL) (i:Nat×Bool),xs[k]? =some ss→Inv k h i→T P G E (some l) assign ⟨S.n,ZX ps.toList ss++S.g,h,[],i⟩ (fun e S'=>e= .normal∧T P G E (some l) body S' (UZ Inv InvX k)))
  (hne:ne→∀ (h:HL) (i:Nat×Bool),¬Inv xs.length h i)
  (hdone:∀ (h H':HL) (i:Nat×Bool) (D:List Nat),Inv xs.length h i→QH (xs.length,false) H'→Q .normal ⟨S.n,S.g,H'++h,D++S.d,i⟩)
  (hleave:∀ (h H':HL) (i:Nat×Bool) (j:Nat) (D:List Nat) (e:Exit) (c:Code),VB e=some c→InvX e h i→QH (j,true) H'→Q e ⟨S.n,S.g,H'++h,D++S.d,i⟩):T P G E r (.rangeFunc x ps assign body) S Q:=by
 intro n I F a W hs
 subst hx
 obtain⟨cv,hav,hcd⟩:=hs.g t _ hg
 refine wpIn_rangeFunc fun fnid _=>?_
 obtain⟨l,D,W1,db,hrun,hl1,hlge,hD,hDnd,e1,e2,e3,e4,e5⟩:=zeD (P:=P) hs fnid ps assign body
 have hm1:Holds G I W1:=⟨hs.m.glob,fun b c hc=>by obtain⟨e,fz,h⟩:=hs.m.mem b c hc;exact⟨e,fz,(e5 b (yp h)).trans h⟩⟩
 have hnew:∀ b,I b≠none→b<W.heap.size:=fun b hb=>by
  cases hI:I b with
  | none=>exact absurd hI hb
  | some c=>obtain⟨e,fz,h⟩:=hs.m.mem b c hI;exact yp h
 have hIn:∀ b,W.heap.size≤b→I b=none:=fun b hb=>by
  cases hI:I b with
  | none=>rfl
  | some c=>have:=hnew b (by simp [hI]);omega
 have hbsl:∀ b∈bs S.h,b<W.heap.size:=fun b hb=>(hs.h.lt hb).1
 have hdl:∀ b∈S.d,b<W.heap.size:=fun b hb=>yp (hs.dk b hb)
 have hbp:∀ b,b∈bs S.h↔b∈bs H0∨b∈bs h1:=fun b=>by have:=(hsp.filterMap (·.b)).mem_iff (a:=b);simp only [List.filterMap_append,List.mem_append] at this;exact this
 have hnd0:(bs H0++bs h1).Nodup:=by have h9:(bs S.h).Perm (bs (H0++h1)):=hsp.filterMap _;rw [xN] at h9;exact h9.nodup_iff.1 hs.h.nodup
 have hdis:∀ b,b∈bs H0→b∉bs h1:=fun b h1' h2'=>(List.nodup_append.1 hnd0).2.2 b h1' b h2' rfl
 have hhS:HoldsH S.h I W1:=⟨hs.h.nodup,fun p hp=>by
  cases hb:p.b with
  | none=>exact .of_none hb ((hs.h.mem p hp).none hb)
  | some b=>have h:=(hs.h.mem p hp).some hb;exact .of_some hb (h.keep (Imm.le_refl _) h.1 (e5 b h.lt))⟩
 have hh1:HoldsH h1 I W1:=⟨(List.nodup_append.1 hnd0).2.1,fun p hp=>hhS.mem p (hsp.mem_iff.2 (List.mem_append.2 (.inr hp)))⟩
 have hhH:HoldsH H0 I W1:=⟨(List.nodup_append.1 hnd0).1,fun p hp=>hhS.mem p (hsp.mem_iff.2 (List.mem_append.2 (.inl hp)))⟩
 have hE1:E.ok S.i I F W1:=E.stab _ _ _ _ _ _ hs.e (Imm.le_refl _) e1 e2 e3 e4 (fun b hb=>e5 b (hs.f b hb).1) fun b hb=>(hs.f b hb).2.1
 obtain⟨ro,hro⟩:∃ ro:Loop,∀k,r=some k→W.heap[k]? =some (.loop ro):=by
  cases hr:r with
  | none=>exact⟨{state:=.ready,pending:=none,fn:=fnid,tmps:=a.tmps,params:=ps,assign:=assign,body:=body,defers:=db},fun k hk=>by cases hk⟩
  | some k0=>obtain⟨⟨rec,h⟩,_⟩:=hs.l k0 hr;exact⟨rec,fun k hk=>by cases hk;exact h⟩
 have hlD:l∉D:=fun h=>by have:=(hD l h).2;rw [hl1] at this;cases this
 have hok:(zka E r ro (D++S.d) I l (fun st pe=>{state:=st,pending:=pe,fn:=fnid,tmps:=a.tmps,params:=ps,assign:=assign,body:=body,defers:=db}) Inv InvX).ok (0,false) I (fun b=>b∈bs h1∨b∈D++S.d∨b=l∨F b∨r=some b) W1:=by
  refine⟨h1,S.i,F,fun b=>Iff.rfl,Imm.le_refl _,hh1,hE1,fun b hb=>?_,fun b hb=>?_,fun k hk=>?_,.inl ⟨rfl,hl1,h0⟩⟩
  ·obtain⟨g1,g2,g3,g4⟩:=hs.f b hb
   refine⟨by omega,g2,fun h=>g3 ((hbp b).2 (.inr h)),fun h=>?_,by omega,fun h=>(hs.l b h).2 (.inr (.inr hb))⟩
   rcases List.mem_append.1 h with h | h
   ·have:=(hD b h).1;omega
   ·exact g4 h
  ·rcases List.mem_append.1 hb with h | h
   ·exact (hD b h).2
   ·exact (e5 b (hdl b h)).trans (hs.dk b h)
  ·have h:=hro k hk
   exact⟨by have:=yp h;omega,(e5 k (yp h)).trans h⟩
 have hap:XS (fun b=>b∈bs h1∨b∈D++S.d∨b=l∨F b∨r=some b) I W1:=by
  intro b hb
  rcases hb with h | h | h | h | h
  ·exact⟨by have:=hbsl b ((hbp b).2 (.inr h));omega,(hs.h.lt ((hbp b).2 (.inr h))).2⟩
  ·rcases List.mem_append.1 h with h | h
   ·exact⟨yp (hD b h).2,hIn b (hD b h).1⟩
   ·exact⟨by have:=hdl b h;omega,wx hs.m (hs.dk b h) (by intros;simp)⟩
  ·subst h;exact⟨yp hl1,hIn b hlge⟩
  ·exact⟨by have:=(hs.f b h).1;omega,(hs.f b h).2.1⟩
  ·obtain⟨⟨rec,h'⟩,_⟩:=hs.l b h;exact⟨by have:=yp h';omega,wx hs.m h' (by intros;simp)⟩
 have hFH:∀ b,(b∈bs h1∨b∈D++S.d∨b=l∨F b∨r=some b)→b∉bs H0:=by
  intro b hb hH
  have hS:=(hbp b).2 (.inl hH)
  rcases hb with h | h | h | h | h
  ·exact hdis b hH h
  ·rcases List.mem_append.1 h with h | h
   ·have:=(hD b h).1;have:=hbsl b hS;omega
   ·have h':=hs.dk b h;exact VA hs.h h' (by intros;simp) hS
  ·subst h;have:=hbsl b hS;omega
  ·exact (hs.f b h).2.2.1 hS
  ·obtain⟨⟨rec,h'⟩,_⟩:=hs.l b h;exact VA hs.h h' (by intros;simp) hS
 have hy:=zkb (P:=P) (G:=G) (E:=E) (r:=r) (n0:=S.n) (g:=S.g) (d:=D++S.d) (I0:=I) (l:=l) (fnid:=fnid) (ps:=ps) (assign:=assign) (body:=body) (tmps:=a.tmps) (db:=db) (ro:=ro) (xs:=xs) (Inv:=Inv) (InvX:=InvX) hps hnd hpn hs.n hs.g (hbody l)
 have hno:ne→∀ I1 F1 W2,¬(zka E r ro (D++S.d) I l (fun st pe=>{state:=st,pending:=pe,fn:=fnid,tmps:=a.tmps,params:=ps,assign:=assign,body:=body,defers:=db}) Inv InvX).ok (xs.length,false) I1 F1 W2:=by
  rintro hn I1 F1 W2 ⟨h,ie,Fc,_,_,_,_,_,_,_,hl⟩
  rcases hl with ⟨_,_,a3⟩ | ⟨a1,_⟩
  ·exact hne hn _ _ a3
  ·cases a1
 refine⟨l,D.map zj0,W1,{target:=.fn (.func f) cv.toArray,args:= #[.func (.yield l) #[] #[]]},W1,f,(Value.func (.yield l) #[] #[]::cv).toArray,W1,hrun,?_,fun f' _=>WJ r f',?_,fun h=>by simp [Fr,Fence.wide] at h,?_⟩
 ·simp only [resolve]
  have:a.eval (.tmp t)= .func (.func f) #[] cv.toArray:=hav
  simp only [this,Deferred.ofValue,Sem.run_pure,Array.empty_append]
  simp [Act.eval]
 ·have:(#[Value.func (.yield l) #[] #[]]++cv.toArray)=(Value.func (.yield l) #[] #[]::cv).toArray:=by apply Array.ext';simp
  simp only [invoke,this,hit.enters]
 ·refine ZW r ((hit.main l _ I _ W1 cv hy hno hok hap hFH hm1 hhH hcd).mono ?_)
  rintro e W' ⟨v,I',F',i,H',rfl,hi,hQH,⟨h,ie,Fc,hF',h0',hh',hE',hc',hd',hk',hl'⟩,hap',hFH',hm',hhH',hfr⟩
  have hbs':∀ b,b∈bs (H'++h)↔b∈bs H'∨b∈bs h:=fun b=>by simp [bs]
  have hhA:HoldsH (H'++h) I' W':=⟨by simp only [bs,List.filterMap_append];exact List.nodup_append.2 ⟨hhH'.nodup,hh'.nodup,fun x hx y hy e=>by subst e;exact hFH' x ((hF' x).2 (.inl hy)) hx⟩,fun p hp=>(List.mem_append.1 hp).elim (hhH'.mem p) (hh'.mem p)⟩
  -- the record, whatever it says, is not busy
  have fin:∀ (st:LoopState) (pe:Option Code),st≠ .busy→W'.heap[l]? =some (.loop {state:=st,pending:=pe,fn:=fnid,tmps:=a.tmps,params:=ps,assign:=assign,body:=body,defers:=db}) →
    ∃W2,(Instr.endLoop l).run P W'= .ok pe W2∧Sat G E r ⟨S.n,S.g,H'++h,D++S.d,ie⟩ I' Fc {a with defers:=D.map zj0++a.defers} W2∧Fram (own S F) I W (own ⟨S.n,S.g,H'++h,D++S.d,ie⟩ Fc) I' W2:=by
   intro st pe hst hlw
   have hend:=run_endLoop (P:=P) hlw hst
   refine⟨_,hend,?_,?_⟩
   ·have other:∀ k,k≠l→(W'.putObj l (.loop {state:=.exhausted,pending:=pe,fn:=fnid,tmps:=a.tmps,params:=ps,assign:=assign,body:=body,defers:=db})).heap[k]? =W'.heap[k]? :=fun k hk=>World.putObj_heap_other hk
    have hlI:I' l=none:=wx hm' hlw (by intros;simp)
    obtain⟨hm2,hf2⟩:=uO (W':=W'.putObj l (.loop {state:=.exhausted,pending:=pe,fn:=fnid,tmps:=a.tmps,params:=ps,assign:=assign,body:=body,defers:=db})) hm' hlI rfl rfl rfl (by simp) other
    have hlb:l∉bs (H'++h):=VA hhA hlw (by intros;simp)
    refine⟨hs.n,fun t s ht=>s.mono _ _ _ h0' (hs.g t s ht),hm2,hhA.keep hf2 fun b hb e=>hlb (by rw [←e];exact hb),by simp [hs.d],?_,fun b hb=>(other b fun e=>?_).trans (hd' b hb),?_,fun b hb=>?_,fun k hk=>?_⟩
    ·refine List.nodup_append.2 ⟨hDnd,hs.dn,fun x hx y hy e=>?_⟩
     subst e;have:=(hD x hx).1;have:=hdl x hy;omega
    ·subst e;have:=hd' b hb;rw [hlw] at this;cases this
    ·exact E.stab _ _ _ _ _ _ hE' (Imm.le_refl _) rfl rfl rfl (by simp) (fun b hb=>other b (hc' b hb).2.2.2.2.1) fun b hb=>(hc' b hb).2.1
    ·obtain⟨g1,g2,g3,g4,_⟩:=hc' b hb;exact⟨by simpa using g1,g2,fun h'=>((hbs' b).1 h').elim (hFH' b ((hF' b).2 (.inr (.inr (.inr (.inl hb)))))) g3,g4⟩
    ·obtain⟨h1,h2⟩:=hk' k hk
     refine⟨⟨ro,(other k h1).trans h2⟩,fun ho=>?_⟩
     rcases ho with ho | ho | ho
     ·exact VA hhA h2 (by intros;simp) ho
     ·have:=hd' k ho;rw [h2] at this;cases this
     ·exact (hc' k ho).2.2.2.2.2 hk
   ·have sub0:∀ b,(b∈bs H0∨b∈bs h1∨b∈D++S.d∨b=l∨F b∨r=some b)→b<W.heap.size→r≠some b→own S F b:=fun b hb hlt hr=>by
     rcases hb with h | h | h | h | h | h
     ·exact .inl ((hbp b).2 (.inl h))
     ·exact .inl ((hbp b).2 (.inr h))
     ·rcases List.mem_append.1 h with h | h
      ·have:=(hD b h).1;omega
      ·exact .inr (.inl h)
     ·omega
     ·exact .inr (.inr h)
     ·exact absurd h hr
    refine⟨hfr.os.trans e1,hfr.tape.trans e2,hfr.output.trans e3,hfr.imm,by have:=hfr.size;simp;omega,fun b hb hn=>?_,fun b hb hb'=>?_,fun b hb=>?_⟩
    ·rw [World.putObj_heap_other (by omega)]
     by_cases hr:r=some b
     ·rw [(hk' b hr).2,hro b hr]
     ·rw [hfr.old b (by omega) fun h=>hn (sub0 b h hb hr),e5 b hb]
    ·by_cases hlt:b<W.heap.size
     ·rcases hfr.new b hb hb' with h | h
      ·by_cases hr:r=some b
       ·have h2:=(hk' b hr).2
        exact absurd (wx hm' h2 (by intros;simp)) hb'
       ·exact .inl (sub0 b h hlt hr)
      ·omega
     ·exact .inr (by omega)
    ·by_cases hlt:b<W.heap.size
     ·left
      have hF:b∈bs H'∨F' b:=by
       rcases hb with h | h | h
       ·exact ((hbs' b).1 h).imp id fun h=>(hF' b).2 (.inl h)
       ·exact .inr ((hF' b).2 (.inr (.inl h)))
       ·exact .inr ((hF' b).2 (.inr (.inr (.inr (.inl h)))))
      rcases hfr.own b hF with h | h
      ·refine sub0 b h hlt fun hr=>?_
       have h2:=(hk' b hr).2
       rcases hb with h | h | h
       ·exact VA hhA h2 (by intros;simp) h
       ·have:=hd' b h;rw [h2] at this;cases this
       ·exact (hc' b h).2.2.2.2.2 hr
      ·omega
     ·exact .inr (by omega)
  rcases hl' with ⟨a1,a2,a3⟩ | ⟨a1,e,c,a2,a3,a4⟩
  ·obtain⟨W2,f1,f2,f3⟩:=fin _ _ (by simp) a2
   have hie:i=(xs.length,false):=by
    rcases hi with h | h
    ·exact h
    ·rw [a1] at h;cases h
   rw [hie] at a3 hQH
   exact⟨none,W2,f1,⟨_,I',Fc,f2,hdone h H' ie D a3 hQH,f3⟩⟩
  ·obtain⟨W2,f1,f2,f3⟩:=fin _ _ (by simp) a3
   refine⟨some c,W2,f1,?_⟩
   have hQH2:QH (i.1,true) H':=by have:i=(i.1,true):=Prod.ext rfl a1;rw [←this];exact hQH
   cases e with
   | ret=>cases a2;exact wpIn_ret ⟨_,I',Fc,f2,hleave h H' ie i.1 D .ret _ rfl a4 hQH2,f3⟩
   | exit id=>cases a2;exact wpIn_exit ⟨_,I',Fc,f2,hleave h H' ie i.1 D (.exit id) _ rfl a4 hQH2,f3⟩
   | _=>cases a2
theorem IterSpecH.toG {f:FuncId} {caps:List SV} {xs:List (List SV)} {H0:HL} {QH:Nat×Bool→HL→Prop} (h:IterSpecH P G f caps xs H0 QH):IterSpecG P G f caps xs H0 QH False:=⟨h.enters,fun l E I F W cv hy _=>h.main l E I F W cv hy⟩
theorem zcI {H0 h1:HL} {QH:Nat×Bool→HL→Prop} {x:Operand} {t:Nat} {ps:Array Tmp} {assign body:Code} {f:FuncId} {caps:List SV} {xs:List (List SV)} (hx:x= .tmp t) (hg:look t S.g=some (wp f caps)) (hit:IterSpecH P G f caps xs H0 QH) (hsp:List.Perm S.h (H0++h1)) (hps:∀ ss∈xs,ss.length=ps.size) (hnd:ps.toList.Nodup) (hpn:∀ p∈ps.toList,p<S.n)
  (Inv:Nat→HL→Nat×Bool→Prop) (InvX:Exit→HL→Nat×Bool→Prop) (h0:Inv 0 h1 S.i)
  (hbody:∀ (l k:Nat) (ss:List SV) (h:HL) (i:Nat×Bool),xs[k]? =some ss→Inv k h i→T P G E (some l) assign ⟨S.n,ZX ps.toList ss++S.g,h,[],i⟩ (fun e S'=>e= .normal∧T P G E (some l) body S' (UZ Inv InvX k)))
  (hdone:∀ (h H':HL) (i:Nat×Bool) (D:List Nat),Inv xs.length h i→QH (xs.length,false) H'→Q .normal ⟨S.n,S.g,H'++h,D++S.d,i⟩)
  (hleave:∀ (h H':HL) (i:Nat×Bool) (j:Nat) (D:List Nat) (e:Exit) (c:Code),VB e=some c→InvX e h i→QH (j,true) H'→Q e ⟨S.n,S.g,H'++h,D++S.d,i⟩):T P G E r (.rangeFunc x ps assign body) S Q:=
 zke hx hg hit.toG hsp hps hnd hpn Inv InvX h0 hbody (fun h=>h.elim) hdone hleave
theorem IterSpec.toH {f:FuncId} {caps:List SV} {xs:List (List SV)} (h:IterSpec P G f caps xs):IterSpecH P G f caps xs [] (fun _ H=>H=[]):=
 ⟨h.enters,fun l E I F W cv hy he hF _ hm _ hd=>(h.main l E I F W cv hy he hF hm hd).mono (by
  rintro e W' ⟨v,I',F',i,e1,e2,e3,e4,e5,e6⟩
  exact⟨v,I',F',i,[],e1,e2,rfl,e3,e4,fun _ _=>by simp [bs],e5,⟨by simp [bs],by simp⟩,e6.weaken (fun b hb=>.inr hb) fun b hb=>hb.elim (fun h=>by simp [bs] at h) .inl⟩)⟩
theorem zmG {x:Operand} {t:Nat} {ps:Array Tmp} {assign body:Code} {f:FuncId} {caps:List SV} {xs:List (List SV)} (hx:x= .tmp t) (hg:look t S.g=some (wp f caps)) (hit:IterSpec P G f caps xs) (hps:∀ ss∈xs,ss.length=ps.size) (hnd:ps.toList.Nodup) (hpn:∀ p∈ps.toList,p<S.n)
  (Inv:Nat→HL→Nat×Bool→Prop) (InvX:Exit→HL→Nat×Bool→Prop) (h0:Inv 0 S.h S.i)
  (hbody:∀ (l k:Nat) (ss:List SV) (h:HL) (i:Nat×Bool),xs[k]? =some ss→Inv k h i→T P G E (some l) assign ⟨S.n,ZX ps.toList ss++S.g,h,[],i⟩ (fun e S'=>e= .normal∧T P G E (some l) body S' (UZ Inv InvX k)))
  (hdone:∀ (h:HL) (i:Nat×Bool) (D:List Nat),Inv xs.length h i→Q .normal ⟨S.n,S.g,h,D++S.d,i⟩)
  (hleave:∀ (h:HL) (i:Nat×Bool) (D:List Nat) (e:Exit) (c:Code),VB e=some c→InvX e h i→Q e ⟨S.n,S.g,h,D++S.d,i⟩):T P G E r (.rangeFunc x ps assign body) S Q:=
 zcI (H0:=[]) (h1:=S.h) hx hg hit.toH (.refl _) hps hnd hpn Inv InvX h0 hbody (fun h H' i D hi e=>by subst e;exact hdone h i D hi) fun h H' i _ D e c hc hx e'=>by subst e';exact hleave h i D e c hc hx
theorem ul {n:Nat} {g:List (Nat×SV)} {h:HL} {d:List Nat} {i:Nat×Bool} {x:Operand} {t:Nat} {ps:Array Tmp} {assign body:Code} {f:FuncId} {caps:List SV} {xs:List (List SV)} (hx:x= .tmp t) (hg:look t g=some (wp f caps)) (hit:IterSpec P G f caps xs) (hps:∀ ss∈xs,ss.length=ps.size) (hnd:ps.toList.Nodup) (hpn:(ps.toList.all fun p=>Nat.blt p n)=true)
  (Inv:Nat→HL→Nat×Bool→Prop) (InvX:Exit→HL→Nat×Bool→Prop) (h0:Inv 0 h i)
  (hbody:∀ (l k:Nat) (ss:List SV) (h:HL) (i:Nat×Bool),xs[k]? =some ss→Inv k h i→T P G E (some l) assign ⟨n,ZX ps.toList ss++g,h,[],i⟩ (fun e S'=>e= .normal∧T P G E (some l) body S' (UZ Inv InvX k)))
  (hdone:∀ (h:HL) (i:Nat×Bool) (D:List Nat),Inv xs.length h i→Q .normal ⟨n,g,h,D++d,i⟩)
  (hleave:∀ (h:HL) (i:Nat×Bool) (D:List Nat) (e:Exit) (c:Code),VB e=some c→InvX e h i→Q e ⟨n,g,h,D++d,i⟩):T P G E r (.rangeFunc x ps assign body) ⟨n,g,h,d,i⟩ Q:=
 zmG hx hg hit hps hnd (fun p hp=>Nat.blt_eq▸(List.all_eq_true.1 hpn p hp)) Inv InvX h0 hbody hdone hleave
theorem zeF {H0 h1:HL} {QH:Nat×Bool→HL→Prop} {n:Nat} {g:List (Nat×SV)} {h:HL} {d:List Nat} {i:Nat×Bool} {x:Operand} {t:Nat} {ps:Array Tmp} {assign body:Code} {f:FuncId} {caps:List SV} {xs:List (List SV)} (hx:x= .tmp t) (hg:look t g=some (wp f caps)) (hit:IterSpecH P G f caps xs H0 QH) (hsp:List.Perm h (H0++h1)) (hps:∀ ss∈xs,ss.length=ps.size) (hnd:ps.toList.Nodup) (hpn:(ps.toList.all fun p=>Nat.blt p n)=true)
  (Inv:Nat→HL→Nat×Bool→Prop) (InvX:Exit→HL→Nat×Bool→Prop) (h0:Inv 0 h1 i)
  (hbody:∀ (l k:Nat) (ss:List SV) (h:HL) (i:Nat×Bool),xs[k]? =some ss→Inv k h i→T P G E (some l) assign ⟨n,ZX ps.toList ss++g,h,[],i⟩ (fun e S'=>e= .normal∧T P G E (some l) body S' (UZ Inv InvX k)))
  (hdone:∀ (h H':HL) (i:Nat×Bool) (D:List Nat),Inv xs.length h i→QH (xs.length,false) H'→Q .normal ⟨n,g,H'++h,D++d,i⟩)
  (hleave:∀ (h H':HL) (i:Nat×Bool) (j:Nat) (D:List Nat) (e:Exit) (c:Code),VB e=some c→InvX e h i→QH (j,true) H'→Q e ⟨n,g,H'++h,D++d,i⟩):T P G E r (.rangeFunc x ps assign body) ⟨n,g,h,d,i⟩ Q:=
 zcI hx hg hit hsp hps hnd (fun p hp=>Nat.blt_eq▸(List.all_eq_true.1 hpn p hp)) Inv InvX h0 hbody hdone hleave
theorem VD {n:Nat} {g:List (Nat×SV)} {h h':HL} {d:List Nat} {i:Nat×Bool} (hs:subH h h'):ZT G E r ⟨n,g,h,d,i⟩ ⟨n,g,h',d,i⟩:=fun I F _ _ s=>
 have hb:bs h'=bs h:=hs.bs
 have ho:∀ b,own ⟨n,g,h',d,i⟩ F b↔own ⟨n,g,h,d,i⟩ F b:=fun b=>by simp only [own];rw [hb]
 ⟨I,{s with
  h:=hs.holds s.h
  f:=fun b hF=>⟨(s.f b hF).1,(s.f b hF).2.1,fun x=>(s.f b hF).2.2.1 (hb▸x),(s.f b hF).2.2.2⟩
  l:=fun k hk=>⟨(s.l k hk).1,fun x=>(s.l k hk).2 ((ho k).1 x)⟩},(Fram.refl _ _ _).weaken (fun _ h=>h) fun b h=>.inr ((ho b).1 h)⟩
theorem Sat.cell {n:Nat} {g:List (Nat×SV)} {pre post:HL} {b:Option Nat} {e k:Nat} {s s':SV} {d:List Nat} {i:Nat×Bool} {I:Imm} {F:Nat→Prop} {a:Act} {W:World} (hs:Sat G E r ⟨n,g,pre++⟨b,e,[s],k⟩::post,d,i⟩ I F a W) (h:∀ v,s.den I v→s'.den I v):
    Sat G E r ⟨n,g,pre++⟨b,e,[s'],k⟩::post,d,i⟩ I F a W∧own ⟨n,g,pre++⟨b,e,[s'],k⟩::post,d,i⟩ F=own ⟨n,g,pre++⟨b,e,[s],k⟩::post,d,i⟩ F:=by
  have hb:bs (pre++⟨b,e,[s'],k⟩::post)=bs (pre++⟨b,e,[s],k⟩::post):=by simp [bs,List.filterMap_append,List.filterMap_cons]
  have ho:own ⟨n,g,pre++⟨b,e,[s'],k⟩::post,d,i⟩ F=own ⟨n,g,pre++⟨b,e,[s],k⟩::post,d,i⟩ F:=by funext c;simp only [own];rw [hb]
  refine⟨{hs with
    h:=⟨by rw [hb];exact hs.h.nodup,fun p hp=>?_⟩
    f:=fun c hc=>⟨(hs.f c hc).1,(hs.f c hc).2.1,fun x=>(hs.f c hc).2.2.1 (hb▸x),(hs.f c hc).2.2.2⟩
    l:=fun j hj=>⟨(hs.l j hj).1,fun x=>(hs.l j hj).2 (ho▸x)⟩},ho⟩
  rcases List.mem_append.1 hp with h1 | h1
  · exact hs.h.mem p (List.mem_append.2 (.inl h1))
  · rcases List.mem_cons.1 h1 with h1 | h1
    · subst h1
      have h2:=hs.h.mem ⟨b,e,[s],k⟩ (by simp)
      cases b with
      | none=>exact absurd (h2.none rfl) (by simp)
      | some b=>
        obtain⟨g1,c,g2,g3,g4,g5⟩:=h2.some rfl
        refine .of_some rfl ⟨g1,c,g2,g3,g4,?_⟩
        obtain⟨x,rr,hx,hxs,hr⟩:=xW g5
        cases dens_nil_inv hr
        show dens I [s'] (c.toList.take 1)
        rw [show c.toList.take 1=[x] from hx]
        exact zW (h x hxs) dens_nil
    · exact hs.h.mem p (by simp [h1])
theorem uZ (pre mid post:HL) {n:Nat} {g:List (Nat×SV)} {d:List Nat} {i:Nat×Bool} {b0:Option Nat} {e0 k0:Nat} {q:Option (Nat×Nat)} {e st m:Nat} {cs:List SV} {α:Type} {f:α→List SV} {l:List α} (hq:yu q m) (hl:l.length=m) (hcs:cs=l.flatMap f) (hf:∀ x∈l,(f x).length=st) (hb:m≤yP):
    ZT G E r ⟨n,g,pre++rowE q e st m cs::(mid++⟨b0,e0,[eqS (rowV q m)],k0⟩::post),d,i⟩ ⟨n,g,pre++(mid++⟨b0,e0,[zU st f l],k0⟩::post),d,i⟩:=by
  intro I F a W hs
  rw [←List.append_assoc]
  subst hcs
  cases q with
  | none=>
    have hq:m=0:=hq
    subst hq
    have hl0:l=[]:=List.eq_nil_of_length_eq_zero hl
    subst hl0
    obtain⟨I',s1,f1⟩:=zY (G:=G) (E:=E) (r:=r) (n:=n) (g:=g) (d:=d) (i:=i) (h:=pre++rowE none e st 0 ([].flatMap f)::(mid++⟨b0,e0,[eqS (rowV none 0)],k0⟩::post)) (h':=(pre++mid)++⟨b0,e0,[eqS (rowV none 0)],k0⟩::post) (by rw [List.append_assoc];exact List.Sublist.append_left (List.sublist_cons_self _ _) _) I F a W hs
    obtain⟨s2,o2⟩:=s1.cell (s':=zU st f []) fun v hv=>⟨none,0,hv,Nat.le_refl _,Nat.zero_le _,.inl rfl⟩
    exact⟨I',s2,by rw [o2];exact f1⟩
  | some q=>
    obtain⟨b,cap⟩:=q
    obtain⟨I',s1,s2,hle,hc⟩:=ZL (j:=pre.length) (b:=b) (e:=e) (k:=cap*st-m*st) (cs:=l.flatMap f) (by simp [rowE]) hs
    have ee:(pre++rowE (some (b,cap)) e st m (l.flatMap f)::(mid++⟨b0,e0,[eqS (rowV (some (b,cap)) m)],k0⟩::post)).take pre.length++(pre++rowE (some (b,cap)) e st m (l.flatMap f)::(mid++⟨b0,e0,[eqS (rowV (some (b,cap)) m)],k0⟩::post)).drop (pre.length+1)=(pre++mid)++⟨b0,e0,[eqS (rowV (some (b,cap)) m)],k0⟩::post:=by simp [List.drop_append]
    simp only [ee] at s1 s2
    obtain⟨s3,o3⟩:=s1.cell (s':=zU st f l) fun v hv=>by
      obtain⟨c,hc1,hc2⟩:=hc
      refine⟨some ⟨b,0,none⟩,cap,by rw [hl];exact hv,by rw [hl];exact hq.1,by rw [hl];exact hb,.inr ⟨b,0,rfl,fun i x hx=>⟨c,hc1,fun k s hk=>?_⟩⟩⟩
      have:(l.flatMap f)[i*st+k]? =some s:=by
        rw [List.flatMap_def]
        exact uB (by intro d hd;obtain⟨y,hy,rfl⟩:=List.mem_map.1 hd;exact hf y hy) (by rw [List.getElem?_map,hx];rfl) hk
      have:=hc2 _ s this
      simpa [Nat.add_assoc] using this
    exact⟨I',s3,by rw [o3];exact s2⟩
theorem Xn {n:Nat} {g:List (Nat×SV)} {b:Option Nat} {e k:Nat} {s s':SV} {h:HL} {d:List Nat} {i:Nat×Bool} (hs:∀ I v,s.den I v→s'.den I v):ZT G E r ⟨n,g,⟨b,e,[s],k⟩::h,d,i⟩ ⟨n,g,⟨b,e,[s'],k⟩::h,d,i⟩:=
 VD ⟨rfl,rfl,rfl,rfl,fun I xs hd=>by obtain⟨x,rr,rfl,hx,hr⟩:=xW hd;cases dens_nil_inv hr;exact zW (hs I x hx) dens_nil,xp h⟩
end
end Go.Sv
/- A drawn region, whatever order is drawn: a relation that every step keeps, and what it says when all is done. -/
namespace Go.Sv
open Go Go.RowKit
section
variable {P:Program} {G:Imm} {E:Env} {r:Option Nat} {S:St}
def VE (sv:Nat→SV) (N:Nat) (s:SV):Nat→SV:=fun i=>if i=N then s else sv i
theorem uf {sv:Nat→SV} {N:Nat} {s:SV}:VE sv N s N=s:=by simp [VE]
theorem xw {sv:Nat→SV} {N i:Nat} {s:SV} (h:i≠N):VE sv N s i=sv i:=by simp [VE,h]
theorem Mid.congr {l:List Oper} {N:Nat} {sv sv':Nat→SV} {L:Array Bool} {I:Imm} {F:Nat→Prop} {a:Act} {W:World} (hm:Mid G E r l N sv S L I F a W) (h:∀ j,Ld L j→sv' j=sv j):Mid G E r l N sv' S L I F a W:=
 ⟨hm.size,hm.sat,hm.old,fun j o d hj hL hd=>by rw [h j hL];exact hm.new j o d hj hL hd,hm.low,hm.closed⟩
def OpX (P:Program) (G:Imm) (E:Env) (o:Oper) (g:List (Nat×SV)) (i0:Nat×Bool) (Kx:SV→Nat×Bool→Prop):Prop:=
  ∀n r I F W a (next:Act→World→Prop) (Q:Exit→Act→World→Prop),Holds G I W→reads g I o a→E.ok i0 I F W→(∀b,F b→b<W.heap.size∧I b=none) →
    (∀v I' F' W' s i',Kx s i'→Fram F I W F' I' W'→Holds G I' W'→E.ok i' I' F' W'→(∀b,F' b→b<W'.heap.size∧I' b=none)→s.den I' v→next (a.put o.dst v) W')→o.wpIn (Fr r) n P a W next Q
theorem Sat.env {S:St} {I I':Imm} {F F':Nat→Prop} {a:Act} {W W':World} {i':Nat×Bool} (hsat:Sat G E r S I F a W) (hf:Fram F I W F' I' W') (hm':Holds G I' W') (hE:E.ok i' I' F' W') (hF':∀ b,F' b→b<W'.heap.size∧I' b=none):
  Sat G E r {S with i:=i'} I' F' a W'∧Fram (own S F) I W (own {S with i:=i'} F') I' W':=by
 have hnd:∀ c,c∈bs S.h→¬ F c:=fun c hc hF=>(hsat.f c hF).2.2.1 hc
 have hmd:∀ c,c∈S.d→¬ F c:=fun c hc hF=>(hsat.f c hF).2.2.2 hc
 refine⟨⟨hsat.n,fun t s hl=>s.mono _ _ _ hf.imm (hsat.g t s hl),hm',hsat.h.keep hf hnd,hsat.d,hsat.dn,fun c hc=>?_,hE,fun c hc=>?_,fun j hj=>?_⟩,hf.weaken (fun c hc=>.inr (.inr hc)) fun c hc=>?_⟩
 ·have:=hsat.dk c hc;exact (hf.old c (yp this) (hmd c hc)).trans this
 ·refine⟨(hF' c hc).1,(hF' c hc).2,fun h=>?_,fun h=>?_⟩
  ·rcases hf.own c hc with h1 | h1
   ·exact hnd c h h1
   ·have:=(hsat.h.lt h).1;omega
  ·rcases hf.own c hc with h1 | h1
   ·exact hmd c h h1
   ·have:=yp (hsat.dk c h);omega
 ·obtain⟨⟨rec,hrec⟩,ho⟩:=hsat.l j hj
  refine⟨⟨rec,(hf.old j (yp hrec) fun h=>ho (.inr (.inr h))).trans hrec⟩,fun h=>?_⟩
  rcases h with h | h | h
  ·exact ho (.inl h)
  ·exact ho (.inr (.inl h))
  ·rcases hf.own j h with h1 | h1
   ·exact ho (.inr (.inr h1))
   ·have:=yp hrec;omega
 ·rcases hc with h | h | h
  ·exact .inr (.inl h)
  ·exact .inr (.inr (.inl h))
  ·exact .inl h
theorem zcJ {l:List Oper} {N:Nat} (hed:ua l=true) (hnd:vm l=true) (hrd:ub l=true) (htail:Zr l N=true) (hN:N≤l.length) {R:(Nat→Prop)→(Nat→SV)→HL→Nat×Bool→Prop} {K:St→Prop}
    (hst:∀ i o,l[i]? =some o→i<N→∀ (L:Nat→Prop) sv hc ic,R L sv hc ic→¬ L i→(∀e∈o.after.toList,Region.binds .any e=true→L e.on)→(∀j o,l[j]? =some o→L j→∀ e∈o.after.toList,Region.binds .any e=true→L e.on) →
      (∀t,o.dst=some t→t<S.n)∧((((OpOK P G hc o (xT (l.take N) sv S.g i) (sv i)∧zH (xA l) (xT (l.take N) sv S.g i) o true)∨(zH (xA l) (xT (l.take N) sv S.g i) o false∧sv i=eqS undef))∧R (fun j=>j=i∨L j) sv hc ic) ∨
       (zH (xA l) (xT (l.take N) sv S.g i) o true∧∃ pre Hp suf Kl,hc=pre++Hp++suf∧OpL P G o (xT (l.take N) sv S.g i) Hp Kl∧∀ s H',Kl s H'→∃ sv2,(∀j,(j=i∨L j)→sv2 j=VE sv i s j)∧R (fun j=>j=i∨L j) sv2 (pre++H'++suf) ic) ∨
       (zH (xA l) (xT (l.take N) sv S.g i) o true∧∃ Kx,OpX P G E o (xT (l.take N) sv S.g i) ic Kx∧∀ s i',Kx s i'→∃ sv2,(∀j,(j=i∨L j)→sv2 j=VE sv i s j)∧R (fun j=>j=i∨L j) sv2 hc i') ∨
       (zH (xA l) (xT (l.take N) sv S.g i) o false∧∃ sv2,(∀j,(j=i∨L j)→sv2 j=VE sv i (eqS undef) j)∧R (fun j=>j=i∨L j) sv2 hc ic)))
    (hK:∀ (L:Nat→Prop) sv hc ic,R L sv hc ic→(∀j,j<N→L j)→Run P G E r (xA l) false (l.drop N) {S with h:=hc,i:=ic,g:=xT (l.take N) sv S.g (l.take N).length} K):
    ∀(fuel:Nat) (L:Array Bool) (hc:HL) (ic:Nat×Bool) (n:Nat) (Q:Exit→Act→World→Prop) (I:Imm) (F:Nat→Prop) (a:Act) (W:World) (sv:Nat→SV),uP L≤fuel→R (Ld L) sv hc ic→Mid G E r l N sv {S with h:=hc,i:=ic} L I F a W →
      (∀S' I' F' a' W',Sat G E r S' I' F' a' W'→K S'→Fram (own {S with h:=hc,i:=ic} F) I W (own S' F') I' W'→Q .normal a' W')→wpAnyIn (Fr r) n P .any l.toArray Q fuel L a W:=by
  have hgd:∀ j,xA l j=(l.toArray[j]?).bind (·.dst):=fun j=>by simp [xA]
  intro fuel
  induction fuel with
  | zero=>
    intro L hc ic n Q I F a W sv hcf hR hm hk
    have hall:∀ j,j<l.length→Ld L j:=fun j hj=>qW (by omega) (by rw [hm.size];exact hj)
    exact JR hgd htail hed (hK _ _ _ _ hR fun j hj=>hall j (by omega)) N (Nat.le_refl _) rfl L hm.size (fun j hj=>⟨fun h=>hm.low j h,fun _=>hall j hj⟩) 0 n Q I F a W (by
      rcases Nat.lt_or_ge N l.length with h | h
      · have:=hm.low N (hall N h);omega
      · omega) (hm.done hN fun j hj=>hall j (by omega)) hk
  | succ fuel ih=>
    intro L hc ic n Q I F a W sv hcf hR hm hk
    by_cases hall:∀ j,j<N→Ld L j
    · have hcount:l.length≤N+uP L:=by
        have h1:L.toList.count false=(L.toList.take N).count false+(L.toList.drop N).count false:=by rw [←List.count_append,List.take_append_drop]
        have h2:(L.toList.drop N).count false=(L.toList.drop N).length:=by
          refine List.count_eq_length.2 fun b hb=>?_
          obtain⟨k,hk1,hk2⟩:=List.mem_iff_getElem.1 hb
          have hk3:N+k<L.size:=by simp at hk1;omega
          have:¬ Ld L (N+k):=fun h=>by have:=hm.low _ h;omega
          unfold Ld at this
          simp only [Array.getD_eq_getD_getElem?,Array.getElem?_eq_getElem hk3,Option.getD_some] at this
          rw [←hk2];simp only [List.getElem_drop,Array.getElem_toList];simpa using this
        have:=hm.size
        unfold uP;rw [h1,h2];simp;omega
      exact JR hgd htail hed (hK _ _ _ _ hR hall) N (Nat.le_refl _) rfl L hm.size (fun j hj=>⟨fun h=>hm.low j h,fun h=>hall j h⟩) (fuel+1) n Q I F a W (by omega) (hm.done hN hall) hk
    · refine⟨fun hnil=>?_,fun i hi=>?_⟩
      · exfalso
        obtain⟨j,hj⟩:=Classical.not_forall.1 hall
        obtain⟨hj1,hj2⟩:=Classical.not_imp.1 hj
        obtain⟨m,⟨hm1,hm2⟩,hm3⟩:=Xe (p:=fun j=>j<N∧¬ Ld L j) ⟨j,hj1,hj2⟩
        have:m∈Region.ready .any l.toArray L:=(ve hm.size).2 ⟨l[m]'(by omega),List.getElem?_eq_getElem (by omega),hm2,fun e he hb=>by
          have h1:=Xg hed (show l[m]? =some (l[m]'(by omega)) from List.getElem?_eq_getElem (by omega)) he hb
          by_cases hx:Ld L e.on
          · exact hx
          · have:=hm3 e.on ⟨by omega,hx⟩;omega⟩
        rw [hnil] at this;cases this
      · obtain⟨o,ho,hn,hpre0⟩:=(ve hm.size).1 hi
        have hiN:i<N:=by
          rcases Nat.lt_or_ge i N with h | h
          · exact h
          · exfalso
            refine hall fun j hj=>?_
            exact (QJ htail (yt ho) h (show j<i by omega)).listed (L:=Ld L) hm.closed fun o' ho'=>by rw [ho] at ho';cases ho';exact hpre0
        have hilt:i<L.size:=by rw [hm.size];exact yt ho
        have hcnt:=zbj hilt hn
        have hset:(fun j=>j=i∨Ld L j)=Ld (L.setIfInBounds i true):=by funext j;exact propext (uX hilt).symm
        simp only [wpOpIn,List.getElem?_toArray,ho]
        obtain⟨hdst,hst1⟩:=hst i o ho hiN (Ld L) sv hc ic hR hn hpre0 hm.closed
        rcases hst1 with ⟨hstep,hR'⟩ | ⟨hgN,pre,Hp,suf,Kl,hsp,heff,hR'⟩ | ⟨hgN,Kx,heff,hR'⟩ | ⟨hgN,sv2,hsv2,hR2⟩
        · rw [hset] at hR'
          rcases hstep with ⟨hop,hg⟩ | ⟨hg,hsv⟩
          · rw [hm.wanted hrd ho hiN hn hpre0 hg,if_pos rfl]
            refine hop n r I W a _ Q hm.sat.m hm.sat.h (hm.reads hrd ho hiN hn hpre0) fun v I' W' he hh hv=>?_
            exact ih _ _ ic n Q I' F _ W' sv (by omega) hR' (hm.step hnd ho hiN hdst hpre0 he hh hv) fun S'' I'' F'' a'' W'' h1 h2 h3=>hk S'' I'' F'' a'' W'' h1 h2 ((he.own _).trans h3)
          · rw [hm.wanted hrd ho hiN hn hpre0 hg,if_neg (by simp)]
            refine⟨fun f _=>WJ r f,?_⟩
            exact ih _ _ ic n Q I F _ W sv (by omega) hR' (hm.step hnd ho hiN hdst hpre0 (Fram.refl _ _ _) hm.sat.m (by rw [hsv];exact rfl)) hk
        · rw [hm.wanted hrd ho hiN hn hpre0 hgN,if_pos rfl]
          have hsub:Hp.Sublist hc:=by rw [hsp];exact (List.sublist_append_right pre Hp).trans (List.sublist_append_left _ _)
          have hpre:pre.Sublist hc:=by rw [hsp,List.append_assoc];exact List.sublist_append_left _ _
          have hsuf:suf.Sublist hc:=by rw [hsp];exact List.sublist_append_right _ _
          have hq0:HoldsH Hp I W:=hm.sat.h.less hsub
          refine heff n r I W a _ Q hm.sat.m hq0 (hm.reads hrd ho hiN hn hpre0) fun v I' W' s H' hkl hf hm' hh' hv=>?_
          have hh2:HoldsH (pre++H'++suf) I' W':=HoldsH.frame (Hp:=Hp) (by rw [←hsp];exact hm.sat.h) hh' hf
          have hbq:∀ b,b∈bs Hp→b∈bs hc:=fun b hb=>(Xl hsub).subset hb
          obtain⟨s1,f1⟩:=hm.sat.turn (h':=(pre++H'++suf)) (O:=(· ∈bs Hp)) (O':=(· ∈bs H')) hbq hf (fun b hb=>by
            rw [xN,xN] at hb
            rcases List.mem_append.1 hb with hb | hb
            · rcases List.mem_append.1 hb with hb | hb
              · exact .inl ((Xl hpre).subset hb)
              · rcases hf.own b hb with h | h
                · exact .inl (hbq b h)
                · exact .inr h
            · exact .inl ((Xl hsuf).subset hb)) hm' hh2
          have hle:I.le I':=hf.imm
          have hm1:Mid G E r l N (VE sv i s) {S with h:=(pre++H'++suf),i:=ic} L I' F a W':=
            ⟨hm.size,s1,fun t s hl hno=>s.mono _ _ _ hle (hm.old t s hl hno),fun j p d hp hj hd=>by
              have hji:j≠i:=fun e=>hn (e▸hj)
              rw [xw hji]
              exact (sv j).mono _ _ _ hle (hm.new j p d hp hj hd),hm.low,hm.closed⟩
          have hm2:=hm1.step hnd ho hiN hdst hpre0 (Fram.refl _ _ _) hm' (v:=v) (by rw [uf];exact hv)
          obtain⟨sv2,hsv2,hR2⟩:=hR' s H' hkl
          rw [hset] at hR2
          have hm3:Mid G E r l N sv2 {S with h:=(pre++H'++suf),i:=ic} (L.setIfInBounds i true) I' F (a.put o.dst v) W':=hm2.congr fun j hj=>hsv2 j ((uX hilt).1 hj)
          exact ih _ _ ic n Q I' F _ W' sv2 (by omega) hR2 hm3 fun S'' I'' F'' a'' W'' h1 h2 h3=>hk S'' I'' F'' a'' W'' h1 h2 (f1.trans h3)
        · rw [hm.wanted hrd ho hiN hn hpre0 hgN,if_pos rfl]
          refine heff n r I F W a _ Q hm.sat.m (hm.reads hrd ho hiN hn hpre0) hm.sat.e (fun b hb=>⟨(hm.sat.f b hb).1,(hm.sat.f b hb).2.1⟩) fun v I' F' W' s i' hkx hf hm' hE hF' hv=>?_
          obtain⟨s1,f1⟩:=hm.sat.env (i':=i') hf hm' hE hF'
          have hm1:Mid G E r l N (VE sv i s) {S with h:=hc,i:=i'} L I' F' a W':=
            ⟨hm.size,s1,fun t s hl hno=>s.mono _ _ _ hf.imm (hm.old t s hl hno),fun j p d hp hj hd=>by
              have hji:j≠i:=fun e=>hn (e▸hj)
              rw [xw hji]
              exact (sv j).mono _ _ _ hf.imm (hm.new j p d hp hj hd),hm.low,hm.closed⟩
          have hm2:=hm1.step hnd ho hiN hdst hpre0 (Fram.refl _ _ _) hm' (v:=v) (by rw [uf];exact hv)
          obtain⟨sv2,hsv2,hR2⟩:=hR' s i' hkx
          rw [hset] at hR2
          have hm3:Mid G E r l N sv2 {S with h:=hc,i:=i'} (L.setIfInBounds i true) I' F' (a.put o.dst v) W':=hm2.congr fun j hj=>hsv2 j ((uX hilt).1 hj)
          exact ih _ _ i' n Q I' F' _ W' sv2 (by omega) hR2 hm3 fun S'' I'' F'' a'' W'' h1 h2 h3=>hk S'' I'' F'' a'' W'' h1 h2 (f1.trans h3)
        · rw [hm.wanted hrd ho hiN hn hpre0 hgN,if_neg (by simp)]
          refine⟨fun f _=>WJ r f,?_⟩
          rw [hset] at hR2
          have hm1:Mid G E r l N (VE sv i (eqS undef)) {S with h:=hc,i:=ic} L I F a W:=hm.congr fun j hj=>xw fun e=>hn (e▸hj)
          have hm2:=hm1.step hnd ho hiN hdst hpre0 (Fram.refl _ _ _) hm.sat.m (v:=undef) (by rw [uf];exact rfl)
          exact ih _ _ ic n Q I F _ W sv2 (by omega) hR2 (hm2.congr fun j hj=>hsv2 j ((uX hilt).1 hj)) hk
def TA (P:Program) (G:Imm) (E:Env) (r:Option Nat) (l:List Oper) (S:St) (Q:Exit→St→Prop):Prop:=
 ∀n I F a W,Sat G E r S I F a W→wpAnyIn (Fr r) n P .any l.toArray (post G E r Q (own S F) I W) l.length (Array.replicate l.length false) a {W with drawn:=W.drawn+1}
theorem TA.T [hmx:Mixed P] {id:Nat} {l:List Oper} {Q:Exit→St→Prop} (h:TA P G E r l S Q):T P G E r (.region id l.toArray true) S Q:=fun n I F a W hs=>wpIn_region_any hmx.h (by simpa using h n I F a W hs)
theorem zeG {l:List Oper} {N:Nat} (hed:ua l=true) (hnd:vm l=true) (hrd:ub l=true) (htail:Zr l N=true) (hN:N≤l.length) {R:(Nat→Prop)→(Nat→SV)→HL→Nat×Bool→Prop} {Q:Exit→St→Prop} (sv:Nat→SV)
  (hst:∀ i o,l[i]? =some o→i<N→∀ (L:Nat→Prop) sv hc ic,R L sv hc ic→¬ L i→(∀e∈o.after.toList,Region.binds .any e=true→L e.on)→(∀j o,l[j]? =some o→L j→∀ e∈o.after.toList,Region.binds .any e=true→L e.on) →
   (∀t,o.dst=some t→t<S.n)∧((((OpOK P G hc o (xT (l.take N) sv S.g i) (sv i)∧zH (xA l) (xT (l.take N) sv S.g i) o true)∨(zH (xA l) (xT (l.take N) sv S.g i) o false∧sv i=eqS undef))∧R (fun j=>j=i∨L j) sv hc ic) ∨
    (zH (xA l) (xT (l.take N) sv S.g i) o true∧∃ pre Hp suf Kl,hc=pre++Hp++suf∧OpL P G o (xT (l.take N) sv S.g i) Hp Kl∧∀ s H',Kl s H'→∃ sv2,(∀j,(j=i∨L j)→sv2 j=VE sv i s j)∧R (fun j=>j=i∨L j) sv2 (pre++H'++suf) ic) ∨
    (zH (xA l) (xT (l.take N) sv S.g i) o true∧∃ Kx,OpX P G E o (xT (l.take N) sv S.g i) ic Kx∧∀ s i',Kx s i'→∃ sv2,(∀j,(j=i∨L j)→sv2 j=VE sv i s j)∧R (fun j=>j=i∨L j) sv2 hc i') ∨
    (zH (xA l) (xT (l.take N) sv S.g i) o false∧∃ sv2,(∀j,(j=i∨L j)→sv2 j=VE sv i (eqS undef) j)∧R (fun j=>j=i∨L j) sv2 hc ic)))
  (hK:∀ (L:Nat→Prop) sv hc ic,R L sv hc ic→(∀j,j<N→L j)→Run P G E r (xA l) false (l.drop N) {S with h:=hc,i:=ic,g:=xT (l.take N) sv S.g (l.take N).length} fun S'=>Q .normal S')
  (h0:∀ L:Nat→Prop,(∀j,¬L j)→R L sv S.h S.i):TA P G E r l S Q:=by
 intro nn I F a W hs
 have hd:=zhO hs.m (W.drawn+1)
 have hs':=hs.keep hd.2 hd.1
 have hL:∀ j,¬Ld (Array.replicate l.length false) j:=fun j=>by
  unfold Ld;simp only [Array.getD_eq_getD_getElem?,Array.getElem?_replicate];split <;> simp
 exact zcJ hed hnd hrd htail hN hst hK _ _ S.h S.i nn (post G E r Q (own S F) I W) I F a _ sv (by simp [uP]) (h0 _ hL)
  ⟨by simp,⟨hs'.n,fun t s h=>(by cases h),hs'.m,hs'.h,hs'.d,hs'.dn,hs'.dk,hs'.e,hs'.f,hs'.l⟩,fun t s hl _=>hs'.g t s hl,fun j o d _ hj=>absurd hj (hL j),fun j hj=>absurd hj (hL j),fun j o _ hj=>absurd hj (hL j)⟩
  fun S' I' F' a' W' h1 h2 h3=>⟨S',I',F',h1,h2,(hd.2.own _).trans h3⟩
theorem Ju {l:List Oper} {N:Nat} (hed:ua l=true) (hnd:vm l=true) (hrd:ub l=true) (htail:Zr l N=true) (hN:N≤l.length) {R:(Nat→Prop)→(Nat→SV)→HL→Prop} {Q:Exit→St→Prop} (sv:Nat→SV)
  (hst:∀ i o,l[i]? =some o→i<N→(∀t,o.dst=some t→t<S.n)∧∀ (L:Nat→Prop) sv hc,R L sv hc→¬ L i→(∀e∈o.after.toList,Region.binds .any e=true→L e.on)→(∀j o,l[j]? =some o→L j→∀ e∈o.after.toList,Region.binds .any e=true→L e.on) →
   ((((OpOK P G hc o (xT (l.take N) sv S.g i) (sv i)∧zH (xA l) (xT (l.take N) sv S.g i) o true)∨(zH (xA l) (xT (l.take N) sv S.g i) o false∧sv i=eqS undef))∧R (fun j=>j=i∨L j) sv hc) ∨
    (zH (xA l) (xT (l.take N) sv S.g i) o true∧∃ pre Hp suf Kl,hc=pre++Hp++suf∧OpL P G o (xT (l.take N) sv S.g i) Hp Kl∧∀ s H',Kl s H'→R (fun j=>j=i∨L j) (VE sv i s) (pre++H'++suf))))
  (hK:∀ (L:Nat→Prop) sv hc,R L sv hc→(∀j,j<N→L j)→Run P G E r (xA l) false (l.drop N) {S with h:=hc,g:=xT (l.take N) sv S.g (l.take N).length} fun S'=>Q .normal S')
  (h0:∀ L:Nat→Prop,(∀j,¬L j)→R L sv S.h):TA P G E r l S Q:=
 zeG (R:=fun L sv hc ic=>R L sv hc∧ic=S.i) hed hnd hrd htail hN sv (fun i o hi hiN L sv hc ic ⟨hr,e⟩ hL ha hb=>⟨(hst i o hi hiN).1,by
  rcases (hst i o hi hiN).2 L sv hc hr hL ha hb with ⟨h1,h2⟩ | ⟨h1,pre,Hp,suf,Kl,h2,h3,h4⟩
  ·exact .inl ⟨h1,h2,e⟩
  ·exact .inr (.inl ⟨h1,pre,Hp,suf,Kl,h2,h3,fun s H' hs=>⟨_,fun _ _=>rfl,h4 s H' hs,e⟩⟩)⟩) (fun L sv hc ic ⟨hr,e⟩ h=>by subst e;exact hK L sv hc hr h) fun L h=>⟨h0 L h,rfl⟩
theorem Zu [hmx:Mixed P] (N:Nat) {id:Nat} {l:List Oper} {Q:Exit→St→Prop} (hok:JQ l N=true) (h:Run P G E r (xA l) true (l.take N) S (fun S1=>Run P G E r (xA l) false (l.drop N) S1 (fun S'=>Q .normal S'))):
  T P G E r (.region id l.toArray true) S Q:=by
 obtain⟨sv,hK,hst⟩:=zhP h rfl
 have hNl:(l.take N)=(l.take (min N l.length)):=by simp [List.take_eq_take_iff]
 have hdl:(l.drop N)=(l.drop (min N l.length)):=by
  rcases Nat.le_total N l.length with h | h
  ·rw [Nat.min_eq_left h]
  ·rw [Nat.min_eq_right h,List.drop_eq_nil_of_le h,List.drop_eq_nil_of_le (Nat.le_refl _)]
 rw [hNl] at hK hst
 rw [hdl] at hK
 have hok':JQ l (min N l.length)=true:=by
  simp only [JQ,Bool.and_eq_true] at hok ⊢
  refine⟨hok.1,hok.2.1,hok.2.2.1,?_⟩
  refine List.all_eq_true.2 fun j hj=>?_
  have:=List.all_eq_true.1 hok.2.2.2 j hj
  simp only [List.mem_range] at hj
  simp only [Bool.or_eq_true,decide_eq_true_eq] at this ⊢
  rcases this with h | h
  ·exact .inl (by omega)
  ·exact .inr h
 simp only [JQ,Bool.and_eq_true] at hok'
 obtain⟨hed,hnd,hrd,htail⟩:=hok'
 refine TA.T (Ju (R:=fun _ sv' hc=>sv'=sv∧hc=S.h) hed hnd hrd htail (Nat.min_le_right _ _) sv (fun i o hi hiN=>?_) (fun L sv' hc ⟨e1,e2⟩ _=>by subst e1;subst e2;exact hK) fun _ _=>⟨rfl,rfl⟩)
 have h1:=hst i o (by rw [xJ hiN];exact hi)
 exact⟨h1.1,fun L sv' hc ⟨e1,e2⟩ _ _ _=>by subst e1;subst e2;exact .inl ⟨h1.2,rfl,rfl⟩⟩
theorem zS [Mixed P] (N:Nat) {id:Nat} {l:List Oper} {y:Code} {Q:Exit→St→Prop} (hok:JQ l N=true) (h:Run P G E r (xA l) true (l.take N) S (fun S1=>Run P G E r (xA l) false (l.drop N) S1 (fun S'=>T P G E r y S' Q))):
 T P G E r (.seq (.region id l.toArray true) y) S Q:=zh (Zu N hok h)
end
end Go.Sv
/- A drawn region with one effect that does not wait for all pure operations ahead of it in the text. -/
namespace Go.Sv
open Go Go.RowKit
section
variable {P:Program} {G:Imm} {E:Env} {r:Option Nat} {S:St}
theorem HoldsH.sub_ok {H H':HL} {o:Oper} {g:List (Nat×SV)} {s:SV} (hs:H'.Sublist H) (h:OpOK P G H' o g s):OpOK P G H o g s:=
 fun n r I W a next Q hm hh hr k=>h n r I W a next Q hm (hh.less hs) hr k
def Wg (d:Option Nat) (s:SV) (g:List (Nat×SV)):List (Nat×SV):=match d with
 | some t=>(t,s)::g
 | none=>g
inductive RunE (P:Program) (G:Imm) (gd:Nat→Option Nat) (n:Nat) (h Hc:HL) (early:Nat→Bool):Nat→List Oper→List (Nat×SV)→(List (Nat×SV)→Prop)→Prop
 | nil {k:Nat} {g:List (Nat×SV)} {K:List (Nat×SV)→Prop} (hK:K g):RunE P G gd n h Hc early k [] g K
 | early {k:Nat} {o:Oper} {ops:List Oper} {g:List (Nat×SV)} {s:SV} {K:List (Nat×SV)→Prop} (ho:OpOK P G h o g s) (hg:zH gd g o true) (hd:dstOk o n=true) (he:early k=true) (hr:RunE P G gd n h Hc early (k+1) ops (Wg o.dst s g) K):RunE P G gd n h Hc early k (o::ops) g K
 | late {k:Nat} {o:Oper} {ops:List Oper} {g:List (Nat×SV)} {s:SV} {K:List (Nat×SV)→Prop} (ho:OpOK P G Hc o g s) (hg:zH gd g o true) (hd:dstOk o n=true) (hr:RunE P G gd n h Hc early (k+1) ops (Wg o.dst s g) K):RunE P G gd n h Hc early k (o::ops) g K
 | skip {k:Nat} {o:Oper} {ops:List Oper} {g:List (Nat×SV)} {K:List (Nat×SV)→Prop} (hg:zH gd g o false) (hd:dstOk o n=true) (hr:RunE P G gd n h Hc early (k+1) ops (Wg o.dst (eqS undef) g) K):RunE P G gd n h Hc early k (o::ops) g K
theorem wY (o:Oper) (l:List Oper) (sv:Nat→SV) (g:List (Nat×SV)) (k:Nat):xT (o::l) sv g (k+1)=xT l (fun i=>sv (i+1)) (Wg o.dst (sv 0) g) k:=by
 cases h:o.dst <;> simp [xT,Wg,h]
theorem ZY {gd:Nat→Option Nat} {n:Nat} {h Hc:HL} {early:Nat→Bool} {k:Nat} {l:List Oper} {g:List (Nat×SV)} {K:List (Nat×SV)→Prop} (hr:RunE P G gd n h Hc early k l g K):
    ∃sv:Nat→SV,K (xT l sv g l.length)∧∀ i o,l[i]? =some o→(∀t,o.dst=some t→t<n) ∧
      ((((OpOK P G h o (xT l sv g i) (sv i)∧early (k+i)=true)∨OpOK P G Hc o (xT l sv g i) (sv i))∧zH gd (xT l sv g i) o true)∨(zH gd (xT l sv g i) o false∧sv i=eqS undef)):=by
  have build:∀ {k:Nat} {o:Oper} {ops:List Oper} {g:List (Nat×SV)} {s:SV} {K:List (Nat×SV)→Prop},dstOk o n=true →
      ((((OpOK P G h o g s∧early k=true)∨OpOK P G Hc o g s)∧zH gd g o true)∨(zH gd g o false∧s=eqS undef)) →
      (∃sv:Nat→SV,K (xT ops sv (Wg o.dst s g) ops.length)∧∀ i p,ops[i]? =some p→(∀t,p.dst=some t→t<n) ∧
        ((((OpOK P G h p (xT ops sv (Wg o.dst s g) i) (sv i)∧early (k+1+i)=true)∨OpOK P G Hc p (xT ops sv (Wg o.dst s g) i) (sv i))∧zH gd (xT ops sv (Wg o.dst s g) i) p true)∨(zH gd (xT ops sv (Wg o.dst s g) i) p false∧sv i=eqS undef))) →
      ∃sv:Nat→SV,K (xT (o::ops) sv g (o::ops).length)∧∀ i p,(o::ops)[i]? =some p→(∀t,p.dst=some t→t<n) ∧
        ((((OpOK P G h p (xT (o::ops) sv g i) (sv i)∧early (k+i)=true)∨OpOK P G Hc p (xT (o::ops) sv g i) (sv i))∧zH gd (xT (o::ops) sv g i) p true)∨(zH gd (xT (o::ops) sv g i) p false∧sv i=eqS undef)):=by
    intro k o ops g s K hd h0 ⟨sv,h1,h2⟩
    refine⟨fun | 0=>s | i+1=>sv i,by rw [List.length_cons,wY];exact h1,fun i p hp=>?_⟩
    cases i with
    | zero=>cases hp;rw [vG];exact⟨vP hd,h0⟩
    | succ i=>
      have h3:=h2 i p (by simpa using hp)
      rw [wY,show k+(i+1)=k+1+i by omega]
      exact h3
  induction hr with
  | nil hK=>exact⟨fun _=>eqS undef,hK,fun i o hi=>by simp at hi⟩
  | early ho hg hd he _ ih=>exact build hd (.inl ⟨.inl ⟨ho,he⟩,hg⟩) ih
  | late ho hg hd _ ih=>exact build hd (.inl ⟨.inr ho,hg⟩) ih
  | skip hg hd _ ih=>exact build hd (.inr ⟨hg,rfl⟩) ih
def EffAt (P:Program) (G:Imm) (E:Env) (r:Option Nat) (gd:Nat→Option Nat) (o:Oper) (rest:List Oper) (Hc:HL) (S1:St) (K:St→Prop):Prop:=
 ∃j q Kl,S1.h[j]? =some q∧OpL P G o S1.g [q] Kl∧zH gd S1.g o true∧o.dst=none∧∀ s H',Kl s H'→Hc.Sublist (wh S1.h j H')∧Run P G E r gd false rest {S1 with h:=wh S1.h j H'} K
def WN (l:List Oper) (N:Nat):Bool:=ua l&&(vm l&&(ub l&&Zr l (N+1)))
def Xo (l:List Oper) (N k:Nat):Bool:=((zcD l).getD N 0).testBit k
theorem vp:∀ {l:List Oper} {k i:Nat} {sv:Nat→SV} {g:List (Nat×SV)},i≤k→xT (l.take k) sv g i=xT l sv g i
  | [],k,i,sv,g,_=>by simp
  | o::l,0,i,sv,g,h=>by
    have:i=0:=by omega
    subst this;rw [vG,vG]
  | o::l,k+1,0,sv,g,_=>by rw [vG,vG]
  | o::l,k+1,i+1,sv,g,h=>by
    rw [List.take_succ_cons,wY,wY]
    exact vp (by omega)
theorem Ub:∀ {l:List Oper} {i:Nat} {o:Oper} {sv:Nat→SV} {g:List (Nat×SV)},l[i]? =some o→o.dst=none→xT l sv g (i+1)=xT l sv g i
  | [],i,o,sv,g,h,_=>by simp at h
  | p::l,0,o,sv,g,h,hd=>by
    simp at h;subst h
    rw [wY,vG,vG,hd];rfl
  | p::l,i+1,o,sv,g,h,hd=>by
    rw [wY,wY]
    exact Ub (by simpa using h) hd
theorem RunE.mono {gd:Nat→Option Nat} {n:Nat} {h Hc:HL} {e e':Nat→Bool} {k:Nat} {l:List Oper} {g:List (Nat×SV)} {K K':List (Nat×SV)→Prop} (hr:RunE P G gd n h Hc e k l g K) (he:∀ k,e k=true→e' k=true) (hk:∀ g,K g→K' g):RunE P G gd n h Hc e' k l g K':=by
 induction hr with
 | nil h=>exact .nil (hk _ h)
 | early a b c d _ ih=>exact .early a b c (he _ d) (ih hk)
 | late a b c _ ih=>exact .late a b c (ih hk)
 | skip a b _ ih=>exact .skip a b (ih hk)
theorem uc:∀ {l:List Oper} {k:Nat} {sv sv':Nat→SV} {g:List (Nat×SV)},(∀j,j<k→sv j=sv' j)→xT l sv g k=xT l sv' g k
  | [],_,_,_,_,_=>by simp [xT]
  | _::_,0,_,_,_,_=>by rw [vG,vG]
  | o::l,k+1,sv,sv',g,h=>by
    rw [wY,wY,h 0 (by omega)]
    exact uc fun j hj=>h (j+1) (by omega)
theorem vQ:∀ {l:List Oper} {i:Nat} {o:Oper} {sv:Nat→SV} {g:List (Nat×SV)},l[i]? =some o→xT l sv g (i+1)=Wg o.dst (sv i) (xT l sv g i)
  | [],i,o,sv,g,h=>by simp at h
  | p::l,0,o,sv,g,h=>by
    simp at h;subst h
    rw [wY,vG,vG]
  | p::l,i+1,o,sv,g,h=>by
    rw [wY,wY]
    exact vQ (by simpa using h)
def EffAtD (P:Program) (G:Imm) (E:Env) (r:Option Nat) (gd:Nat→Option Nat) (o:Oper) (rest:List Oper) (Hc:HL) (S1:St) (K:St→Prop):Prop:=
 ∃pre Hp suf Kl,S1.h=pre++Hp++suf∧OpL P G o S1.g Hp Kl∧zH gd S1.g o true∧dstOk o S1.n=true∧∀ s H',Kl s H'→Hc.Sublist (pre++H'++suf)∧Run P G E r gd false rest {S1 with h:=pre++H'++suf,g:=Wg o.dst s S1.g} K
theorem zcK (N:Nat) (Hc:HL) {l:List Oper} {oN:Oper} {Q:Exit→St→Prop} {n:Nat} {g:List (Nat×SV)} {h:HL} {d:List Nat} {i:Nat×Bool} (hok:WN l N=true) (hoN:l[N]? =some oN) (hHc:Hc.Sublist h)
  (hr:RunE P G (xA l) n h Hc (Xo l N) 0 (l.take N) g (fun g'=>EffAtD P G E r (xA l) oN (l.drop (N+1)) Hc ⟨n,g',h,d,i⟩ (fun S'=>Q .normal S'))):TA P G E r l ⟨n,g,h,d,i⟩ Q:=by
 obtain⟨sv,⟨pre,Hp,suf,Kl,hq,heff,hgN,hdN,hK⟩,hst⟩:=ZY hr
 simp only [WN,Bool.and_eq_true] at hok
 obtain⟨hed,hnd,hrd,htail⟩:=hok
 simp only at hq heff hgN hK hdN
 have hN:=yt hoN
 have hlen:(l.take N).length=N:=by simp;omega
 have hlen1:(l.take (N+1)).length=N+1:=by simp;omega
 have e1:∀ sv' k,(∀j,j≠N→sv' j=sv j)→k≤N→xT (l.take (N+1)) sv' g k=xT (l.take N) sv g k:=fun sv' k hs hk=>by
  rw [vp hk,vp (by omega)];exact uc fun j hj=>hs j (by omega)
 rw [hlen] at heff hgN hK
 refine Ju (R:=fun L sv' hc=>(∀j,j≠N→sv' j=sv j)∧((¬L N∧hc=h)∨(L N∧∃ H',Kl (sv' N) H'∧hc=pre++H'++suf))) hed hnd hrd htail hN sv (fun k o hk hkN=>?_) (fun L sv' hc hR hall=>?_) fun L hL=>⟨fun _ _=>rfl,.inl ⟨hL N,rfl⟩⟩
 ·by_cases hkE:k=N
  ·subst hkE
   rw [hoN] at hk;cases hk
   refine⟨vP hdN,fun L sv' hc ⟨hsv,hph⟩ hn hpre hcl=>.inr ⟨?_,pre,Hp,suf,Kl,?_,?_,fun s H' hs=>⟨fun j hj=>by rw [xw hj];exact hsv j hj,.inr ⟨.inl rfl,H',by rw [uf];exact hs,rfl⟩⟩⟩⟩
   ·rw [e1 sv' k hsv (Nat.le_refl _)];exact hgN
   ·rcases hph with ⟨_,h2⟩ | ⟨h1,_⟩
    ·rw [h2,hq]
    ·exact absurd h1 hn
   ·rw [e1 sv' k hsv (Nat.le_refl _)];exact heff
  ·have h1:=hst k o (by rw [xJ (by omega)];exact hk)
   refine⟨h1.1,fun L sv' hc ⟨hsv,hph⟩ hn hpre hcl=>.inl ⟨?_,hsv,?_⟩⟩
   ·rw [e1 sv' k hsv (by omega),hsv k hkE]
    refine h1.2.imp (fun⟨h2,h3⟩=>⟨?_,h3⟩) id
    rcases h2 with ⟨h2,hea⟩ | h2
    ·rcases hph with ⟨_,h4⟩ | ⟨h4,_⟩
     ·rw [h4];exact h2
     ·rw [Nat.zero_add] at hea
      exact absurd ((masks_reach hea).listed (L:=L) hcl fun o' ho'=>by rw [hoN] at ho';cases ho';exact hcl N oN hoN h4) hn
    ·rcases hph with ⟨_,h4⟩ | ⟨_,H',hkl,h4⟩
     ·rw [h4];exact HoldsH.sub_ok hHc h2
     ·rw [h4];exact HoldsH.sub_ok (hK _ H' hkl).1 h2
   ·exact hph.imp (fun⟨h2,h3⟩=>⟨fun h=>h.elim (fun e=>hkE e.symm) h2,h3⟩) fun⟨h2,h3⟩=>⟨.inr h2,h3⟩
 ·obtain⟨hsv,⟨h1,_⟩ | ⟨_,H',hkl,rfl⟩⟩:=hR
  ·exact absurd (hall N (by omega)) h1
  ·have:=(hK _ H' hkl).2
   rw [hlen1,vQ (o:=oN) (by rw [xJ (by omega)];exact hoN),e1 sv' N hsv (Nat.le_refl _)]
   exact this
theorem EffAt.toD {gd:Nat→Option Nat} {o:Oper} {rest:List Oper} {Hc:HL} {K:St→Prop} (h:EffAt P G E r gd o rest Hc S K):EffAtD P G E r gd o rest Hc S K:=by
 obtain⟨j,q,Kl,hq,h1,hg,hd,hk⟩:=h
 exact⟨S.h.take j,[q],S.h.drop (j+1),Kl,uk hq,h1,hg,by unfold dstOk;rw [hd],fun s H' hs=>by have:=hk s H' hs;rw [vn hq] at this;rw [hd];exact this⟩
theorem zkf (N:Nat) (Hc:HL) {l:List Oper} {oN:Oper} {Q:Exit→St→Prop} {n:Nat} {g:List (Nat×SV)} {h:HL} {d:List Nat} {i:Nat×Bool} (hok:WN l N=true) (hoN:l[N]? =some oN) (hHc:Hc.Sublist h)
  (hr:RunE P G (xA l) n h Hc (Xo l N) 0 (l.take N) g (fun g'=>EffAt P G E r (xA l) oN (l.drop (N+1)) Hc ⟨n,g',h,d,i⟩ (fun S'=>Q .normal S'))):TA P G E r l ⟨n,g,h,d,i⟩ Q:=
 zcK N Hc hok hoN hHc (hr.mono (fun _ h=>h) fun _ h=>h.toD)
theorem zbp [hmx:Mixed P] (N:Nat) (Hc:HL) {id:Nat} {l:List Oper} {oN:Oper} {Q:Exit→St→Prop} {n:Nat} {g:List (Nat×SV)} {h:HL} {d:List Nat} {i:Nat×Bool} (hok:WN l N=true) (hoN:l[N]? =some oN) (hHc:Hc.Sublist h)
 (hr:RunE P G (xA l) n h Hc (Xo l N) 0 (l.take N) g (fun g'=>EffAt P G E r (xA l) oN (l.drop (N+1)) Hc ⟨n,g',h,d,i⟩ (fun S'=>Q .normal S'))):T P G E r (.region id l.toArray true) ⟨n,g,h,d,i⟩ Q:=(zkf N Hc hok hoN hHc hr).T
theorem Uc [Mixed P] (N:Nat) (Hc:HL) {id:Nat} {l:List Oper} {oN:Oper} {y:Code} {Q:Exit→St→Prop} {n:Nat} {g:List (Nat×SV)} {h:HL} {d:List Nat} {i:Nat×Bool} (hok:WN l N=true) (hoN:l[N]? =some oN) (hHc:Hc.Sublist h)
 (hr:RunE P G (xA l) n h Hc (Xo l N) 0 (l.take N) g (fun g'=>EffAt P G E r (xA l) oN (l.drop (N+1)) Hc ⟨n,g',h,d,i⟩ (fun S'=>T P G E r y S' Q))):T P G E r (.seq (.region id l.toArray true) y) ⟨n,g,h,d,i⟩ Q:=zh (zbp N Hc hok hoN hHc hr)
section eff
variable {gd:Nat→Option Nat} {n:Nat} {g:List (Nat×SV)} {h Hc:HL} {d:List Nat} {i:Nat×Bool} {early:Nat→Bool} {o:Oper} {ops:List Oper} {K:St→Prop}
theorem RunE.one {k t:Nat} {s:SV} {K:List (Nat×SV)→Prop} (ho:OpOK P G h o g s) (hg:zH gd g o true) (ht:o.dst=some t) (hd:Nat.blt t n=true) (he:early k=true) (hr:RunE P G gd n h Hc early (k+1) ops ((t,s)::g) K):RunE P G gd n h Hc early k (o::ops) g K:=
 .early ho hg (by simp only [dstOk,ht];exact hd) he (by rw [ht];exact hr)
theorem RunE.lat {k t:Nat} {s:SV} {K:List (Nat×SV)→Prop} (ho:OpOK P G Hc o g s) (hg:zH gd g o true) (ht:o.dst=some t) (hd:Nat.blt t n=true) (hr:RunE P G gd n h Hc early (k+1) ops ((t,s)::g) K):RunE P G gd n h Hc early k (o::ops) g K:=
 .late ho hg (by simp only [dstOk,ht];exact hd) (by rw [ht];exact hr)
theorem EffAt.store (j:Nat) {t m:TypeId} [HasSize P t m] {x y:Operand} {b off e k:Nat} {cs ds:List SV} {s:SV} [FlatC s ds] (hop:o.op= .store t x y) (hx:xd g x=some (eqS (.pointer (some ⟨b,off,none⟩)))) (hy:xd g y=some s)
  (hH:h[j]? =some ⟨some b,e,cs,k⟩) (hm:ds.length=m) (hoff:Nat.ble (off+ds.length) cs.length=true) (hd:o.dst=none) (hg:zH gd g o true) (hc:Hc.Sublist (wh h j [⟨some b,e,xM cs off ds,k⟩]))
  (hr:Run P G E r gd false ops ⟨n,g,wh h j [⟨some b,e,xM cs off ds,k⟩],d,i⟩ K):EffAt P G E r gd o ops Hc ⟨n,g,h,d,i⟩ K:=
 ⟨j,_,_,hH,xI hop hx hy hm (Nat.le_of_ble_eq_true hoff),hg,hd,fun s' H' ⟨_,hH'⟩=>by subst hH';exact⟨hc,hr⟩⟩
end eff
end
end Go.Sv
/- A drawn region's operations in another order of the text. -/
namespace Go.Sv
open Go Go.RowKit
section
variable {P:Program} {G:Imm} {E:Env} {r:Option Nat} {S:St}
def ren (p:List Nat) (o:Oper):Oper:={o with after:=o.after.map fun e=>{e with on:=p.idxOf e.on},guard:=o.guard.map fun x=>(p.idxOf x.1,x.2)}
def xy (p:List Nat) (l:List Oper):List Oper:=p.map fun i=>ren p (l.getD i default)
def Qb (p:List Nat) (l:List Oper):Bool:=Nat.beq p.length l.length&&(p.all (fun i=>Nat.blt i l.length)&&(decide p.Nodup&&((List.range l.length).all (fun i=>p.contains i)&&l.all fun o=>o.after.toList.all (fun e=>Nat.blt e.on l.length)&&(match o.guard with | some (j,_)=>Nat.blt j l.length | none=>true))))
theorem zoN (p:List Nat) (o:Oper) (F:Fence) (n:Nat) (a:Act) (w:World) (K:Act→World→Prop) (Q:Exit→Act→World→Prop):(ren p o).wpIn F n P a w K Q↔o.wpIn F n P a w K Q:=by
 cases o;rfl
structure PermFacts (p:List Nat) (l:List Oper):Prop where
 len:p.length=l.length
 lt:∀ i∈p,i<l.length
 nd:p.Nodup
 all:∀ i,i<l.length→i∈p
 edge:∀ (i:Nat) (o:Oper),l[i]? =some o→∀ e∈o.after.toList,Edge.on e<l.length
 guard:∀ (i:Nat) (o:Oper) (j:Nat) (b:Bool),l[i]? =some o→o.guard=some (j,b)→j<l.length
theorem zcL {p:List Nat} {l:List Oper} (h:Qb p l=true):PermFacts p l:=by
 simp only [Qb,Bool.and_eq_true,List.all_eq_true,decide_eq_true_eq] at h
 obtain⟨h1,h2,h3,h4,h5⟩:=h
 refine⟨Nat.eq_of_beq_eq_true h1,fun i hi=>Nat.blt_eq▸h2 i hi,h3,fun i hi=>by simpa using h4 i (by simpa using hi),fun i o ho e he=>Nat.blt_eq▸(h5 o (List.mem_of_getElem? ho)).1 e he,fun i o j b ho hg=>?_⟩
 have:=(h5 o (List.mem_of_getElem? ho)).2
 rw [hg] at this
 exact Nat.blt_eq▸this
theorem Ud {p:List Nat} {l:List Oper} (_:PermFacts p l) {k i:Nat} {o:Oper} (hk:p[k]? =some i) (ho:l[i]? =some o):(xy p l)[k]? =some (ren p o):=by
 simp only [xy,List.getElem?_map,hk,Option.map_some,List.getD_eq_getElem?_getD,ho,Option.getD_some]
theorem WO {p:List Nat} {i:Nat} (h:i∈p):p[p.idxOf i]? =some i:=by
 rw [List.getElem?_eq_getElem (List.idxOf_lt_length_iff.2 h),List.getElem_idxOf]
theorem zmI {p:List Nat} (hn:p.Nodup) {k i:Nat} (h:p[k]? =some i):p.idxOf i=k:=by
 have hi:i∈p:=List.mem_of_getElem? h
 have h1:=WO hi
 exact (List.getElem?_inj (List.idxOf_lt_length_iff.2 hi) hn).1 (h1.trans h.symm)
theorem zeH {p:List Nat} {l:List Oper} (h:PermFacts p l) {F:Fence} {n:Nat} {Q:Exit→Act→World→Prop}:
    ∀(fuel:Nat) (L L':Array Bool) (a:Act) (w:World),L.size=l.length→L'.size=l.length→(∀k i,p[k]? =some i→(Ld L' k↔Ld L i))→wpAnyIn F n P .any (xy p l).toArray Q fuel L' a w→wpAnyIn F n P .any l.toArray Q fuel L a w:=by
  have hlen:(xy p l).length=l.length:=by simp [xy,h.len]
  have hready:∀ (L L':Array Bool),L.size=l.length→L'.size=l.length→(∀k i,p[k]? =some i→(Ld L' k↔Ld L i))→∀ k i,p[k]? =some i→i∈Region.ready .any l.toArray L→k∈Region.ready .any (xy p l).toArray L':=by
    intro L L' hL hL' hc k i hk hi
    obtain⟨o,ho,hn,hpre⟩:=(ve hL).1 hi
    refine (ve (by rw [hL',hlen])).2 ⟨ren p o,Ud h hk ho,fun hx=>hn ((hc k i hk).1 hx),fun e he hb=>?_⟩
    simp only [ren,Array.toList_map,List.mem_map] at he
    obtain⟨e0,he0,rfl⟩:=he
    have hm:=h.all _ (h.edge i o ho e0 he0)
    exact (hc _ _ (WO hm)).2 (hpre e0 he0 hb)
  have hready':∀ (L L':Array Bool),L.size=l.length→L'.size=l.length→(∀k i,p[k]? =some i→(Ld L' k↔Ld L i))→Region.ready .any l.toArray L=[]→Region.ready .any (xy p l).toArray L'=[]:=by
    intro L L' hL hL' hc he
    refine List.eq_nil_iff_forall_not_mem.2 fun k hk=>?_
    obtain⟨o',ho',hn,hpre⟩:=(ve (by rw [hL',hlen])).1 hk
    have hklt:k<p.length:=by have:=yt ho';rw [hlen,←h.len] at this;exact this
    have hki:=List.getElem?_eq_getElem hklt
    have hilt:=h.lt _ (List.getElem_mem hklt)
    have hio:=List.getElem?_eq_getElem hilt
    have:=Ud h hki hio
    rw [ho'] at this;cases this
    have:p[k]∈Region.ready .any l.toArray L:=(ve hL).2 ⟨_,hio,fun hx=>hn ((hc k _ hki).2 hx),fun e he hb=>by
      have hm:=h.all _ (h.edge _ _ hio e he)
      refine (hc _ _ (WO hm)).1 (hpre {e with on:=p.idxOf e.on} ?_ hb)
      simp only [ren,Array.toList_map,List.mem_map]
      exact⟨e,he,rfl⟩⟩
    rw [he] at this;cases this
  intro fuel
  induction fuel with
  | zero=>
    intro L L' a w hL hL' hc hw
    refine⟨List.eq_nil_iff_forall_not_mem.2 fun i hi=>?_,hw.2⟩
    obtain⟨o,ho,_⟩:=(ve hL).1 hi
    have:=hready L L' hL hL' hc _ i (WO (h.all i (yt ho))) hi
    rw [hw.1] at this;cases this
  | succ fuel ih=>
    intro L L' a w hL hL' hc hw
    refine⟨fun he=>hw.1 (hready' L L' hL hL' hc he),fun i hi=>?_⟩
    obtain⟨o,ho,hn,_⟩:=(ve hL).1 hi
    have hik:=WO (h.all i (yt ho))
    have h1:=hw.2 _ (hready L L' hL hL' hc _ i hik hi)
    have hkp:=Ud h hik ho
    simp only [wpOpIn,List.getElem?_toArray,ho,hkp] at h1 ⊢
    have hyield:∀ j,j<l.length→yielded (xy p l).toArray a.tmps (p.idxOf j)=yielded l.toArray a.tmps j:=by
      intro j hj
      have hjo:=List.getElem?_eq_getElem hj
      have:=Ud h (WO (h.all j hj)) hjo
      unfold yielded
      simp only [List.getElem?_toArray,this,hjo,Option.bind_some]
      rfl
    have hwant:Region.wanted (ren p o) (yielded (xy p l).toArray a.tmps)=Region.wanted o (yielded l.toArray a.tmps):=by
      unfold Region.wanted
      cases hg:o.guard with
      | none=>simp [ren,hg]
      | some x=>
        obtain⟨j,b⟩:=x
        simp only [ren,hg,Option.map_some]
        rw [hyield j (h.guard i o j b ho hg)]
    rw [hwant] at h1
    have hnext:∀ (a:Act) (w:World),wpAnyIn F n P .any (xy p l).toArray Q fuel (L'.setIfInBounds (p.idxOf i) true) a w→wpAnyIn F n P .any l.toArray Q fuel (L.setIfInBounds i true) a w:=by
      intro a w hx
      refine ih _ _ a w (by simpa using hL) (by simpa using hL') (fun k j hk=>?_) hx
      rw [uX (by rw [hL',←h.len];exact yt hik),uX (by rw [hL];exact yt ho),hc k j hk]
      refine or_congr ⟨fun e=>?_,fun e=>?_⟩ Iff.rfl
      · subst e;rw [hik] at hk;exact (Option.some.inj hk).symm
      · subst e;exact (zmI h.nd hk).symm
    split
    · rename_i hw1
      rw [if_pos hw1] at h1
      exact Oper.wpIn_mono hnext ((zoN p o F n a w _ Q).1 h1)
    · rename_i hw1
      rw [if_neg hw1] at h1
      refine⟨fun f hf=>h1.1 f ?_,hnext _ _ h1.2⟩
      cases o;exact hf
theorem zbq (p:List Nat) {l:List Oper} {Q:Exit→St→Prop} (hok:Qb p l=true) (h:TA P G E r (xy p l) S Q):TA P G E r l S Q:=by
 intro n I F a W hs
 have hf:=zcL hok
 have hlen:(xy p l).length=l.length:=by simp [xy,hf.len]
 have h1:=h n I F a W hs
 rw [hlen] at h1
 refine zeH hf l.length _ (Array.replicate l.length false) a _ (by simp) (by simp) (fun k i _=>?_) h1
 have hL:∀ m j,¬Ld (Array.replicate m false) j:=fun m j=>by
  unfold Ld;simp only [Array.getD_eq_getD_getElem?,Array.getElem?_replicate];split <;> simp
 exact⟨fun h=>absurd h (hL _ _),fun h=>absurd h (hL _ _)⟩
end
end Go.Sv
/- A drawn region with one effect that yields a value and does not wait for all pure operations ahead of it; append of so many noughts; calls that are handed several owned blocks; slices of owned rows. -/
namespace Go.Sv
open Go Go.RowKit
section
variable {P:Program} {G:Imm} {E:Env} {r:Option Nat} {S:St}
theorem zhS [Mixed P] (p:List Nat) (N:Nat) (Hc:HL) {id:Nat} {l:List Oper} {oN:Oper} {y:Code} {Q:Exit→St→Prop} {n:Nat} {g:List (Nat×SV)} {h:HL} {d:List Nat} {i:Nat×Bool} (hp:Qb p l=true) (hok:WN (xy p l) N=true) (hoN:(xy p l)[N]? =some oN) (hHc:Hc.Sublist h)
  (hr:RunE P G (xA (xy p l)) n h Hc (Xo (xy p l) N) 0 ((xy p l).take N) g (fun g'=>EffAtD P G E r (xA (xy p l)) oN ((xy p l).drop (N+1)) Hc ⟨n,g',h,d,i⟩ (fun S'=>T P G E r y S' Q))):T P G E r (.seq (.region id l.toArray true) y) ⟨n,g,h,d,i⟩ Q:=
 zh (zbq p hp (zcK N Hc hok hoN hHc hr)).T
end
section
variable {P:Program} {G:Imm} {E:Env} {r:Option Nat} {S:St} {gd:Nat→Option Nat} {p:Bool} {o:Oper} {ops:List Oper} {K:St→Prop}
theorem Vu (zs:List Value) (n:Nat):(Builtin.zeroCells zs.toArray n).toList=yB zs (n*zs.length):=by
 have:Builtin.zeroCells zs.toArray n=madeCells zs.toArray (n*zs.length):=by simp [Builtin.zeroCells,madeCells]
 rw [this,uR]
theorem Wh {t tn ty e st bytes:Nat} {kq kn:IntKind} {zs:List Value} [IsSl P t e st] [hti:IsInt P tn kn] [he:IsElem P e zs bytes] {W:World} {b cp n m:Nat} {xs:List Value} (hown:W.ownsRow 0 e st (.slice (some ⟨b,0,none⟩) n cp) n xs)
  (h63:n+m≤maxLen) (hbytes:(n+m)*bytes≤140737488355328):
  ∃v' W',(Builtin.append_ #[t,tn] ty #[.slice (some ⟨b,0,none⟩) n cp,.int kq m]).run P W= .ok v' W'∧W'.ownsRow 0 e st v' (n+m) (xs++yB zs (m*st))∧W.grownBy W' (some b)∧(v'.ownBlock=some b∨v'.ownBlock=some W.heap.size):=by
 obtain⟨i,hi,his⟩:=IsSl.i (P:=P) (t:=t) (e:=e) (st:=st)
 obtain⟨i',z,hi',hz1,hz2,hz3,hz4⟩:=he.i
 rw [hi] at hi';cases hi'
 have hu:=IsSl.u (P:=P) (t:=t) (e:=e) (st:=st)
 have htn:=hti.h
 have hst:0<st:=by rw [←his,hz3];exact List.length_pos_iff.2 he.pos
 have hzl:zs.length=st:=by omega
 have hsmall:n+m≤9223372036854775807:=by simp only [maxLen] at h63;omega
 have hnl:(yB zs (m*st)).length=m*st:=vo _ _
 have hlen:(xs++yB zs (m*st)).length=(n+m)*st:=by rw [List.length_append,hown.1,hnl,Nat.add_mul]
 have hzc:∀ k,Builtin.zeroCells z.cells k=(yB zs (k*st)).toArray:=fun k=>by apply Array.ext';rw [hz2,Vu,hzl]
 have hone:∀ u∈yB zs (m*st),u.oneCell'=true:=zeroRow_one (allOne_of he.one) _ (.inr he.pos)
 have hw:IntKind.i64.wrap (m:Int)=m:=by rw [IntKind.wrap_i64];omega
 have hneg:¬ ((m:Int)<0):=by omega
 have h48i:¬ (281474976710656<(m:Int)*(i.bytes:Int)):=by
  have:m*bytes≤(n+m)*bytes:=Nat.mul_le_mul_right _ (by omega)
  rw [hz4,←Int.natCast_mul];omega
 rcases hown.2 with ⟨h,_⟩ | ⟨g,cap,cur,h,hbg,hg,hnc,hcm,hcs,htake⟩
 ·cases h
 cases h
 by_cases hroom:n+m≤cp
 ·have hfit:n*st+(yB zs (m*st)).length≤cur.size:=by rw [hnl,hcs,←Nat.add_mul];exact Nat.mul_le_mul_right _ hroom
  have hstc:=run_storeCells_at P b (n*st) e (yB zs (m*st)) 0 cur W hg (by simpa using hfit) hone
  simp only [Nat.add_zero] at hstc
  have hrun:(Builtin.append_ #[t,tn] ty #[.slice (some ⟨b,0,none⟩) n cp,.int kq m]).run P W= .ok (.slice (some ⟨b,0,none⟩) (n+m) cp) (W.setRow b (cur.toList.take (n*st)++yB zs (m*st)++cur.toList.drop (n*st+(yB zs (m*st)).length)).toArray):=by
   by_cases h0:m=0
   ·subst h0
    have h00:yB zs (0*st)=[]:=List.eq_nil_of_length_eq_zero (by rw [vo,Nat.zero_mul])
    rw [h00] at hstc ⊢
    have hw0:IntKind.i64.wrap 0=0:=by decide
    have hroom':n≤cp:=hroom
    simp [Builtin.append_,run_underlying hu,run_underlying htn,sizeOf,typeInfo,hi,asInt,asIntOf,hw0,hroom',his,Addr.add_lit,hstc]
   ·have hst0:st≠0:=by omega
    simp [Builtin.append_,run_underlying hu,run_underlying htn,sizeOf,typeInfo,zeroValue,hi,hz1,asInt,asIntOf,hw,hneg,h48i,hroom,Addr.add_lit,hzc,his,hstc]
    intro hx;exact absurd hx (Nat.mul_ne_zero h0 hst0)
  refine⟨_,_,hrun,⟨hlen,.inr ⟨b,cp,_,rfl,hbg,setRow_heap W b cur _ e _ hg,hroom,hcm,?_,?_⟩⟩,⟨rfl,rfl,rfl,by simp,fun k _ hk=>setRow_other W b k _ (fun e=>hk (by simp [e]))⟩,.inl rfl⟩
  ·simp only [List.size_toArray,List.length_append,List.length_take,List.length_drop,Array.length_toList]
   omega
  ·rw [htake,←hlen]
   exact List.take_left
 ·have hold:(Builtin.firstCells i.size n (.slice (some ⟨b,0,none⟩) n cp)).run P W.drew= .ok xs.toArray W.drew:=
   run_firstCells_some (P:=P) W.drew i.size n ⟨b,0,none⟩ n cp xs (by rw [his];exact hown.1) (by simpa using hown.cells (g:=b) rfl)
  have hr:=Lib.run_append_grow_zeros (P:=P) W t tn ty e i z kq kn hu htn hi hz1 (some ⟨b,0,none⟩) n cp xs hold m (by omega) (by omega) (by omega) (by omega) (by
   have:m*bytes≤(n+m)*bytes:=Nat.mul_le_mul_right _ (by omega)
   rw [hz4];omega) (by rw [hz4];exact growslice_fits (by omega) hbytes)
  have hge:=grownCap_ge W (n+m) cp e
  have hcm':grownCap W (n+m) cp e≤maxLen:=grownCap_le_maxLen W (n+m) cp e h63
  refine⟨_,_,hr,⟨hlen,.inr ⟨W.heap.size,_,_,rfl,Nat.zero_le _,heap_alloc_new W.drew _,hge,hcm',?_,?_⟩⟩,⟨rfl,rfl,rfl,by simp,fun k hk _=>xB W.drew _ hk⟩,.inr rfl⟩
  ·simp only [Array.size_append,List.size_toArray,size_zeroCells,hown.1,hz2,hzl,←Nat.add_mul]
   congr 1
   omega
  ·rw [hzc m]
   simp only [Array.toList_append,List.append_assoc]
   rw [←List.append_assoc,←hlen]
   exact List.take_left
theorem JZ {t tn e st bytes:Nat} {kn:IntKind} {zs:List Value} [IsSl P t e st] [IsInt P tn kn] [he:IsElem P e zs bytes] {x y:Operand} {k:IntKind} {b cp n m:Nat} {cs:List SV} {g:List (Nat×SV)}
  (hop:o.op= .call {callee:=.builtin .append,args:= #[x,y],argTypes:= #[t,tn]}) (hx:xd g x=some (eqS (rowV (some (b,cp)) n))) (hy:xd g y=some (intS k m)) (hq:yu (some (b,cp)) n) (hl:cs.length=n*st) (hb:(n+m)*bytes≤yP) (hm:n+m≤yP):
  OpL P G o g [rowE (some (b,cp)) e st n cs] (fun s H'=>∃ q',yu (some q') (n+m)∧s=eqS (rowV (some q') (n+m))∧H'=[rowE (some q') e st (n+m) (cs++(yB zs (m*st)).map eqS)]):=by
 intro nn r I W a next Q hm' hh hr kk
 have hvx:a.eval x=rowV (some (b,cp)) n:=hr.get (by simp [hop,Op.operands,Call.operands]) hx
 have hvy:a.eval y= .int k m:=hr.get (by simp [hop,Op.operands,Call.operands]) hy
 obtain⟨xs,hown,hd,h1⟩:=Vs hq hl hh
 have hIb:I b=none:=(hh.lt (b:=b) (by simp [bs,rowE])).2
 obtain⟨v',W',e1,e2,e3,e4⟩:=Wh (P:=P) (t:=t) (tn:=tn) (ty:=o.type) (kq:=k) (zs:=zs) (m:=m) hown (by unfold maxLen;unfold yP at hm;omega) (by simpa [yP] using hb)
 have hI':∀ c,v'.ownBlock=some c→I c=none:=by
  intro c hc
  rcases e4 with h | h
  ·rw [h] at hc;cases hc;exact hIb
  ·rw [h] at hc;cases hc;exact hm'.none_new
 obtain⟨q',hq',rfl,hh',hqb⟩:=Vt e2 (hd.append (ZV (I:=I) (yB zs (m*st)))) (by intro u hu;rcases List.mem_append.1 hu with h | h;exact h1 u h;exact zeroRow_one (allOne_of he.one) _ (.inr he.pos) u h) hI'
 cases q' with
 | none=>rcases e4 with h | h <;> simp [rowV,Value.ownBlock] at h
 | some q'=>
 have hm2:Holds G I W':=⟨hm'.glob,fun c d hc=>by
  obtain⟨ee,fr,hw⟩:=hm'.mem c d hc
  exact⟨ee,fr,(e3.block c (yp hw) fun h=>by cases h;rw [hc] at hIb;cases hIb).trans hw⟩⟩
 have hrun2:(execOp a.eval o).run P W= .ok (.value (rowV (some q') (n+m))) W':=by
  simp only [execOp,hop,resolve,Sem.run_bind,Sem.run_pure,Result.andThen_ok,invoke,builtin]
  have:Array.map a.eval #[x,y]= #[rowV (some (b,cp)) n,.int k m]:=by simp [hvx,hvy]
  rw [this];show ((Builtin.append_ #[t,tn] o.type #[.slice (some ⟨b,0,none⟩) n cp,.int k m]).run P W).andThen _=_
  rw [e1];rfl
 refine xG (by simp [hop]) hrun2 ?_
 refine kk _ I W' _ _ ⟨q',hq',rfl,rfl⟩ ?_ hm2 hh' rfl
 refine⟨e3.os,e3.tape,e3.output,Imm.le_refl _,e3.size,fun c hc hn=>e3.block c hc fun h=>hn (by cases h;simp [bs,rowE]),fun b h h'=>absurd h h',fun c hc=>?_⟩
 have hc':c=q'.1:=by simpa [bs,rowE] using hc
 subst hc'
 rcases e4 with h | h
 ·have h0:q'.1=b:=by simpa [rowV,Value.ownBlock] using h
  rw [h0];exact .inl (by simp [bs,rowE])
 ·have h0:q'.1=W.heap.size:=by simpa [rowV,Value.ownBlock] using h
  rw [h0];exact .inr (Nat.le_refl _)
theorem EffAtD.appendZeros (j:Nat) {n0 d0:Nat} {g:List (Nat×SV)} {h Hc:HL} {d:List Nat} {i:Nat×Bool} {t tn e st bytes:Nat} {kn:IntKind} {zs:List Value} [IsSl P t e st] [IsInt P tn kn] [IsElem P e zs bytes] {x y:Operand} {k:IntKind} {b cp n m:Nat} {cs:List SV}
  (hop:o.op= .call {callee:=.builtin .append,args:= #[x,y],argTypes:= #[t,tn]}) (hx:xd g x=some (eqS (rowV (some (b,cp)) n))) (hy:xd g y=some (intS k m)) (hH:h[j]? =some (rowE (some (b,cp)) e st n cs)) (ht:o.dst=some d0) (hd:Nat.blt d0 n0=true) (hg:zH gd g o true)
  (hq:yu (some (b,cp)) n) (hl:cs.length=n*st) (hb:(n+m)*bytes≤yP) (hm:n+m≤yP)
  (hr:∀ q',yu (some q') (n+m)→Hc.Sublist (wh h j [rowE (some q') e st (n+m) (cs++(yB zs (m*st)).map eqS)])∧Run P G E r gd false ops ⟨n0,(d0,eqS (rowV (some q') (n+m)))::g,wh h j [rowE (some q') e st (n+m) (cs++(yB zs (m*st)).map eqS)],d,i⟩ K):EffAtD P G E r gd o ops Hc ⟨n0,g,h,d,i⟩ K:=
 ⟨h.take j,[_],h.drop (j+1),_,uk hH,JZ hop hx hy hq hl hb hm,hg,by simp only [dstOk,ht];exact hd,fun s H' ⟨q',e0,e1,e2⟩=>by subst e1;subst e2;rw [ht];have:=hr q' e0;rw [vn hH] at this;exact this⟩
theorem zcM {H:HL} {g:List (Nat×SV)} {t e:Nat} [IsSl P t e 1] {x:Operand} {low high:Option Operand} {b cp n lo hi:Nat} {y z:Operand} {k k':IntKind} (hop:o.op= .slice t x low high none) (hx:xd g x=some (eqS (rowV (some (b,cp)) n))) (hq:yu (some (b,cp)) n)
  (hlow:low=some y) (hy:xd g y=some (intS k lo)) (hhigh:high=some z) (hz:xd g z=some (intS k' hi)) (h1:lo<hi) (h2:hi≤n):OpOK P G H o g (eqS (.slice (some ⟨b,lo,none⟩) (hi-lo) (cp-lo))):=by
 subst hlow;subst hhigh
 refine yC (by simp [hop]) fun I W a hm hh hr=>?_
 have hvx:a.eval x=rowV (some (b,cp)) n:=hr.get (by simp [hop,Op.operands]) hx
 have hvy:a.eval y= .int k lo:=hr.get (by simp [hop,Op.operands]) hy
 have hvz:a.eval z= .int k' hi:=hr.get (by simp [hop,Op.operands]) hz
 have hcp:n≤cp:=hq.1
 have hbd:=uu (P:=P) (W:=W) (len:=n) (cap:=cp) (lo:=lo) (hi:=hi) (m:=cp) (low:=some (.int k lo)) (high:=some (.int k' hi)) (mx:=none) (.inr ⟨k,rfl⟩) (.inr ⟨k',rfl⟩) (.inl ⟨rfl,rfl⟩) (by omega) (by omega) (Nat.le_refl _)
 obtain⟨i,hi',his⟩:=IsSl.i (P:=P) (t:=t) (e:=e) (st:=1)
 have hu:=IsSl.u (P:=P) (t:=t) (e:=e) (st:=1)
 refine⟨_,?_,rfl⟩
 simp [execOp,hop,hvx,hvy,hvz,rowV,Instr.sliceAt,Instr.slice,run_underlying hu,hbd,sizeOf,typeInfo,hi',his,show ¬cp=lo by omega,Addr.add_lit]
theorem Run.callH (pre Hp suf:HL) {n0 d0:Nat} {g:List (Nat×SV)} {h:HL} {d:List Nat} {i:Nat×Bool} {xs:Array Operand} {ts:Array TypeId} {f:FuncId} {args:List SV} {Q:SV→HL→Prop} (hp:p=false) (hop:o.op= .call {callee:=.value (.func f),args:=xs,argTypes:=ts})
  (ha:uJ g xs.toList=some args) (hH:h=pre++Hp++suf) (hs:CallSpec P G f args Hp Q) (hg:zH gd g o true) (ht:o.dst=some d0) (hd:Nat.blt d0 n0=true)
  (hr:∀ s H',Q s H'→Run P G E r gd p ops ⟨n0,(d0,s)::g,pre++H'++suf,d,i⟩ K):Run P G E r gd p (o::ops) ⟨n0,g,h,d,i⟩ K:=by
 refine Run.loc (S:=⟨n0,g,h,d,i⟩) (pre:=pre) (Hp:=Hp) (suf:=suf) hp hH (Xk hop ha hs) hg (by simp only [dstOk,ht];exact hd) fun s H' hq=>?_
 rw [ht];exact hr s H' hq
end
section
variable {P:Program} {G:Imm} {E:Env} {r:Option Nat} {S:St}
theorem zhT {h:HL} {i:Nat} {q q':HE} (hC:h[i]? =some q):∃ pre post,h=pre++q::post∧wh h i [q']=pre++q'::post:=
 ⟨h.take i,h.drop (i+1),by have:=uk hC;simpa using this,by rw [vn hC];simp⟩
theorem Sat.entry {n:Nat} {g:List (Nat×SV)} {h:HL} {d:List Nat} {ix:Nat×Bool} {j b e k:Nat} {cs cs':List SV} {I:Imm} {F:Nat→Prop} {a:Act} {W:World} (hs:Sat G E r ⟨n,g,h,d,ix⟩ I F a W) (hC:h[j]? =some ⟨some b,e,cs,k⟩) (hlen:cs'.length=cs.length) (hd:∀ xs,dens I cs xs→dens I cs' xs):
  Sat G E r ⟨n,g,wh h j [⟨some b,e,cs',k⟩],d,ix⟩ I F a W∧own ⟨n,g,wh h j [⟨some b,e,cs',k⟩],d,ix⟩ F=own ⟨n,g,h,d,ix⟩ F:=by
 obtain⟨pre,post,rfl,h2⟩:=zhT (q':=⟨some b,e,cs',k⟩) hC
 rw [h2]
 have hb:bs (pre++⟨some b,e,cs',k⟩::post)=bs (pre++⟨some b,e,cs,k⟩::post):=by simp [bs,List.filterMap_append]
 have ho:own ⟨n,g,pre++⟨some b,e,cs',k⟩::post,d,ix⟩ F=own ⟨n,g,pre++⟨some b,e,cs,k⟩::post,d,ix⟩ F:=by funext c;simp only [own];rw [hb]
 refine⟨{hs with
  h:=⟨by rw [hb];exact hs.h.nodup,fun p hp=>?_⟩
  f:=fun c hc=>⟨(hs.f c hc).1,(hs.f c hc).2.1,fun x=>(hs.f c hc).2.2.1 (hb▸x),(hs.f c hc).2.2.2⟩
  l:=fun j hj=>⟨(hs.l j hj).1,fun x=>(hs.l j hj).2 (ho▸x)⟩},ho⟩
 rcases List.mem_append.1 hp with h1 | h1
 ·exact hs.h.mem p (List.mem_append.2 (.inl h1))
 ·rcases List.mem_cons.1 h1 with h1 | h1
  ·subst h1
   obtain⟨g1,c,g2,g3,g4,g5⟩:=(hs.h.mem ⟨some b,e,cs,k⟩ (by simp)).some rfl
   simp only at g3 g4 g5
   exact .of_some rfl ⟨g1,c,g2,by simp only;omega,by simp only;rw [hlen];exact g4,by simp only;rw [hlen];exact hd _ g5⟩
  ·exact hs.h.mem p (by simp [h1])
theorem zhU {I:Imm} {cs:List SV} {xs:List Value} {off:Nat} {s s':SV} (h:dens I cs xs) (ho:cs[off]? =some s) (hs:∀ v,s.den I v→s'.den I v):dens I (cs.set off s') xs:=by
 refine⟨by rw [List.length_set];exact h.1,fun i t x hi hx=>?_⟩
 by_cases e:off=i
 ·subst e
  have hlt:off<cs.length:=yt ho
  rw [List.getElem?_set_self hlt] at hi;cases hi
  exact hs x (h.2 off s x ho hx)
 ·rw [List.getElem?_set_ne e] at hi
  exact h.2 i t x hi hx
theorem zhV {I:Imm} {b m cap st:Nat} {α:Type} {f:α→List SV} {l:List α} (hc:cellsAt I b 0 (l.flatMap f)) (hq:yu (some (b,cap)) m) (hl:l.length=m) (hf:∀ x∈l,(f x).length=st) (hb:m≤yP):(zU st f l).den I (rowV (some (b,cap)) m):=by
 obtain⟨c,hc1,hc2⟩:=hc
 refine⟨some ⟨b,0,none⟩,cap,by rw [hl];rfl,by rw [hl];exact hq.1,by rw [hl];exact hb,.inr ⟨b,0,rfl,fun i x hx=>⟨c,hc1,fun k s hk=>?_⟩⟩⟩
 have:(l.flatMap f)[i*st+k]? =some s:=by
  rw [List.flatMap_def]
  exact uB (by intro d hd;obtain⟨y,hy,rfl⟩:=List.mem_map.1 hd;exact hf y hy) (by rw [List.getElem?_map,hx];rfl) hk
 have:=hc2 _ s this
 simpa [Nat.add_assoc] using this
theorem zcN (j i off:Nat) {n:Nat} {g:List (Nat×SV)} {h:HL} {d:List Nat} {ix:Nat×Bool} {b cap e st m b0 e0 k0:Nat} {cs cs0:List SV} {α:Type} {f:α→List SV} {l:List α} (hH:h[j]? =some (rowE (some (b,cap)) e st m cs)) (hC:(wh h j [])[i]? =some ⟨some b0,e0,cs0,k0⟩) (ho:cs0[off]? =some (eqS (rowV (some (b,cap)) m))) (hq:yu (some (b,cap)) m) (hl:l.length=m) (hcs:cs=l.flatMap f) (hf:∀ x∈l,(f x).length=st) (hb:m≤yP):
  ZT G E r ⟨n,g,h,d,ix⟩ ⟨n,g,wh (wh h j []) i [⟨some b0,e0,cs0.set off (zU st f l),k0⟩],d,ix⟩:=by
 intro I F a W hs
 subst hcs
 obtain⟨I',s1,s2,hle,hc⟩:=ZL (j:=j) (b:=b) (e:=e) (k:=cap*st-m*st) (cs:=l.flatMap f) hH hs
 have ee:h.take j++h.drop (j+1)=wh h j []:=by rw [vn hH];simp
 simp only [ee] at s1 s2
 obtain⟨s3,o3⟩:=s1.entry hC (cs':=cs0.set off (zU st f l)) (by rw [List.length_set]) fun xs hx=>zhU hx ho fun v hv=>by
  have hv2:v=rowV (some (b,cap)) m:=hv
  exact hv2▸zhV hc hq hl hf hb
 exact⟨I',s3,by rw [o3];exact s2⟩
end
end Go.Sv
