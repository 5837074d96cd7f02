/- The rule of a range over a function. -/
import Derived.Test.YthhamejdmpjjlaaGreatDoorSvi
import Derived.Laws.Externs
namespace Go.Sv
open Go Go.RowKit
section
variable {P:Program} {G:Imm} {E:Env} {r:Option Nat} {S:St} {Q:Exit→St→Prop}
theorem wx {I:Imm} {W:World} (hm:Holds G I W) {b:Nat} {o:Obj} (h:W.heap[b]? =some o) (ho:∀ c e f,o≠ .cells c e f):I b=none:=by
 cases hI:I b with
 | none=>rfl
 | some c=>obtain⟨e,f,hc⟩:=hm.mem b c hI;rw [hc] at h;cases h;exact absurd rfl (ho _ _ _)
theorem VA {H:HL} {I:Imm} {W:World} (hh:HoldsH H I W) {b:Nat} {o:Obj} (h:W.heap[b]? =some o) (ho:∀ c e f,o≠ .cells c e f):b∉bs H:=by
 intro hb
 obtain⟨p,hp,he⟩:=UV hb
 obtain⟨_,c,hc,_⟩:=(hh.mem p hp).some he
 rw [hc] at h;cases h;exact ho _ _ _ rfl
theorem Sat.putLoop {l:Nat} {I:Imm} {F:Nat→Prop} {a:Act} {W:World} (hs:Sat G E (some l) S I F a W) (rec:Loop):Sat G E (some l) S I F a (W.putObj l (.loop rec)):=by
 obtain⟨⟨rec0,h0⟩,ho⟩:=hs.l l rfl
 have hI:I l=none:=wx hs.m h0 (by intros;simp)
 have other:∀ k,k≠l→(W.putObj l (.loop rec)).heap[k]? =W.heap[k]? :=fun k hk=>World.putObj_heap_other hk
 obtain⟨hm,hf⟩:=uO (W':=W.putObj l (.loop rec)) hs.m hI rfl rfl rfl (by simp) other
 have hFl:∀ b,F b→b≠l:=fun b hb e=>ho (.inr (.inr (by rw [←e];exact hb)))
 refine⟨hs.n,hs.g,hm,hs.h.keep hf fun b hb e=>ho (.inl (by rw [←e];exact hb)),hs.d,hs.dn,fun b hb=>?_,?_,fun b hb=>?_,fun k hk=>?_⟩
 ·exact (other b fun e=>ho (.inr (.inl (by rw [←e];exact hb)))).trans (hs.dk b hb)
 ·exact E.stab _ _ _ _ _ _ hs.e (Imm.le_refl _) rfl rfl rfl (by simp) (fun b hb=>other b (hFl b hb)) fun b hb=>(hs.f b hb).2.1
 ·have:=hs.f b hb;exact⟨by simpa using this.1,this.2⟩
 ·cases hk;exact⟨⟨rec,World.putObj_heap_same (yp h0)⟩,ho⟩
def ZX:List Nat→List SV→List (Nat×SV)
 | p::ps,s::ss=>(p,s)::ZX ps ss
 | _,_=>[]
theorem JW {g:List (Nat×SV)} {t:Nat} {s:SV}:∀ {ps:List Nat} {ss:List SV},ss.length=ps.length→look t (ZX ps ss++g)=some s→(∃j:Nat,ps[j]? =some t∧ss[j]? =some s)∨(t∉ps∧look t g=some s)
  | [],[],_,h=>.inr ⟨by simp,by simpa [ZX] using h⟩
  | [],_::_,hl,_=>by simp at hl
  | _::_,[],hl,_=>by simp at hl
  | p::ps,s0::ss,hl,h=>by
    simp only [ZX,List.cons_append,look] at h
    split at h
    · rename_i e;cases h;exact .inl ⟨0,by rw [Nat.eq_of_beq_eq_true e];rfl,rfl⟩
    · rename_i e
      rcases JW (by simpa using hl) h with ⟨j,h1,h2⟩ | ⟨h1,h2⟩
      · exact .inl ⟨j+1,by simpa using h1,by simpa using h2⟩
      · exact .inr ⟨fun hm=>(List.mem_cons.1 hm).elim (fun e'=>by subst e';simp at e) h1,h2⟩
abbrev YE (ps:List Nat) (vs:List Value) (tmps:Array Value):Array Value:=(ps.zip vs).foldl (fun t x=>t.setIfInBounds x.1 x.2) tmps
theorem Xm {t:Nat}:∀ {ps:List Nat} {vs:List Value} {tmps:Array Value},t∉ps→(YE ps vs tmps).getD t undef=tmps.getD t undef
  | [],_,_,_=>by simp [YE]
  | _::_,[],_,_=>by simp [YE]
  | p::ps,v::vs,tmps,h=>by
    have hne:p≠t:=fun e=>h (by simp [e])
    simp only [YE,List.zip_cons_cons,List.foldl_cons]
    have:=Xm (ps:=ps) (vs:=vs) (tmps:=tmps.setIfInBounds p v) (t:=t) fun hm=>h (List.mem_cons_of_mem _ hm)
    simp only [YE] at this
    rw [this]
    simp [Array.getD_eq_getD_getElem?,Array.getElem?_setIfInBounds_ne hne]
theorem zai {t:Nat} {x:Value}:∀ {ps:List Nat} {vs:List Value} {tmps:Array Value} {j:Nat},ps.Nodup→ps[j]? =some t→vs[j]? =some x→t<tmps.size→(YE ps vs tmps).getD t undef=x
  | [],_,_,_,_,h,_,_=>by simp at h
  | _::_,[],_,_,_,_,h,_=>by simp at h
  | p::ps,v::vs,tmps,j,hnd,hp,hv,hlt=>by
    have hnd':=List.nodup_cons.1 hnd
    simp only [YE,List.zip_cons_cons,List.foldl_cons]
    cases j with
    | zero=>
      simp at hp hv;subst hp;subst hv
      have:=Xm (ps:=ps) (vs:=vs) (tmps:=tmps.setIfInBounds p v) hnd'.1
      simp only [YE] at this
      rw [this]
      simp [Array.getD_eq_getD_getElem?,hlt]
    | succ j=>
      have:=zai (ps:=ps) (vs:=vs) (tmps:=tmps.setIfInBounds p v) (j:=j) hnd'.2 (by simpa using hp) (by simpa using hv) (by simpa using hlt)
      simpa only [YE] using this
theorem zeC {I:Imm} {ps:List Nat} {ss:List SV} {vs:List Value} {tmps:Array Value} {g:List (Nat×SV)} (hd:dens I ss vs) (hl:ss.length=ps.length) (hnd:ps.Nodup) (hp:∀ p∈ps,p<tmps.size) (hg:∀ t s,look t g=some s→s.den I (tmps.getD t undef)) (t:Nat) (s:SV)
  (h:look t (ZX ps ss++g)=some s):s.den I ((YE ps vs tmps).getD t undef):=by
 rcases JW hl h with ⟨j,h1,h2⟩ | ⟨h1,h2⟩
 ·obtain⟨x,hx,hs⟩:=hd.get h2
  rw [zai hnd h1 hx (hp t (List.mem_of_getElem? h1))];exact hs
 ·rw [Xm h1];exact hg t s h2
def VB:Exit→Option Code
 | .ret=>some .ret
 | .exit id=>some (.exit id)
 | _=>none
def zp0 (E:Env) (r:Option Nat) (ro:Loop) (d:List Nat) (I0:Imm) (l:Nat) (rec:LoopState→Option Code→Loop) (Inv:Nat→HL→Nat×Bool→Prop) (InvX:Exit→HL→Nat×Bool→Prop) (i:Nat×Bool) (I:Imm) (F:Nat→Prop) (W:World):Prop:=
  ∃h ie Fc,(∀b,F b↔b∈bs h∨b∈d∨b=l∨Fc b∨r=some b)∧I0.le I∧HoldsH h I W∧E.ok ie I Fc W∧(∀b,Fc b→b<W.heap.size∧I b=none∧b∉bs h∧b∉d∧b≠l∧r≠some b) ∧
    (∀b∈d,W.heap[b]? =some (.deferred (some [])))∧(∀k,r=some k→k≠l∧W.heap[k]? =some (.loop ro)) ∧
    ((i.2=false∧W.heap[l]? =some (.loop (rec .ready none))∧Inv i.1 h ie)∨(i.2=true∧∃ e c,VB e=some c∧W.heap[l]? =some (.loop (rec .done (some c)))∧InvX e h ie))
def zka (E:Env) (r:Option Nat) (ro:Loop) (d:List Nat) (I0:Imm) (l:Nat) (rec:LoopState→Option Code→Loop) (Inv:Nat→HL→Nat×Bool→Prop) (InvX:Exit→HL→Nat×Bool→Prop):Env where
 ok:=zp0 E r ro d I0 l rec Inv InvX
 stab:=by
  rintro i I F W I' W' ⟨h,ie,Fc,hF,h0,hh,he,hc,hd,hk,hl⟩ hle hos ht ho hs hw hn
  have fb:∀ b∈bs h,F b:=fun b hb=>(hF b).2 (.inl hb)
  have fd:∀ b∈d,F b:=fun b hb=>(hF b).2 (.inr (.inl hb))
  have fl:F l:=(hF l).2 (.inr (.inr (.inl rfl)))
  have fc:∀ b,Fc b→F b:=fun b hb=>(hF b).2 (.inr (.inr (.inr (.inl hb))))
  refine⟨h,ie,Fc,hF,Imm.le_trans h0 hle,⟨hh.nodup,fun p hp=>?_⟩,?_,fun b hb=>⟨Nat.lt_of_lt_of_le (hc b hb).1 hs,hn b (fc b hb),(hc b hb).2.2⟩,fun b hb=>(hw b (fd b hb)).trans (hd b hb),fun k hk'=>?_,?_⟩
  ·cases hb:p.b with
   | none=>exact .of_none hb ((hh.mem p hp).none hb)
   | some b=>exact .of_some hb (((hh.mem p hp).some hb).keep hle (hn b (fb b (JP hp hb))) (hw b (fb b (JP hp hb))))
  ·exact E.stab _ _ _ _ _ _ he hle hos ht ho hs (fun b hb=>hw b (fc b hb)) fun b hb=>hn b (fc b hb)
  ·obtain⟨h1,h2⟩:=hk k hk'
   exact⟨h1,(hw k ((hF k).2 (.inr (.inr (.inr (.inr hk')))))).trans h2⟩
  ·rcases hl with ⟨a1,a2,a3⟩ | ⟨a1,e,c,a2,a3,a4⟩
   ·exact .inl ⟨a1,(hw l fl).trans a2,a3⟩
   ·exact .inr ⟨a1,e,c,a2,(hw l fl).trans a3,a4⟩
def UZ (Inv:Nat→HL→Nat×Bool→Prop) (InvX:Exit→HL→Nat×Bool→Prop) (k:Nat):Exit→St→Prop
 | .normal,S=>Inv (k+1) S.h S.i
 | .ret,S=>InvX .ret S.h S.i
 | .exit id,S=>InvX (.exit id) S.h S.i
 | _,_=>False
theorem JX {O O':Nat→Prop} {I I':Imm} {W W':World} (f:Fram O I W O' I' W') (X:Nat→Prop):Fram (fun b=>O b∨X b) I W (fun b=>O' b∨X b) I' W':=
 f.weaken (fun _ h=>.inl h) fun _ hb=>hb.elim .inl fun h=>.inr (.inr h)
theorem zkb {n0:Nat} {g:List (Nat×SV)} {d:List Nat} {I0:Imm} {l:Nat} {fnid:FuncId} {ps:Array Tmp} {assign body:Code} {tmps:Array Value} {db:Nat} {ro:Loop} {xs:List (List SV)} {Inv:Nat→HL→Nat×Bool→Prop} {InvX:Exit→HL→Nat×Bool→Prop}
    (hps:∀ ss∈xs,ss.length=ps.size) (hnd:ps.toList.Nodup) (hpn:∀ p∈ps.toList,p<n0) (hsz:tmps.size=n0) (hg:∀ t s,look t g=some s→s.den I0 (tmps.getD t undef))
    (hbody:∀ (k:Nat) (ss:List SV) (h:HL) (i:Nat×Bool),xs[k]? =some ss→Inv k h i→T P G E (some l) assign ⟨n0,ZX ps.toList ss++g,h,[],i⟩ (fun e S'=>e= .normal∧T P G E (some l) body S' (UZ Inv InvX k))):
    Zz P G (zka E r ro d I0 l (fun st pe=>{state:=st,pending:=pe,fn:=fnid,tmps:=tmps,params:=ps,assign:=assign,body:=body,defers:=db}) Inv InvX) l xs:=by
  intro k ss hk n I F W vs hok hap hm hd
  obtain⟨h,ie,Fc,hF,h0,hh,he,hc,hdd,hkk,hl⟩:=hok
  obtain⟨_,hl1,hInv⟩:(k,false).2=false∧_∧_:=by
    rcases hl with h | ⟨h,_⟩
    · exact h
    · cases h
  have hlen:vs.toArray.size=ps.size:=by have:=hd.1;have:=hps ss (List.mem_of_getElem? hk);simp;omega
  refine⟨fnid,_,assign,body,run_yield hl1 hlen,roundIn_of_wpIn trivial ?_⟩
  have hlI:I l=none:=wx hm hl1 (by intros;simp)
  have hlb:l∉bs h:=VA hh hl1 (by intros;simp)
  -- the state of the round
  have hfold:((ps.zip vs.toArray).foldl (fun (t:Array Value) (x:Tmp×Value)=>t.setIfInBounds x.1 x.2) tmps)=((ps.toList.zip vs).foldl (fun (t:Array Value) (x:Tmp×Value)=>t.setIfInBounds x.1 x.2) tmps):=by
    rw [←Array.foldl_toList];simp
  have hfs:∀ (z:List (Tmp×Value)) (t:Array Value),(z.foldl (fun (t:Array Value) (x:Tmp×Value)=>t.setIfInBounds x.1 x.2) t).size=t.size:=by
    intro z
    induction z with
    | nil=>intro t;rfl
    | cons x z ih=>intro t;simp only [List.foldl_cons];rw [ih];simp
  have hs:Sat G E (some l) ⟨n0,ZX ps.toList ss++g,h,[],ie⟩ I Fc {tmps:=((ps.zip vs.toArray).foldl (fun (t:Array Value) (x:Tmp×Value)=>t.setIfInBounds x.1 x.2) tmps),defers:=[]} W:=by
    refine⟨?_,fun t s ht=>?_,hm,hh,rfl,List.nodup_nil,fun b hb=>(by cases hb),he,fun b hb=>⟨(hc b hb).1,(hc b hb).2.1,(hc b hb).2.2.1,by simp⟩,fun j hj=>?_⟩
    · simp only [hfold,hfs,hsz]
    · rw [hfold]
      exact zeC hd (by rw [hps ss (List.mem_of_getElem? hk)];simp) hnd (fun p hp=>by rw [hsz];exact hpn p hp) (fun t s ht=>s.mono _ _ _ h0 (hg t s ht)) t s ht
    · cases hj
      refine⟨⟨_,hl1⟩,fun ho=>?_⟩
      rcases ho with ho | ho | ho
      · exact hlb ho
      · cases ho
      · exact (hc l ho).2.2.2.2.1 rfl
  have hown0:∀ b,own ⟨n0,ZX ps.toList ss++g,h,[],ie⟩ Fc b↔b∈bs h∨Fc b:=by intro b;simp [own]
  refine wpIn_mono (hbody k ss h ie hk hInv n I Fc _ W hs) fun e a₁ W₁ hp=>?_
  obtain⟨S₁,I₁,F₁,s1,⟨rfl,hT⟩,f1⟩:=hp
  have hl2:W₁.heap[l]? =some (.loop {state:=.ready,pending:=none,fn:=fnid,tmps:=tmps,params:=ps,assign:=assign,body:=body,defers:=db}):=
    (f1.old l (yp hl1) fun ho=>by rcases (hown0 l).1 ho with h' | h';exact hlb h';exact (hc l h').2.2.2.2.1 rfl).trans hl1
  refine⟨_,run_beginRound hl2 rfl,?_⟩
  have s2:=s1.putLoop {state:=.busy,pending:=none,fn:=fnid,tmps:=tmps,params:=ps,assign:=assign,body:=body,defers:=db}
  have hl1I:I₁ l=none:=wx s1.m hl2 (by intros;simp)
  have f2:Fram (fun b=>own S₁ F₁ b∨b=l) I₁ W₁ (fun b=>own S₁ F₁ b∨b=l) I₁ (W₁.putObj l (.loop {state:=.busy,pending:=none,fn:=fnid,tmps:=tmps,params:=ps,assign:=assign,body:=body,defers:=db})):=
    (uO (W':=W₁.putObj l (.loop {state:=.busy,pending:=none,fn:=fnid,tmps:=tmps,params:=ps,assign:=assign,body:=body,defers:=db})) s1.m hl1I rfl rfl rfl (by simp) (fun k hk=>World.putObj_heap_other hk)).2.weaken (fun b hb=>.inr hb) fun b hb=>.inr hb
  refine wpIn_mono (hT n I₁ F₁ a₁ _ s2) fun e a₂ W₂ hp=>?_
  obtain⟨S₂,I₂,F₂,s3,hq,f3⟩:=hp
  have hl3:∃ rc,W₂.heap[l]? =some (.loop rc)∧rc={state:=.busy,pending:=none,fn:=fnid,tmps:=tmps,params:=ps,assign:=assign,body:=body,defers:=db}:=by
    refine⟨_,?_,rfl⟩
    refine (f3.old l ?_ (s2.l l rfl).2).trans (World.putObj_heap_same (yp hl2))
    simp;exact yp hl2
  obtain⟨rc,hl3,hrc⟩:=hl3
  have hl2I:I₂ l=none:=wx s3.m hl3 (by intros;simp)
  have ftot:Fram (fun b=>own ⟨n0,ZX ps.toList ss++g,h,[],ie⟩ Fc b∨b=l) I W (fun b=>own S₂ F₂ b∨b=l) I₂ W₂:=((JX f1 (· =l)).trans f2).trans (JX f3 (· =l))
  -- the round's end
  have fin:∀ (jump:Option Code) (rc':Loop) (b:Bool),(Instr.endRound l jump).run P W₂= .ok (.bool b) (W₂.putObj l (.loop rc')) →
      ((b=true∧rc'={state:=.ready,pending:=none,fn:=fnid,tmps:=tmps,params:=ps,assign:=assign,body:=body,defers:=db}∧Inv (k+1) S₂.h S₂.i) ∨
       (b=false∧∃ e c,VB e=some c∧rc'={state:=.done,pending:=some c,fn:=fnid,tmps:=tmps,params:=ps,assign:=assign,body:=body,defers:=db}∧InvX e S₂.h S₂.i)) →
      ∃v w',(Instr.endRound l jump).run P W₂= .ok v w'∧∃ b I' F',Ending.returned v= .returned (.bool b)∧zp0 E r ro d I0 l (fun st pe=>{state:=st,pending:=pe,fn:=fnid,tmps:=tmps,params:=ps,assign:=assign,body:=body,defers:=db}) Inv InvX (k+1,!b) I' F' w'∧XS F' I' w'∧Holds G I' w'∧Fram F I W F' I' w':=by
    intro jump rc' b hrun hcase
    have s4:=s3.putLoop rc'
    have f4:Fram (fun b=>own S₂ F₂ b∨b=l) I₂ W₂ (fun b=>own S₂ F₂ b∨b=l) I₂ (W₂.putObj l (.loop rc')):=
      (uO (W':=W₂.putObj l (.loop rc')) s3.m hl2I rfl rfl rfl (by simp) (fun k hk=>World.putObj_heap_other hk)).2.weaken (fun b hb=>.inr hb) fun b hb=>.inr hb
    have fall:=ftot.trans f4
    have hout:∀ b o,W.heap[b]? =some o→(∀c e f,o≠ .cells c e f)→¬ Fc b→b≠l→(W₂.putObj l (.loop rc')).heap[b]? =some o∧¬ own S₂ F₂ b:=by
      intro b o hb ho hfc hbl
      have hno:¬ (own ⟨n0,ZX ps.toList ss++g,h,[],ie⟩ Fc b∨b=l):=by
        rintro (h' | h')
        · rcases (hown0 b).1 h' with h' | h'
          · exact VA hh hb ho h'
          · exact hfc h'
        · exact hbl h'
      refine⟨(fall.old b (yp hb) hno).trans hb,fun h'=>?_⟩
      rcases fall.own b (.inl h') with h' | h'
      · exact hno h'
      · have:=yp hb;omega
    have hdn:∀ b∈d,(W₂.putObj l (.loop rc')).heap[b]? =some (.deferred (some []))∧¬ own S₂ F₂ b:=fun b hb=>
      hout b _ (hdd b hb) (by intros;simp) (fun h'=>(hc b h').2.2.2.1 hb) fun e'=>by have h9:=hdd b hb;rw [e',hl1] at h9;cases h9
    have hrn:∀ j,r=some j→j≠l∧(W₂.putObj l (.loop rc')).heap[j]? =some (.loop ro)∧¬ own S₂ F₂ j:=fun j hj=>by
      obtain⟨h1,h2⟩:=hkk j hj
      have:=hout j _ h2 (by intros;simp) (fun h'=>(hc j h').2.2.2.2.2 hj) h1
      exact⟨h1,this.1,this.2⟩
    have hl4:(W₂.putObj l (.loop rc')).heap[l]? =some (.loop rc'):=World.putObj_heap_same (yp hl3)
    refine⟨_,_,hrun,b,I₂,fun c=>c∈bs S₂.h∨c∈d∨c=l∨F₂ c∨r=some c,rfl,⟨S₂.h,S₂.i,F₂,fun c=>Iff.rfl,Imm.le_trans h0 fall.imm,s4.h,s4.e,fun c hc'=>?_,fun c hc'=>(hdn c hc').1,fun j hj=>⟨(hrn j hj).1,(hrn j hj).2.1⟩,?_⟩,?_,s4.m,?_⟩
    · obtain⟨g1,g2,g3,_⟩:=s4.f c hc'
      exact⟨g1,g2,g3,fun h'=>(hdn c h').2 (.inr (.inr hc')),fun h'=>(s4.l l rfl).2 (.inr (.inr (by rw [←h'];exact hc'))),fun h'=>(hrn c h').2.2 (.inr (.inr hc'))⟩
    · rcases hcase with ⟨rfl,rfl,hi⟩ | ⟨rfl,e,c,he',rfl,hi⟩
      · exact .inl ⟨rfl,hl4,hi⟩
      · exact .inr ⟨rfl,e,c,he',hl4,hi⟩
    · intro c hc'
      rcases hc' with h' | h' | h' | h' | h'
      · exact s4.h.lt h'
      · have:=(hdn c h').1;exact⟨yp this,wx s4.m this (by intros;simp)⟩
      · subst h';exact⟨yp hl4,wx s4.m hl4 (by intros;simp)⟩
      · exact⟨(s4.f c h').1,(s4.f c h').2.1⟩
      · have h2:=(hrn c h').2.1;exact⟨yp h2,wx s4.m h2 (by intros;simp)⟩
    · refine fall.weaken (fun c hc'=>(hF c).2 ?_) fun c hc'=>?_
      · rcases hc' with h' | h'
        · rcases (hown0 c).1 h' with h' | h'
          · exact .inl h'
          · exact .inr (.inr (.inr (.inl h')))
        · exact .inr (.inr (.inl h'))
      · rcases hc' with h' | h' | h' | h' | h'
        · exact .inl (.inl (.inl h'))
        · exact .inr ((hF c).2 (.inr (.inl h')))
        · exact .inl (.inr h')
        · exact .inl (.inl (.inr (.inr h')))
        · exact .inr ((hF c).2 (.inr (.inr (.inr (.inr h')))))
  have hend:=fun jump=>run_endRound (P:=P) (w:=W₂) jump hl3
  subst hrc
  cases e with
  | normal=>exact fin none _ true (by simpa using hend none) (.inl ⟨rfl,rfl,hq⟩)
  | ret=>exact fin (some .ret) _ false (by simpa using hend (some .ret)) (.inr ⟨rfl,.ret,.ret,rfl,rfl,hq⟩)
  | exit id=>exact fin (some (.exit id)) _ false (by simpa using hend (some (.exit id))) (.inr ⟨rfl,.exit id,.exit id,rfl,rfl,hq⟩)
  | _=>exact hq.elim
theorem zeD {I:Imm} {F:Nat→Prop} {a:Act} {W:World} (hs:Sat G E r S I F a W) (fnid:FuncId) (ps:Array Tmp) (assign body:Code):
    ∃(l:Nat) (D:List Nat) (W1:World) (db:Nat),(Instr.enterLoop fnid a.tmps ps assign body r).run P W= .ok (l,D.map zj0) W1∧W1.heap[l]? =some (.loop {state:=.ready,pending:=none,fn:=fnid,tmps:=a.tmps,params:=ps,assign:=assign,body:=body,defers:=db}) ∧
      W.heap.size≤l∧(∀b∈D,W.heap.size≤b∧W1.heap[b]? =some (.deferred (some [])))∧D.Nodup∧W1.os=W.os∧W1.tape=W.tape∧W1.output=W.output∧W.heap.size≤W1.heap.size∧∀ b,b<W.heap.size→W1.heap[b]? =W.heap[b]? :=by
  cases hr:r with
  | none=>
    refine⟨W.heap.size+1,[W.heap.size],_,W.heap.size,run_enterLoop_outer fnid a.tmps ps assign body,?_,by omega,?_,by simp,rfl,rfl,rfl,by simp;omega,fun b hb=>?_⟩
    · have:=World.alloc_heap_new (W.alloc (.deferred (some []))) (.loop {state:=.ready,pending:=none,fn:=fnid,tmps:=a.tmps,params:=ps,assign:=assign,body:=body,defers:=W.heap.size})
      rwa [World.size_alloc] at this
    · intro b hb
      simp at hb;subst hb
      exact⟨Nat.le_refl _,(xB _ _ (by simp)).trans (alloc_heap_at _ _)⟩
    · rw [xB _ _ (by simp;omega),xB _ _ hb]
  | some l0=>
    obtain⟨⟨rec,h0⟩,_⟩:=hs.l l0 hr
    refine⟨W.heap.size,[],W.alloc (.loop {state:=.ready,pending:=none,fn:=fnid,tmps:=a.tmps,params:=ps,assign:=assign,body:=body,defers:=rec.defers}),rec.defers,?_,alloc_heap_at _ _,Nat.le_refl _,by simp,by simp,rfl,rfl,rfl,by simp,fun b hb=>xB _ _ hb⟩
    unfold Instr.enterLoop
    simp only [Sem.run_bind,run_getLoop h0,run_newObj_alloc,Result.andThen,Sem.run_pure,List.map_nil]
end
end Go.Sv
/- More rules: a truth value split where it comes up, branches that are known, calls that own what they are handed. -/
namespace Go.Sv
open Go Go.RowKit
section
variable {P:Program} {G:Imm} {E:Env} {r:Option Nat} {gd:Nat→Option Nat} {p:Bool} {o:Oper} {ops:List Oper} {K:St→Prop} {S:St} {Q:Exit→St→Prop}
theorem Run.oneB {n t:Nat} {g:List (Nat×SV)} {h:HL} {d:List Nat} {i:Nat×Bool} {b:Bool} (ho:OpOK P G h o g (zm b)) (hg:zH gd g o true) (ht:o.dst=some t) (hd:Nat.blt t n=true)
  (h1:b=true→Run P G E r gd p ops ⟨n,(t,zm true)::g,h,d,i⟩ K) (h2:b=false→Run P G E r gd p ops ⟨n,(t,zm false)::g,h,d,i⟩ K):Run P G E r gd p (o::ops) ⟨n,g,h,d,i⟩ K:=by
 cases b with
 | true=>exact Run.one ho hg ht hd (h1 rfl)
 | false=>exact Run.one ho hg ht hd (h2 rfl)
theorem xt {c:Operand} {t:Nat} {x y:Code} (hc:c= .tmp t) (hg:look t S.g=some (zm true)) (h:T P G E r x S Q):T P G E r (.cond c x y) S Q:=zbi hc hg (fun _=>h) (fun h=>absurd h (by decide))
theorem yM {c:Operand} {t:Nat} {x y:Code} (hc:c= .tmp t) (hg:look t S.g=some (zm false)) (h:T P G E r y S Q):T P G E r (.cond c x y) S Q:=zbi hc hg (fun h=>absurd h (by decide)) (fun _=>h)
theorem xS {x y:Code} {K:St→Prop} (h:T P G E r x S (VX K Q)) (k:∀ S',K S'→T P G E r y S' Q):T P G E r (.seq x y) S Q:=
 zh (XW h fun e S' hq=>by cases e <;> first | exact k S' hq | exact hq)
/-! nil told from a slice -/
def zkc (q:Prop):SV:=⟨fun _ v=>∃ b,v= .bool b∧(b=true→q),fun _ _ _ _ h=>h⟩
theorem YF {H:HL} {g:List (Nat×SV)} {t u e st:TypeId} [IsSl P t e st] {x y:Operand} {α:Type} {n:Nat} {f:α→List SV} {l:List α} (hop:o.op= .binOp .eql t x y u) (hx:xd g x=some (zU n f l)) (hy:xd g y=some (eqS (.slice none 0 0))):OpOK P G H o g (zkc (l=[])):=
 yC (by simp [hop]) fun I W a _ _ hr=>by
  obtain⟨ad,cap,h1,_,_,h4⟩:=hr.get (by simp [hop,Op.operands]) hx
  have h2:a.eval y= .slice none 0 0:=hr.get (by simp [hop,Op.operands]) hy
  refine⟨.bool ad.isNone,?_,_,rfl,fun hb=>?_⟩
  ·have e:=run_equal_slice_nil (w:=W) t _ ad l.length cap (IsSl.u (P:=P) (t:=t))
   have e2:(binOp .eql t (.slice ad l.length cap) (.slice none 0 0)).run P W= .ok (.bool ad.isNone) W:=by
    show ((do pure (.bool (←Op.equal t (.slice ad l.length cap) (.slice none 0 0)))):Sem Value).run P W=_
    simp [e]
   simp [execOp,hop,h1,h2,eqGuard,e2]
  ·rcases h4 with h | ⟨b,o,ha,_⟩
   ·exact h
   ·rw [ha] at hb;cases hb
theorem Qa {c:Operand} {t:Nat} {x y:Code} {q:Prop} (hc:c= .tmp t) (hg:look t S.g=some (zkc q)) (h1:q→T P G E r x S Q) (h2:T P G E r y S Q):T P G E r (.cond c x y) S Q:=by
 intro n I F a W hs
 subst hc
 obtain⟨b,hb,hq⟩:=hs.g t _ hg
 exact wpIn_cond_split (t:=b) hb (fun h=>h1 (hq h) n I F a W hs) (fun _=>h2 n I F a W hs)
/-! a slice laid as a row of one's own -/
theorem JY {g:List (Nat×SV)} {t e st n:Nat} {zs:List Value} [IsSl P t e st] [hz:IsZero P e zs] {parts:Array (Nat×Operand)} {ps:List (Nat×SV)} {qs:List (Nat×List SV)} (hop:o.op= .buildSlice t n parts) (hp:YD g parts.toList=some ps) [hf:FlatL ps qs]
  (hn:n*st≤16777216) (hq:qs.length=n) (hne:n=0∨zs≠[]) (hl:Wc st (qs.map (·.2))=true)
  (hc:Vr ((List.range n).map fun i=>(i*st,st)) ((yB zs (n*st)).map eqS) qs=some (qs.map (·.2)).flatten):
  OpL P G o g [] (fun s H'=>∃ b,yu (some (b,n)) n∧s=eqS (rowV (some (b,n)) n)∧H'=[rowE (some (b,n)) e st n (qs.map (·.2)).flatten]):=by
 intro nn r I W a next Q hm _ hr kk
 have hst:st=zs.length:=by
  obtain⟨j,hj,hs⟩:=IsSl.i (P:=P) (t:=t) (e:=e) (st:=st)
  obtain⟨i,z,hi,_,_,hz3⟩:=hz.i
  rw [hj] at hi;cases hi;omega
 have h1:xF (yB zs (n*st)):=zeroRow_one hz.one _ (hne.imp (fun h=>by simp [h]) id)
 obtain⟨c',hc',hd,h1'⟩:=Xj (a:=a) (I:=I) (c:=(yB zs (n*st)).toArray) hp hf (Wb (by simp [hop,Op.operands]) hr) hc (by simpa using ZV (yB zs (n*st))) (by simpa using h1)
 have hlen:(qs.map (·.2)).length=n:=by simpa using hq
 have hfl:(qs.map (·.2)).flatten.length=n*st:=by
  have:∀ {l:List (List SV)},(∀c∈l,c.length=st)→l.flatten.length=l.length*st:=by
   intro l;induction l with
   | nil=>intro _;simp
   | cons x l ih=>intro h;simp only [List.flatten_cons,List.length_append,List.length_cons];rw [ih (fun c hc=>h c (by simp [hc])),h x (by simp),Nat.add_mul];omega
  rw [this (Wd hl),hlen]
 have hrun:(execOp a.eval o).run P W= .ok (.value (.slice (some ⟨W.heap.size,0,none⟩) n n)) (W.alloc (.cells c' e)):=by
  have:=We (P:=P) (t:=t) (e:=e) (st:=st) (n:=n) (W:=W) (parts:=(parts.map fun (i,x)=>(i,a.eval x))) (c':=c') hn (by rw [Array.toList_map];exact hc')
  simp only [execOp,hop,Sem.run_bind,this,Result.andThen_ok,Sem.run_pure]
 obtain⟨hm2,hfr⟩:=uW hm (.cells c' e) (fun b=>b∈bs [])
 have hnb:n≤maxLen:=by
  rcases Nat.eq_zero_or_pos st with h0 | h0
  ·rcases hne with h2 | h2
   ·omega
   ·exact absurd (List.eq_nil_of_length_eq_zero (by omega)) h2
  ·have:=Nat.le_mul_of_pos_right n h0;unfold maxLen;omega
 refine xG (by simp [hop]) hrun ?_
 refine kk _ I _ _ _ ⟨W.heap.size,⟨Nat.le_refl _,hnb⟩,rfl,rfl⟩ ?_ hm2 ?_ rfl
 ·refine hfr.weaken (fun _ h=>h) fun b hb=>.inl (.inr ?_)
  simp [bs,rowE] at hb;exact hb
 ·refine⟨by simp [bs,rowE],fun p hp=>?_⟩
  simp at hp;subst hp
  have hsz:c'.toList.length=n*st:=by rw [hd.1,hfl]
  have htk:c'.toList.take (qs.map (·.2)).flatten.length=c'.toList:=by rw [hfl,←hsz];exact List.take_length
  refine .of_some rfl ⟨hm.none_new,_,alloc_heap_at _ _,?_,?_,?_⟩
  ·simp only [rowE,Nat.sub_self,Nat.add_zero];rw [hfl,←hsz];simp
  ·simp only [rowE];rw [htk];exact h1'
  ·simp only [rowE];rw [htk];exact hd
theorem Run.buildRow {n0 d0:Nat} {g:List (Nat×SV)} {h:HL} {d:List Nat} {i:Nat×Bool} {t e st n:Nat} {zs:List Value} [IsSl P t e st] [IsZero P e zs] {parts:Array (Nat×Operand)} {ps:List (Nat×SV)} {qs:List (Nat×List SV)} (hp:p=false) (hop:o.op= .buildSlice t n parts) (hps:YD g parts.toList=some ps) [FlatL ps qs] (hg:zH gd g o true) (ht:o.dst=some d0) (hd:Nat.blt d0 n0=true)
  (hn:n*st≤16777216) (hq:qs.length=n) (hne:n=0∨zs≠[]) (hl:Wc st (qs.map (·.2))=true)
  (hc:Vr ((List.range n).map fun i=>(i*st,st)) ((yB zs (n*st)).map eqS) qs=some (qs.map (·.2)).flatten)
  (hr:∀ b,yu (some (b,n)) n→Run P G E r gd p ops ⟨n0,(d0,eqS (rowV (some (b,n)) n))::g,rowE (some (b,n)) e st n (qs.map (·.2)).flatten::h,d,i⟩ K):Run P G E r gd p (o::ops) ⟨n0,g,h,d,i⟩ K:=
 .loc0 hp (JY hop hps hn hq hne hl hc) hg ht hd fun s H' ⟨b,e0,e1,e2⟩=>by subst e1;subst e2;exact hr b e0
theorem yo {n:Nat} {g g':List (Nat×SV)} {h:HL} {d:List Nat} {i:Nat×Bool} (hg:subG g g'):Ent ⟨n,g,h,d,i⟩ ⟨n,g',h,d,i⟩:=⟨rfl,hg,xp _,rfl,rfl⟩
theorem xk {g g':List (Nat×SV)} {t:Nat} {s s':SV} (h:look t g=some s) (hs:s=s') (k:subG g g'):subG g ((t,s')::g'):=zb (hs▸h) k
theorem zY {n:Nat} {g:List (Nat×SV)} {h h':HL} {d:List Nat} {i:Nat×Bool} (hs:h'.Sublist h):ZT G E r ⟨n,g,h,d,i⟩ ⟨n,g,h',d,i⟩:=fun I F _ _ s=>
 have hb:∀ b,own ⟨n,g,h',d,i⟩ F b→own ⟨n,g,h,d,i⟩ F b:=fun _ hb=>hb.imp (fun x=>(Xl hs).subset x) id
 ⟨I,{s with
  h:=s.h.less hs
  f:=fun b hb=>⟨(s.f b hb).1,(s.f b hb).2.1,fun x=>(s.f b hb).2.2.1 ((Xl hs).subset x),(s.f b hb).2.2.2⟩
  l:=fun k hk=>⟨(s.l k hk).1,fun x=>(s.l k hk).2 (hb _ x)⟩},(Fram.refl _ _ _).weaken (fun _ h=>h) fun b h=>.inr (hb b h)⟩
theorem yX {c:Code} {α β:Type} (Inv:α→β→St) (p:α→β→Prop) (μ:α→β→Nat) (a0:α) (b0:β) (hp0:p a0 b0) (h0:Ent S (Inv a0 b0))
  (hr:∀ a b,p a b→T P G E r c (Inv a b) (VX (fun S'=>∃ a' b',p a' b'∧μ a' b'<μ a b∧Ent S' (Inv a' b')) Q)):T P G E r (.loop c) S Q:=
 yK (γ:=α×β) (fun g=>Inv g.1 g.2) (fun g=>p g.1 g.2) (fun g=>μ g.1 g.2) (a0,b0) hp0 h0 fun g hg=>XW (hr g.1 g.2 hg) fun e S' hq=>by
  cases e <;> first | exact hq | (obtain⟨a,b,h⟩:=hq;exact⟨(a,b),h⟩)
theorem Zh {c:Code} {α β γ:Type} (Inv:α→β→γ→St) (p:α→β→γ→Prop) (μ:α→β→γ→Nat) (a0:α) (b0:β) (c0:γ) (hp0:p a0 b0 c0) (h0:Ent S (Inv a0 b0 c0))
  (hr:∀ a b d,p a b d→T P G E r c (Inv a b d) (VX (fun S'=>∃ a' b' d',p a' b' d'∧μ a' b' d'<μ a b d∧Ent S' (Inv a' b' d')) Q)):T P G E r (.loop c) S Q:=
 yK (γ:=α×β×γ) (fun g=>Inv g.1 g.2.1 g.2.2) (fun g=>p g.1 g.2.1 g.2.2) (fun g=>μ g.1 g.2.1 g.2.2) (a0,b0,c0) hp0 h0 fun g hg=>XW (hr g.1 g.2.1 g.2.2 hg) fun e S' hq=>by
  cases e <;> first | exact hq | (obtain⟨a,b,d,h⟩:=hq;exact⟨(a,b,d),h⟩)
theorem ZA {c:Code} {α β γ δ:Type} (Inv:α→β→γ→δ→St) (p:α→β→γ→δ→Prop) (μ:α→β→γ→δ→Nat) (a0:α) (b0:β) (c0:γ) (d0:δ) (hp0:p a0 b0 c0 d0) (h0:Ent S (Inv a0 b0 c0 d0))
  (hr:∀ a b d e,p a b d e→T P G E r c (Inv a b d e) (VX (fun S'=>∃ a' b' d' e',p a' b' d' e'∧μ a' b' d' e'<μ a b d e∧Ent S' (Inv a' b' d' e')) Q)):T P G E r (.loop c) S Q:=
 yK (γ:=α×β×γ×δ) (fun g=>Inv g.1 g.2.1 g.2.2.1 g.2.2.2) (fun g=>p g.1 g.2.1 g.2.2.1 g.2.2.2) (fun g=>μ g.1 g.2.1 g.2.2.1 g.2.2.2) (a0,b0,c0,d0) hp0 h0 fun g hg=>XW (hr g.1 g.2.1 g.2.2.1 g.2.2.2 hg) fun e S' hq=>by
  cases e <;> first | exact hq | (obtain⟨a,b,d,e,h⟩:=hq;exact⟨(a,b,d,e),h⟩)
theorem zL {n:Nat} {g g':List (Nat×SV)} {h h':HL} {d:List Nat} {i:Nat×Bool} (hg:subG g g') (hh:h=h'):Ent ⟨n,g,h,d,i⟩ ⟨n,g',h',d,i⟩:=⟨rfl,hg,hh▸xp _,rfl,rfl⟩
theorem zD {k:IntKind} {m n:Int} (h:m=n) (I:Imm) (v:Value) (hv:(intS k m).den I v):(intS k n).den I v:=h▸hv
theorem yx {b c:Bool} (h:b=c) (I:Imm) (v:Value) (hv:(zm b).den I v):(zm c).den I v:=h▸hv
end
end Go.Sv
namespace Go.Sv
open Go Go.RowKit
class IsArr (P:Program) (t:TypeId) (n st:outParam Nat):Prop where
 h:∃ e,P.underlying t=some (.array n e)∧(P.info? e).map (·.size)=some st
class IsStr (P:Program) (t:TypeId):Prop where
 h:P.underlying t=some .string
section
variable {P:Program} {G:Imm} {E:Env} {r:Option Nat} {gd:Nat→Option Nat} {p:Bool} {o:Oper} {ops:List Oper} {K:St→Prop} {H:HL} {g:List (Nat×SV)} {S:St}
theorem Wf {t n st:Nat} [ha:IsArr P t n st] {x ix:Operand} {b q:Nat} {k:IntKind} {i:Nat} (hop:o.op= .indexAddr t x ix) (hx:xd g x=some (eqS (.pointer (some ⟨b,0,none⟩)))) (hi:xd g ix=some (intS k i)) (h1:i<n) (hq:i*st=q):
  OpOK P G H o g (eqS (.pointer (some ⟨b,q,none⟩))):=
 yC (by simp [hop]) fun I W a _ _ hr=>by
  have hv:a.eval x=_:=hr.get (by simp [hop,Op.operands]) hx
  have hvi:a.eval ix= .int k i:=hr.get (by simp [hop,Op.operands]) hi
  obtain⟨e,hu,hs⟩:=ha.h
  obtain⟨j,hj,hjs⟩:=Option.map_eq_some_iff.1 hs
  have h2:(sizeOf e).run P W= .ok st W:=by simp [sizeOf,typeInfo,hj,hjs]
  refine⟨.pointer (some ⟨b,q,none⟩),?_,rfl⟩
  have hin:0≤(i:Int)∧(i:Int)<n:=by omega
  have:(Instr.indexAt t (.pointer (some ⟨b,0,none⟩)) (.int k i)).run P W= .ok (.pointer (some ⟨b,q,none⟩)) W:=by
   simp [Instr.indexAt,run_underlying hu,Instr.sureAddr,asIntOf,hin,h2,Addr.add,hq,h1]
   exact fun h=>h.symm
  simp [execOp,hop,hv,hvi,this]
theorem zbo {t:TypeId} [IsScalar P t] {x:Operand} {b off:Nat} {c:Array Value} {v:Value} (hop:o.op= .load t x) (hx:xd g x=some (eqS (.pointer (some ⟨b,off,none⟩)))) (hG:G b=some c) (hc:c[off]? =some v):OpOK P G H o g (eqS v):=
 yC (by simp [hop]) fun I W a hm _ hr=>by
  have hv:a.eval x=_:=hr.get (by simp [hop,Op.operands]) hx
  obtain⟨e,f,hh⟩:=hm.mem b c (hm.glob b c hG)
  refine⟨v,?_,rfl⟩
  have:=wP (P:=P) (t:=t) (W:=W) (b:=b) (off:=off) (x:=v) (by rw [wm hh];exact hc)
  simp [execOp,hop,hv,Instr.loadAt,Instr.sureAddr,this]
theorem zcH {t:TypeId} [hs:IsStr P t] {s:ByteArray} {x ix:Operand} {k:IntKind} {i:Nat} (hop:o.op= .index t x ix) (hx:xd g x=some (eqS (.string s))) (hi:xd g ix=some (intS k i)) (h1:i<s.size):
  OpOK P G H o g (intS .u8 ((s[i]'h1).toNat:Nat)):=
 yC (by simp [hop]) fun I W a _ _ hr=>by
  have hv:a.eval x=_:=hr.get (by simp [hop,Op.operands]) hx
  have hvi:a.eval ix= .int k i:=hr.get (by simp [hop,Op.operands]) hi
  refine⟨_,?_,rfl⟩
  have:=run_index_string (P:=P) W t s k i hs.h
  rw [dif_pos ⟨by omega,by omega⟩] at this
  simp only [Int.toNat_natCast] at this
  simp [execOp,hop,hv,hvi,this]
def zmF (f:FuncId):SV:=
 ⟨fun I v=>∃ b c,v= .pointer (some ⟨b,0,none⟩)∧I b=some c∧c[0]? =some (.func (.func f) #[] #[.pointer (some ⟨b,0,none⟩)]),
  fun _ _ _ hl ⟨b,c,hv,hI,hc⟩=>⟨b,c,hv,hl b c hI,hc⟩⟩
theorem ZB {t:TypeId} [IsScalar P t] {x:Operand} {f:FuncId} (hop:o.op= .load t x) (hx:xd g x=some (zmF f)):OpOK P G H o g (wp f [zmF f]):=
 yC (by simp [hop]) fun I W a hm _ hr=>by
  obtain⟨b,c,hv,hI,hc⟩:=hr.get (by simp [hop,Op.operands]) hx
  obtain⟨e,fr,hh⟩:=hm.mem b c hI
  refine⟨_,?_,[.pointer (some ⟨b,0,none⟩)],rfl,zW ⟨b,c,rfl,hI,hc⟩ dens_nil⟩
  have:=wP (P:=P) (t:=t) (W:=W) (b:=b) (off:=0) (x:=.func (.func f) #[] #[.pointer (some ⟨b,0,none⟩)]) (by rw [wm hh];exact hc)
  simp [execOp,hop,hv,Instr.loadAt,Instr.sureAddr,this]
theorem zeE (j t:Nat) {b e k:Nat} {f:FuncId} (hH:S.h[j]? =some ⟨some b,e,[wp f [eqS (.pointer (some ⟨b,0,none⟩))]],k⟩) (ht:look t S.g=some (eqS (.pointer (some ⟨b,0,none⟩)))):
  ZT G E r S ⟨S.n,(t,zmF f)::S.g,wh S.h j [],S.d,S.i⟩:=by
 intro I F a W hs
 obtain⟨I',h1,h2,h3,h4⟩:=ZL hH hs
 have e:wh S.h j []=S.h.take j++S.h.drop (j+1):=by rw [vn hH];simp
 rw [e]
 refine⟨I',Sat.retype h1 (s0:=eqS (.pointer (some ⟨b,0,none⟩))) ht fun v hv=>?_,h2⟩
 obtain⟨c,hI,hc⟩:=h4
 obtain⟨x,hx,⟨xs,rfl,hd⟩,_⟩:=hc 0 _ rfl
 obtain⟨y,rr,rfl,hy,hr⟩:=xW hd
 cases dens_nil_inv hr
 cases hy
 exact⟨b,c,hv,hI,by simpa using hx⟩
theorem zkd {f:FuncId} {fn:Func} {x y z:Operand} {ts:Array TypeId} {m n c:Nat} (hf:P.funcs[f]? =some fn) (hname:(fn.name == "runtime.NumGoroutine")=false) (hb:fn.body.isNone=true) (hn:Extern.findNext fn=none) (he:Extern.find fn=some add64Entry)
  (hop:o.op= .call {callee:=.value (.func f),args:= #[x,y,z],argTypes:=ts}) (hx:xd g x=some (intS .u64 m)) (hy:xd g y=some (intS .u64 n)) (hz:xd g z=some (intS .u64 c)) (hc:c≤1):
  OpOK P G H o g (xn [intS .u64 ((m+n+c)%18446744073709551616:Nat),intS .u64 ((m+n+c)/18446744073709551616:Nat)]):=
 yC (by simp [hop]) fun I W a _ _ hr=>by
  have hvx:a.eval x=_:=hr.get (by simp [hop,Op.operands,Call.operands]) hx
  have hvy:a.eval y=_:=hr.get (by simp [hop,Op.operands,Call.operands]) hy
  have hvz:a.eval z=_:=hr.get (by simp [hop,Op.operands,Call.operands]) hz
  refine⟨_,?_,_,rfl,zW rfl (zW rfl dens_nil)⟩
  have h1:=run_callFunc_extern hf hname hb hn he #[.int .u64 m,.int .u64 n,.int .u64 c] W
  rw [run_add64 m n c (by omega) (by omega) (by omega) (by omega)] at h1
  have hfv:a.eval (.func f)= .func (.func f) #[] #[]:=rfl
  simp only [execOp,hop,resolve,hfv,Deferred.ofValue,Sem.run_bind,Sem.run_pure,Result.andThen_ok,invoke,Array.empty_append,List.map_toArray,List.map_cons,List.map_nil,hvx,hvy,hvz]
  simpa using h1
end
end Go.Sv
