/- The ground of a small program logic over the kit's. -/
import Derived.Test.YtceodgbmninaoaaGreatDoorSzzz
import Derived.WalkKit
import Derived.OrdersIn
import Derived.RangeFuncNested
import Derived.RangeFuncLeaves
set_option linter.all false
namespace Go.Sv
open Go Go.RowKit
variable {W W':World} {xs:List Value} {b k e:Nat} {c:Array Value} {x:Value} {O O':Nat->Prop}
def Imm:=Nat->Option (Array Value)
def Imm.le (I J:Imm):Prop:=∀ b c,I b=some c->J b=some c
def Imm.le_refl (I:Imm):I.le I:=fun _ _ h=>h
def Imm.le_trans {I J K:Imm} (h:I.le J) (k:J.le K):I.le K:=fun b c e=>k b c (h b c e)
structure SV where
 den:Imm->Value->Prop
 mono:∀ I J v,Imm.le I J->den I v->den J v
def eqS (x:Value):SV:=⟨fun _ v=>v=x,fun _ _ _ _ h=>h⟩
abbrev ze (k:IntKind) (n:Int):SV:=eqS (.int k n)
abbrev zp (b:Bool):SV:=eqS (.bool b)
def zfE:SV:=⟨fun _ v=>∃ b,v= .bool b,fun _ _ _ _ h=>h⟩
def zCr:SV:=⟨fun _ _=>True,fun _ _ _ _ h=>h⟩
def cellsAt (I:Imm) (b o:Nat) (cs:List SV):Prop:=
 ∃c,I b=some c/\∀ i s,cs[i]? =some s->∃ x,c[o+i]? =some x/\s.den I x/\x.oneCell'=true
def cellsAt.mono {I J:Imm} {o:Nat} {cs:List SV} (a:I.le J) (h:cellsAt I b o cs):cellsAt J b o cs:=by
 obtain⟨c,d,h⟩:=h;exact⟨c,a _ _ d,fun i s hi=>by obtain⟨x,hx,hd,h1⟩:=h i s hi;exact⟨x,hx,s.mono _ _ _ a hd,h1⟩⟩
def yo (cs:List SV):SV:=
 ⟨fun I v=>∃ b o,v= .pointer (some ⟨b,o,none⟩)/\cellsAt I b o cs,
  fun _ _ _ hl ⟨b,o,hv,h⟩=>⟨b,o,hv,h.mono hl⟩⟩
def dens (I:Imm) (cs:List SV) (xs:List Value):Prop:=xs.length=cs.length/\∀ (i:Nat) s x,cs[i]? =some s->xs[i]? =some x->s.den I x
def dens.mono {I J:Imm} {cs:List SV} (a:I.le J) (h:dens I cs xs):dens J cs xs:=
 ⟨h.1,fun i s x hi hx=>s.mono _ _ _ a (h.2 i s x hi hx)⟩
def aq {I:Imm}:dens I [] []:=⟨Z,fun i s x h=>by simp⟩
def yB {I:Imm} {s:SV} {cs:List SV} (h:s.den I x) (k:dens I cs xs):dens I (s::cs) (x::xs):=by
 refine⟨by simp [k.1],fun i s' a hi hx=>?_⟩;cases i with
 | zero=>grind
 | succ i=>simp at hi hx;exact k.2 i s' a hi hx
def xW {I:Imm} {s:SV} {cs:List SV} (h:dens I (s::cs) xs):∃ x r,xs=x::r/\s.den I x/\dens I cs r:=by
 cases xs with
 | nil=>exact M1 h.1 B
 | cons x r=>exact⟨x,r,Z,h.2 0 s x Z Z,by simpa using h.1,fun i s' a hi hx=>h.2 (i+1) s' a GM (by assumption)⟩
def dens_nil_inv {I:Imm} (h:dens I [] xs):xs=[]:=Aa (by simpa using h.1)
def dens.get {I:Imm} {cs:List SV} (h:dens I cs xs) {i:Nat} {s:SV} (hi:cs[i]? =some s):∃ x,xs[i]? =some x/\s.den I x:=by
 have b:i<cs.length:=by rcases Ab i cs.length with h | h;exact h;simp [Ac h] at hi
 have a:i<xs.length:=by rw [h.1];exact b
 exact⟨xs[i],by simp,h.2 i s _ hi (by simp)⟩
def dens.append {I:Imm} {cs ds:List SV} {ys:List Value} (h:dens I cs xs) (k:dens I ds ys):dens I (cs++ds) (xs++ys):=by
 refine⟨by simp [h.1,k.1],fun i s x hi hx=>?_⟩;by_cases a:i<cs.length
 .rw [Ad a] at hi
  rw [Ad (by rw [h.1];omega)] at hx
  exact h.2 i s x hi hx
 .rw [Ae C] at hi
  rw [Ae (by rw [h.1];omega),h.1] at hx
  exact k.2 _ s x hi hx
def KK (c:List Value):Prop:=∀ x∈c,x.oneCell'=true
def zl (cs:List SV):SV:=
 ⟨fun I v=>∃ xs:List Value,v= .agg xs.toArray/\dens I cs xs/\KK xs,
  fun _ _ _ hl ⟨xs,hv,h,h1⟩=>⟨xs,hv,h.mono hl,h1⟩⟩
def yR (cs:List SV):SV:=
 ⟨fun I v=>∃ xs:List Value,v= .tuple xs.toArray/\dens I cs xs,fun _ _ _ hl ⟨xs,hv,h⟩=>⟨xs,hv,h.mono hl⟩⟩
def wD (f:FuncId) (caps:List SV):SV:=
 ⟨fun I v=>∃ xs:List Value,v= .func (.func f) #[] xs.toArray/\dens I caps xs,fun _ _ _ hl ⟨xs,hv,h⟩=>⟨xs,hv,h.mono hl⟩⟩
def yE:Nat:=140737488355328
def zR {α:Type} (st:Nat) (f:α->List SV) (l:List α):SV:=
 ⟨fun I v=>∃ a cap,v= .slice a l.length cap/\l.length<=cap/\l.length<=yE/\(l=[]\/∃ b o,a=some ⟨b,o,none⟩/\∀ i x,l[i]? =some x->cellsAt I b (o+i*st) (f x)),
  fun _ _ _ hl ⟨a,cap,hv,h1,h2,h3⟩=>⟨a,cap,hv,h1,h2,h3.imp id fun⟨b,o,ha,h⟩=>⟨b,o,ha,fun i x hx=>(h i x hx).mono hl⟩⟩⟩
def SV.One (s:SV):Prop:=∀ I v,s.den I v->v.oneCell'=true
def YP (h:x.oneCell'=true):(eqS x).One:=fun _ v a=>by rw [show v=x from a];omega
def zqA {cs:List SV}:(yo cs).One:=fun _ _ ⟨_,_,a,_⟩=>by subst a;rfl
def zuo {α:Type} {st:Nat} {f:α->List SV} {l:List α}:(zR st f l).One:=fun _ _ ⟨_,_,a,_⟩=>by subst a;rfl
def zup {f:FuncId} {cs:List SV}:(wD f cs).One:=fun _ _ ⟨_,a,_⟩=>by subst a;rfl
def zhe:zfE.One:=fun _ _ ⟨_,a⟩=>by subst a;rfl
inductive eQ:SV->List SV->Prop
 | one {s:SV} (h:s.One):eQ s [s]
 | agg {cs:List SV}:eQ (zl cs) cs
def eQ.cells {s:SV} {cs:List SV} (h:eQ s cs) {I:Imm} {v:Value} (a:s.den I v):dens I cs v.cells.toList/\KK v.cells.toList:=by
 cases h with
 | one h1=>
  have c:=h1 I v a;cases v <;> simp [Value.oneCell'] at c <;> exact⟨yB a aq,by intro x hx;simp [Value.cells] at hx;subst hx;rfl⟩
 | agg=>obtain⟨xs,rfl,b,h1⟩:=a;exact⟨by assumption,by assumption⟩
structure Holds (G I:Imm) (W:World):Prop where
 glob:G.le I
 mem:∀ b c,I b=some c->∃ e f,W.heap[b]? =some (.cells c e f)
structure HE where
 b:Option Nat
 e:TypeId
 cs:List SV
 rest:Nat
abbrev HL:=List HE
def bs (H:HL):G7:=H.filterMap (·.b)
def bc (I:Imm) (W:World) (b:Nat) (e:TypeId) (cs:List SV) (rest:Nat):Prop:=
 I b=none/\∃ c,W.heap[b]? =some (.cells c e (0,0))/\c.size=cs.length+rest/\KK (c.toList.take cs.length)/\dens I cs (c.toList.take cs.length)
def aT (I:Imm) (W:World) (p:HE):Prop:=match p.b with
 | none=>p.cs=[]
 | some b=>bc I W b p.e p.cs p.rest
structure HoldsH (H:HL) (I:Imm) (W:World):Prop where
 nodup:(bs H).Nodup
 mem:∀ p∈H,aT I W p
def zbX {H:HL} {p:HE} (hp:p∈H) (a:p.b=some b):b∈bs H:=List.mem_filterMap.2 ⟨p,hp,a⟩
def qD {H:HL} (h:b∈bs H):∃ p∈H,p.b=some b:=by simpa [bs] using h
structure Fram (O:Nat->Prop) (I:Imm) (W:World) (O':Nat->Prop) (I':Imm) (W':World):Prop where
 os:W'.os=W.os
 tape:W'.tape=W.tape
 output:W'.output=W.output
 imm:I.le I'
 size:W.heap.size<=W'.heap.size
 old:∀ b,b<W.heap.size->¬ O b->W'.heap[b]? =W.heap[b]?
 new:∀ b,I b=none->I' b≠none->O b\/W.heap.size<=b
 own:∀ b,O' b->O b\/W.heap.size<=b
def Fram.refl (O:Nat->Prop) (I:Imm) (W:World):Fram O I W O I W:=
 ⟨Z,Z,Z,Imm.le_refl I,Af _,fun _ _ _=>rfl,fun _ h h'=>M1 h h',fun _ h=>.inl h⟩
theorem Fram.trans {O'':Nat->Prop} {I I' I'':Imm} {W'':World} (h:Fram O I W O' I' W') (k:Fram O' I' W' O'' I'' W''):Fram O I W O'' I'' W'' where
  os:=k.os.trans h.os
  tape:=k.tape.trans h.tape
  output:=k.output.trans h.output
  imm:=Imm.le_trans h.imm k.imm
  size:=Ag h.size k.size
  old:=fun b a e=>by
    rw [k.old b (Ah a h.size) (fun h'=>by rcases h.own b h' with h1 | h1;exact e h1;omega)]
    exact h.old b a e
  new:=fun b f d=>by
    cases hI:I' b with
    | none => rcases k.new b hI d with h1 | h1
              . exact h.own b h1
              . exact .inr (Ag h.size h1)
    | some c=>exact h.new b f (by grind)
  own:=fun b a=>by
    rcases k.own b a with h1 | h1
    . exact h.own b h1
    . exact .inr (Ag h.size h1)
def Fram.weaken {O O₁ O' O₁':Nat->Prop} {I I':Imm} (h:Fram O I W O' I' W') (c:∀ b,O b->O₁ b) (a:∀ b,O₁' b->O' b\/O₁ b):Fram O₁ I W O₁' I' W':=
 ⟨h.os,h.tape,h.output,h.imm,h.size,fun b e d=>h.old b e (fun h'=>d (c b h')),fun b d hn'=>(h.new b d hn').imp (c b) id,fun b e=>by
  rcases a b e with h1 | h1
  .exact (h.own b h1).imp (c b) id
  grind⟩
abbrev Ext (I:Imm) (W:World) (I':Imm) (W':World):Prop:=Fram (fun _=>False) I W (fun _=>False) I' W'
def yv {o:Obj} (h:W.heap[b]? =some o):b<W.heap.size:=(Array.getElem?_eq_some_iff.1 h).1
def bc.lt {I:Imm} {cs:List SV} (h:bc I W b e cs k):b<W.heap.size:=by obtain⟨_,c,h,_⟩:=h;grind
def bc.keep {I I':Imm} {cs:List SV} (h:bc I W b e cs k) (hi:I.le I') (f:I' b=none) (a:W'.heap[b]? =W.heap[b]?):bc I' W' b e cs k:=by
 obtain⟨_,c,i,d,h1,g⟩:=h;exact⟨f,c,a.trans i,d,h1,g.mono hi⟩
def aT.some {I:Imm} {p:HE} (h:aT I W p) (a:p.b= .some b):bc I W b p.e p.cs p.rest:=by unfold aT at h;grind
def aT.of_some {I:Imm} {p:HE} (a:p.b= .some b) (h:bc I W b p.e p.cs p.rest):aT I W p:=by unfold aT;grind
def aT.of_none {I:Imm} {p:HE} (a:p.b=none) (h:p.cs=[]):aT I W p:=by unfold aT;grind
def aT.none {I:Imm} {p:HE} (h:aT I W p) (a:p.b=none):p.cs=[]:=by unfold aT at h;grind
def HoldsH.lt {H:HL} {I:Imm} (h:HoldsH H I W) (c:b∈bs H):b<W.heap.size/\I b=none:=by
 obtain⟨p,hp,a⟩:=qD c;have:=(h.mem p hp).some a;exact⟨this.lt,this.1⟩
theorem HoldsH.keep {H:HL} {I I':Imm} (h:HoldsH H I W) (f:Fram O I W O' I' W') (e:∀ b∈bs H,¬O b):HoldsH H I' W':=by
  refine⟨h.nodup,fun p hp=>?_⟩;cases hb:p.b with
  | none=>exact .of_none hb ((h.mem p hp).none hb)
  | some b=>
    have d:=(h.mem p hp).some hb;have a:=zbX hp hb;refine .of_some hb (d.keep f.imm ?_ (f.old _ d.lt (e _ a)));cases hI:I' b with
    | none=>rfl
    | some c => rcases f.new _ d.1 (by grind) with h1 | h1
                . grind
                . have:=d.lt;omega
def wj (w:World) (o:Obj) (h:k<w.heap.size):(w.alloc o).heap[k]? =w.heap[k]? :=Below.heap_alloc w o k h
def aM (w:World) (o:Obj):(w.alloc o).heap[w.heap.size]? =some o:=World.alloc_heap_new w o
def Imm.with (I:Imm) (b:Nat) (c:Array Value):Imm:=fun k=>if k=b then some c else I k
def aZ {I:Imm} (h:I b=none):I.le (I.with b c):=fun k d a=>by
 unfold Imm.with;grind
def Holds.none_new {G I:Imm} (h:Holds G I W):I W.heap.size=none:=by
 cases hI:I W.heap.size with
 | none=>rfl
 | some c=>obtain⟨e,f,a⟩:=h.mem _ _ hI;grind
def zod {G I:Imm} (h:Holds G I W) {e:TypeId}:
 Holds G (I.with W.heap.size c) (W.alloc (.cells c e))/\Ext I W (I.with W.heap.size c) (W.alloc (.cells c e)):=by
 have k:=h.none_new;have g:I.le (I.with W.heap.size c):=aZ k;refine⟨⟨Imm.le_trans h.glob g,fun b d a=>?_⟩,⟨Z,Z,Z,g,B,fun b a _=>wj _ _ a,fun b a hb'=>?_,fun b a=>a.elim⟩⟩
 .unfold Imm.with at a
  split at a
  .rename_i i;subst i;cases a;exact⟨e,(0,0),aM _ _⟩
  .obtain⟨i,f,j⟩:=h.mem _ _ a;exact⟨i,f,(wj _ _ (yv j)).trans j⟩
 .unfold Imm.with at hb'
  grind
def ZB {G I:Imm} (h:Holds G I W) (o:Obj) (O:Nat->Prop):Holds G I (W.alloc o)/\Fram O I W (fun b=>O b\/b=W.heap.size) I (W.alloc o):=by
 refine⟨⟨h.glob,fun b d a=>?_⟩,⟨Z,Z,Z,Imm.le_refl _,B,fun b a _=>wj _ _ a,fun b a hb'=>M1 a hb',fun b a=>a.imp id GR⟩⟩;obtain⟨e,f,c⟩:=h.mem _ _ a;exact⟨e,f,(wj _ _ (yv c)).trans c⟩
def zel {G I:Imm} (h:Holds G I W) (n:Nat):Holds G I {W with drawn:=n}/\Ext I W I {W with drawn:=n}:=
 ⟨⟨h.glob,h.mem⟩,⟨rfl,rfl,rfl,Imm.le_refl _,Nat.le_refl _,fun _ _ _=>rfl,fun _ h h'=>M1 h h',fun _ h=>h.elim⟩⟩
def uz {G I:Imm} (h:Holds G I W) (g:I b=none) (a:W'.os=W.os) (ht:W'.tape=W.tape) (j:W'.output=W.output) (n:W'.heap.size=W.heap.size)
 (i:∀ k,k≠b->W'.heap[k]? =W.heap[k]?):Holds G I W'/\Fram (fun k=>k=b) I W (fun k=>k=b) I W':=by
 refine⟨⟨h.glob,fun k d c=>?_⟩,⟨a,ht,j,Imm.le_refl _,C,fun k _ hk'=>i k hk',fun b g hb'=>M1 g hb',fun k hk'=>.inl hk'⟩⟩;obtain⟨m,f,l⟩:=h.mem _ _ c;grind
def look (t:Nat):List (Nat×SV)->Option SV
  | []=>none
  | (k,s)::r=>match Nat.beq t k with
    | true=>some s
    | false=>look t r
structure St where
 n:Nat
 g:List (Nat×SV)
 h:HL
 d:List Nat
 i:Nat×Bool
def ga (b:Nat):Deferred:={target:=.collected b,args:= #[]}
structure aD where
 ok:Nat×Bool->Imm->(Nat->Prop)->World->Prop
 stab:∀ i I F W I' W',ok i I F W->I.le I'->W'.os=W.os->W'.tape=W.tape->W'.output=W.output->W.heap.size<=W'.heap.size->(∀b,F b->W'.heap[b]? =W.heap[b]?)->(∀b,F b->I' b=none)->ok i I' F W'
def own (S:St) (F:Nat->Prop) (b:Nat):Prop:=b∈bs S.h\/b∈S.d\/F b
structure Sat (G:Imm) (E:aD) (r:Option Nat) (S:St) (I:Imm) (F:Nat->Prop) (a:Act) (W:World):Prop where
 n:a.tmps.size=S.n
 g:∀ t s,look t S.g=some s->s.den I (a.tmps.getD t undef)
 m:Holds G I W
 h:HoldsH S.h I W
 d:a.defers=S.d.map ga
 dn:S.d.Nodup
 dk:∀ b∈S.d,W.heap[b]? =some (.deferred (some []))
 e:E.ok S.i I F W
 f:∀ b,F b->b<W.heap.size/\I b=none/\b∉bs S.h/\b∉S.d
 l:∀ k,r=some k->(∃rec,W.heap[k]? =some (.loop rec))/\¬ own S F k
def Fr (r:Option Nat):Fence:={Fence.wide with round:=r}
def zuq:Fr none=Fence.wide:=rfl
def post (G:Imm) (E:aD) (r:Option Nat) (Q:Exit->St->Prop) (O:Nat->Prop) (I:Imm) (W:World) (e:Exit) (a':Act) (W':World):Prop:=
 ∃S' I' F',Sat G E r S' I' F' a' W'/\Q e S'/\Fram O I W (own S' F') I' W'
def T (P:Program) (G:Imm) (E:aD) (r:Option Nat) (c:Code) (S:St) (Q:Exit->St->Prop):Prop:=
 ∀n I F a W,Sat G E r S I F a W->c.wpIn (Fr r) n P (post G E r Q (own S F) I W) a W
variable {P:Program} {G:Imm} {E:aD} {r:Option Nat} {Q:Exit->St->Prop} {S:St}
variable {Q':Exit->St->Prop} {c x:Code} {O:Nat->Prop} {id:Nat} {W:World} {e:Exit} {I:Imm} {a:Act}
def post.from {Q:Exit->St->Prop} {O':Nat->Prop} {I':Imm} {W':World} (f:Fram O I W O' I' W') {W'':World}
 (h:post G E r Q O' I' W' e a W''):post G E r Q O I W e a W'':=by
 obtain⟨S',I',F',hs,hq,hf⟩:=h;exact⟨S',I',F',hs,hq,f.trans hf⟩
def bC {Q:Exit->St->Prop} {F:Nat->Prop} (h:Sat G E r S I F a W) (hq:Q e S):post G E r Q (own S F) I W e a W:=
 ⟨S,I,F,h,hq,Fram.refl _ _ _⟩
def ZG (k:St->Prop) (Q:Exit->St->Prop):Exit->St->Prop
 | .normal,S=>k S
 | e,S=>Q e S
def zqC (id:Nat) (Q:Exit->St->Prop):Exit->St->Prop
  | .exit j,S=>match Nat.beq j id with
    | true=>Q .normal S
    | false=>Q (.exit j) S
  | e,S=>Q e S
def zur (Q:Exit->St->Prop):Exit->St->Prop
 | .goto _,_=>False
 | e,S=>Q e S
def VE (h:T P G E r c S Q) (hq:∀ e S,Q e S->Q' e S):T P G E r c S Q':=
 fun n I F a W hs=>wpIn_mono (h n I F a W hs) fun _ _ _ ⟨S',I',F',h1,h2,h3⟩=>⟨S',I',F',h1,hq _ _ h2,h3⟩
def zB (h:Q .normal S):T P G E r .skip S Q:=fun _ _ _ _ _ a=>wpIn_skip (bC a h)
def wN {l:Nat} (h:Q .normal S):T P G E r (.label l) S Q:=fun _ _ _ _ _ a=>wpIn_label (bC a h)
def zK (h:Q (.exit id) S):T P G E r (.exit id) S Q:=fun _ _ _ _ _ a=>wpIn_exit (bC a h)
def zj (h:Q .ret S):T P G E r .ret S Q:=fun _ _ _ _ _ a=>wpIn_ret (bC a h)
def zi {y:Code} (h:T P G E r x S (ZG (fun S'=>T P G E r y S' Q) Q)):T P G E r (.seq x y) S Q:=by
 intro n I F a W hs;refine wpIn_seq (wpIn_mono (h n I F a W hs) fun e a' W' hp=>?_);obtain⟨S',I',F',h1,h2,h3⟩:=hp;cases e with
 | normal=>exact wpIn_mono (h2 n I' F' a' W' h1) fun _ _ _ hp=>hp.from h3
 | _=>exact⟨S',I',F',h1,h2,h3⟩
def fj {c:Operand} {t:Nat} {y:Code} {b:Bool} (f:c= .tmp t) (e:look t S.g=some (zp b)) (ht:b=true->T P G E r x S Q) (hf:b=false->T P G E r y S Q):T P G E r (.cond c x y) S Q:=by
 intro n I F a W d;subst f;exact wpIn_cond_split (d.g t _ e) (fun h=>ht h n I F a W d) (fun h=>hf h n I F a W d)
theorem zN (h:T P G E r c S (zqC id Q)):T P G E r (.block id c) S Q:=by
  intro n I F a W i;refine wpIn_block (wpIn_mono (h n I F a W i) fun e k W' hp=>?_);obtain⟨S',I',F',h1,b,g⟩:=hp;cases e with
  | exit j=>
    simp only [zqC] at b
    by_cases d:j=id
    . subst d
      have f:Nat.beq j j=true:=by simp
      rw [f] at b
      simp only [Exit.inBlock,if_true];exact⟨S',I',F',h1,b,g⟩
    . have f:Nat.beq j id=false:=by
        cases hc:Nat.beq j id with
        | false=>rfl
        | true=>simp_all
      rw [f] at b
      simp only [Exit.inBlock,d,if_false];exact⟨S',I',F',h1,b,g⟩
  | _=>exact⟨S',I',F',h1,b,g⟩
section scope
variable {b:Frame} {a:Act} {k:List Item} {cs:List Frame} {w:World}
def ZH {c:Code}:step P (lone (b.atR a (.code (.scope c)::k)) cs w)= .next (lone (b.atR a (.code c:: .inScope c::k)) cs w):=
 step_lone_go (by rfl)
def zd7 {c:Code}:step P (lone (b.atR a (.inScope c::k)) cs w)= .next (lone (b.atR a k) cs w):=
 step_lone_go (by rfl)
def zjL {F:Fence} {n:Nat} {Q:Exit->Act->World->Prop} {c:Code} (h:c.wpIn F n P (Exit.noGoto Q) a w):(Code.scope c).wpIn F n P Q a w:=by
 intro b k cs g o j;have f:(lone (b.atR a (.code (.scope c)::k)) cs w).fenced P F:=fenced_calm o j Z;obtain⟨e,a₁,w₁,hq,d⟩:=h b (.inScope c::k) cs g o j;cases e with
 | normal=>exact⟨.normal,a₁,w₁,hq,.head f ZH (StepsIn.trans d (.one (fenced_calm o j Z) zd7))⟩
 | exit id=>
  have hx:exitTo id (.inScope c::k)=exitTo id k:=by simp [exitTo]
  exact⟨.exit id,a₁,w₁,hq,fun p m=>.head f ZH (d.1 p (by assumption)),
   fun i m=>let ⟨k₁,h1,h2⟩:=d.2 i (by assumption);⟨k₁,h1,.head f ZH h2⟩⟩
 | goto l=>exact hq.elim
 | ret=>exact⟨_,a₁,w₁,hq,.of_steps (.one f ZH) d⟩
 | panic ch=>exact⟨_,a₁,w₁,hq,.of_steps (.one f ZH) d⟩
 | outgrown=>exact⟨_,a₁,w₁,hq,.of_steps (.one f ZH) d⟩
end scope
variable {g g':List (Nat×SV)} {c:Code} {F:Nat->Prop} {W:World} {h k:HL} {S' n:St} {st:Nat} {I:Imm}
def wO (h:T P G E r c S (zur Q)):T P G E r (.scope c) S Q:=by
 intro n I F a W d;refine zjL (wpIn_mono (h n I F a W d) fun e g W' hp=>?_);obtain⟨S',I',F',h1,b,f⟩:=hp;cases e with
 | goto l=>assumption
 | _=>exact⟨S',I',F',h1,b,f⟩
def zxM {p:Prop} (hp:∀ I F a W,Sat G E r S I F a W->p) (h:p->T P G E r c S Q):T P G E r c S Q:=
 fun n I F a W b=>h (hp I F a W b) n I F a W b
def uM {α:Type} {f:α->List SV} {l:List α} (t:Nat) (d:look t S.g=some (zR st f l)) (h:l.length<=yE->T P G E r c S Q):T P G E r c S Q:=
 zxM (fun I F a W b=>by obtain⟨_,_,_,_,h2,_⟩:=b.g t _ d;omega) h
def bN (g:List (Nat×SV)):List (Nat×SV)->Prop
 | []=>True
 | (t,s)::r=>(∃s0,look t g=some s0/\∀ I v,s0.den I v->s.den I v)/\bN g r
def bN.look (h:bN g g'):∀ t s,look t g'=some s->∃ s0,look t g=some s0/\∀ I v,s0.den I v->s.den I v:=by
 induction g' with
 | nil=>intro t s hl;cases hl
 | cons p g' ih=>
  intro t s hl;obtain⟨k,s'⟩:=p;obtain⟨h1,h2⟩:=h;simp only [Sv.look] at hl
  split at hl
  . simp_all
  grind
def aa {t:Nat} {s:SV} (h:look t g=some s) (k:bN g g'):bN g ((t,s)::g'):=⟨⟨s,h,fun _ _ h=>h⟩,k⟩
def cB:HL->HL->Prop
 | [],[]=>True
 | p::r,q::s=>p.b=q.b/\p.e=q.e/\p.rest=q.rest/\p.cs.length=q.cs.length/\(∀I xs,dens I p.cs xs->dens I q.cs xs)/\cB r s
 | _,_=>False
def wq:∀ h:HL,cB h h
 | []=>trivial
 | _::r=>⟨Z,Z,Z,Z,fun _ _ h=>h,wq r⟩
def cB.bs (a:cB h k):bs k=bs h:=by
 induction h generalizing k with
 | nil=>cases k with
  | nil=>rfl
  | cons=>exact a.elim
 | cons p r ih=>cases k with
  | nil=>exact a.elim
  | cons q s=>
   have:=ih a.2.2.2.2.2;simp only [Sv.bs,Aj] at this ⊢;rw [a.1,this]
def cB.mem (a:cB h k):∀ q∈k,∃p∈h,p.b=q.b/\p.e=q.e/\p.rest=q.rest/\p.cs.length=q.cs.length/\∀ I xs,dens I p.cs xs->dens I q.cs xs:=by
 induction h generalizing k with
 | nil=>cases k with
  | nil=>simp
  | cons=>exact a.elim
 | cons p r ih=>cases k with
  | nil=>simp
  | cons q s=>
   intro x hx;rcases DZ.1 hx with rfl | hx
   . exact⟨p,B,a.1,a.2.1,a.2.2.1,a.2.2.2.1,a.2.2.2.2.1⟩
   . obtain⟨d,c,h1⟩:=ih a.2.2.2.2.2 x hx;grind
def cB.holds (e:cB h k) (d:HoldsH h I W):HoldsH k I W:=
 ⟨by rw [e.bs];exact d.nodup,fun q hq=>by
  obtain⟨p,hp,h1,n,m,a,l⟩:=e.mem q hq;cases hb:q.b with
  | none=>refine .of_none hb (Aa ?_);rw [<-a,(d.mem p hp).none (h1.trans hb)];rfl
  | some b=>
   obtain⟨g,c,j,hsz,f,i⟩:=(d.mem p hp).some (h1.trans hb)
   exact .of_some hb ⟨g,c,by grind,by omega,by grind,by grind⟩⟩
structure aC (S S':St):Prop where
 n:S'.n=S.n
 g:bN S.g S'.g
 h:cB S.h S'.h
 d:S'.d=S.d
 i:S'.i=S.i
def aC.own {S:St} (h:aC S S') (F:Nat->Prop):own S' F=own S F:=by funext b;simp only [Sv.own,h.h.bs,h.d]
def aC.sat {S:St} (h:aC S S') {a:Act} (b:Sat G E r S I F a W):Sat G E r S' I F a W where
 n:=h.n▸b.n
 g:=fun t s c=>by obtain⟨s0,h1,h2⟩:=h.g.look t s c;exact h2 _ _ (b.g t s0 h1)
 m:=b.m
 h:=h.h.holds b.h
 d:=by rw [h.d];exact b.d
 dn:=by rw [h.d];exact b.dn
 dk:=by rw [h.d];exact b.dk
 e:=by rw [h.i];exact b.e
 f:=by rw [h.h.bs,h.d];exact b.f
 l:=fun k j=>by rw [h.own];exact b.l k j
def xq (h:aC S S') (ht:T P G E r c S' Q):T P G E r c S Q:=by
 intro n I F a W b;have:=ht n I F a W (h.sat b);rwa [h.own] at this
def exists_least {p:Nat->Prop} (h:∃ n,p n):∃ n,p n/\∀ m,p m->n<=m:=by
 obtain⟨n,b⟩:=h
 induction n using Nat.strongRecOn with
 | _ n ih=>
  grind
open Classical in
noncomputable def least (p:Nat->Prop):Nat:=if h:∃ n,p n then Classical.choose (exists_least h) else 0
def VF {p:Nat->Prop} (h:∃ n,p n):p (least p)/\∀ m,p m->least p<=m:=by
 unfold least;grind
theorem xi {c:Code} {γ:Type} (Inv:γ->St) (p:γ->Prop) (μ:γ->Nat) (j:γ) (l:p j) (t:aC S (Inv j))
    (v:∀ g,p g->T P G E r c (Inv g) (ZG (fun S'=>∃ h,p h/\μ h<μ g/\aC S' (Inv h)) Q)):T P G E r (.loop c) S Q:=by
  intro n I F a W u
  let at_ (m:Nat) (d:Act) (W':World):Prop:=∃ g I' F',p g/\μ g=m/\Sat G E r (Inv g) I' F' d W'/\Fram (own S F) I W (own (Inv g) F') I' W'
  refine wpIn_loop (fun d W'=>∃ m,at_ m d W') (fun d W'=>least fun m=>at_ m d W') ?_ ?_
  . exact⟨μ j,j,I,F,l,Z,t.sat u,by rw [t.own];exact Fram.refl _ _ _⟩
  . intro d W' hI
    obtain⟨⟨g,I',F',hp,x,k,hf⟩,_⟩:=VF hI;refine wpIn_mono (v g hp n I' F' d W' k) fun e i W'' hq=>?_;obtain⟨S'',I'',F'',h1,s,q⟩:=hq;cases e with
    | normal=>
      obtain⟨h,o,w,b⟩:=s;have f:at_ (μ h) i W'':=⟨h,I'',F'',o,Z,b.sat h1,by rw [b.own];exact hf.trans q⟩
      exact⟨⟨_,f⟩,by have:=(VF (p:=fun m=>at_ m i W'') ⟨_,f⟩).2 _ f;omega⟩
    | _=>exact⟨S'',I'',F'',h1,s,hf.trans q⟩
end Go.Sv
namespace Go.Sv
open Go Go.RowKit
def yW (g:List (Nat×SV)):Operand->Option SV
 | .tmp t=>look t g
 | .const v=>some (eqS v)
 | .global b=>some (eqS (.pointer (some ⟨b,0,none⟩)))
 | .func f=>some (eqS (.func (.func f) #[] #[]))
def reads (g:List (Nat×SV)) (I:Imm) (o:Oper) (a:Act):Prop:=∀ x∈o.op.operands.toList,∀s,yW g x=some s->s.den I (a.eval x)
def OpOK (P:Program) (G:Imm) (H:HL) (o:Oper) (g:List (Nat×SV)) (s:SV):Prop:=
  ∀n r I W a (next:Act->World->Prop) (Q:Exit->Act->World->Prop),Holds G I W->HoldsH H I W->reads g I o a ->
    (∀v I' W',Ext I W I' W'->Holds G I' W'->s.den I' v->next (a.put o.dst v) W')->o.wpIn (Fr r) n P a W next Q
def AX {P:Program} {G:Imm} {H:HL} {o:Oper} {g:List (Nat×SV)} (s:SV) (h:OpOK P G H o g s):OpOK P G H o g s:=h
def ct (P:Program) (G:Imm) (E:aD) (r:Option Nat) (o:Oper) (S:St) (K:St->Prop):Prop:=
  ∀n I F a W (next:Act->World->Prop) (Q:Exit->Act->World->Prop),Sat G E r S I F a W ->
    (∀S' I' F' a' W',Sat G E r S' I' F' a' W'->K S'->Fram (own S F) I W (own S' F') I' W'->next a' W')->o.wpIn (Fr r) n P a W next Q
def OpOK.sub {P:Program} {G:Imm} {H:HL} {o:Oper} {g:List (Nat×SV)} {s s':SV} (h:OpOK P G H o g s) (hs:∀ I v,s.den I v->s'.den I v):OpOK P G H o g s':=
 fun n r I W a next Q hm hh hr k=>h n r I W a next Q hm hh hr fun v I' W' he hm' hv=>k v I' W' he hm' (hs _ _ hv)
def St.set (S:St) (d:Option Nat) (s:SV):St:=match d with
 | some t=>{S with g:=(t,s)::S.g}
 | none=>S
variable {P:Program} {G:Imm} {E:aD} {r:Option Nat} {S:St}
variable {W W':World} {F O O':Nat->Prop} {I I':Imm} {a:Act} {g:List (Nat×SV)} {l:List Oper} {d j:Nat} {i':Nat×Bool} {gd:Nat->Option Nat} {o:Oper} {Q:Exit->St->Prop} {b:Array Oper} {w:Bool} {v:Value} {h':HL} {K:St->Prop} {S':St} {s:SV} {c:Code} {k:Obj} {E':aD} {p:G4}
def vT (hs:Sat G E r S I F a W) (o:Oper):reads S.g I o a:=by
 intro x _ s hx;cases x with
 | tmp t=>exact hs.g t s hx
 | const v=>cases hx;rfl
 | global b=>cases hx;rfl
 | func f=>cases hx;rfl
def zhf (a:Act) (d:Option Nat) (v:Value):(a.put d v).tmps.size=a.tmps.size:=by cases d <;> simp [Act.put]
def bO (h:d<a.tmps.size):(a.put (some d) v).tmps.getD d undef=v:=by simp [Act.put,Ak,h]
def bG {t:Nat} (h:d≠t):(a.put (some d) v).tmps.getD t undef=a.tmps.getD t undef:=by
 simp [Act.put,Ak,Al h]
def vu (d:Holds G I W) {b:Nat} {o:Obj} (h:W.heap[b]? =some o) (a:∀ c e f,o≠ .cells c e f):I b=none:=by
 cases hI:I b with
 | none=>rfl
 | some c=>obtain⟨e,f,g⟩:=d.mem b c hI;grind
def Jx {H:HL} (d:HoldsH H I W) {b:Nat} {o:Obj} (h:W.heap[b]? =some o) (a:∀ c e f,o≠ .cells c e f):b∉bs H:=by
 intro j;obtain⟨p,hp,g⟩:=qD j;obtain⟨_,c,i,_⟩:=(d.mem p hp).some g;grind
def Fram.stab {i:Nat×Bool} (f:Fram O I W O' I' W') (g:E.ok i I F W) (d:∀ b,F b->b<W.heap.size/\I b=none/\¬ O b):E.ok i I' F W'/\∀ b,F b->b<W'.heap.size/\I' b=none:=by
 have e:∀ b,F b->I' b=none:=fun b a=>by
  obtain⟨h1,k,j⟩:=d b a;cases hI:I' b with
  | none=>rfl
  | some c=>exact ((f.new b k (by grind)).elim j fun h=>by omega).elim
 exact⟨E.stab _ _ _ _ _ _ g f.imm f.os f.tape f.output f.size (fun b a=>f.old b (d b a).1 (d b a).2.2) e,fun b a=>⟨Ah (d b a).1 f.size,e b a⟩⟩
def Sat.anew {F':Nat->Prop} (j:Sat G E r S I F a W) (hi:I.le I') (x:Holds G I' W') (z:HoldsH h' I' W') (A:E'.ok i' I' F' W') (D:∀ b∈S.d,W'.heap[b]? =some (.deferred (some []))) (v:∀ k,r=some k->∃ m,W'.heap[k]? =some (.loop m))
 (w:∀ b,b∈bs h'\/F' b->b∈bs S.h\/F b\/W.heap.size<=b) (q:∀ b,F' b->b<W'.heap.size/\I' b=none/\b∉bs h'):Sat G E' r {S with h:=h',i:=i'} I' F' a W':=by
 have p:∀ b o,W.heap[b]? =some o->(∀c e f,o≠ .cells c e f)->b∈bs h'\/F' b->F b:=fun b o h1 u h3=>(w b h3).elim (fun h=>M1 h (Jx j.h h1 u)) fun h=>h.elim id fun h=>by grind
 refine⟨j.n,fun t s y=>s.mono _ _ _ hi (j.g t s y),x,z,j.d,j.dn,D,A,fun b hb=>⟨(q b hb).1,(q b hb).2.1,(q b hb).2.2,fun h=>(j.f b (p b _ (j.dk b h) GS (.inr hb))).2.2.2 h⟩,fun k hk=>⟨v k hk,fun h=>?_⟩⟩;obtain⟨⟨m,h1⟩,u⟩:=j.l k hk;exact u (.inr (h.elim (fun h=>.inr (p k _ h1 GS (.inl h))) (.imp id fun h=>p k _ h1 GS (.inr h))))
def Sat.move {F':Nat->Prop} (e:Sat G E r S I F a W) (f:Fram O I W O' I' W') (m:∀ b,O b->b∈bs S.h\/F b) (p:Holds G I' W') (q:HoldsH h' I' W') (s:E'.ok i' I' F' W')
 (c:∀ b,b∈bs h'->b∈bs S.h\/W.heap.size<=b) (g:∀ b,F' b->(F b\/W.heap.size<=b)/\b<W'.heap.size/\I' b=none/\b∉bs h'):Sat G E' r {S with h:=h',i:=i'} I' F' a W'/\Fram (own S F) I W (own {S with h:=h',i:=i'} F') I' W':=by
 have d:∀ b,O b->own S F b:=fun b h=>(m b h).imp id .inr;have n:∀ b,b∈bs h'\/F' b->b∈bs S.h\/F b\/W.heap.size<=b:=fun b h=>h.elim (fun h=>(c b h).imp id .inr) fun h=>.inr (g b h).1;have j:∀ b o,W.heap[b]? =some o->¬ O b->W'.heap[b]? =some o:=fun b o h1 h=>(f.old b (yv h1) h).trans h1;refine⟨e.anew f.imm p q s (fun b c=>j b _ (e.dk b c) fun h=>(m b h).elim (Jx e.h (e.dk b c) GS) fun h=>(e.f b h).2.2.2 c) (fun k hk=>let ⟨⟨rec,h1⟩,h2⟩:=e.l k hk;⟨rec,j k _ h1 fun h=>h2 (d k h)⟩) n fun b c=>(g b c).2,f.os,f.tape,f.output,f.imm,f.size,fun b c hn=>f.old b c fun h=>hn (d b h),fun b hn hn'=>(f.new b hn hn').imp (d b) id,fun b h=>?_⟩;rcases h with h | h | h
 .exact (c b h).imp .inl id
 .exact .inl (.inr (.inl h))
 .exact (g b h).1.imp (fun h=>.inr (.inr h)) id
def Sat.stay (d:Sat G E r S I F a W) (f:Fram O I W O' I' W') (g:∀ b,O b->¬ own S F b) (j:Holds G I' W') (i:∀ k,r=some k->∃ rec,W'.heap[k]? =some (.loop rec)):Sat G E r S I' F a W':=
 let ⟨h1,h2⟩:=f.stab d.e fun b c=>⟨(d.f b c).1,(d.f b c).2.1,fun h=>g b h (.inr (.inr c))⟩
 d.anew f.imm j (d.h.keep f fun b c h=>g b h (.inl c)) h1 (fun b c=>(f.old b (yv (d.dk b c)) fun h=>g b h (.inr (.inl c))).trans (d.dk b c)) i (fun b h=>h.imp id .inl) fun b c=>⟨(h2 b c).1,(h2 b c).2,(d.f b c).2.2.1⟩
def Sat.keep (b:Sat G E r S I F a W) (c:Ext I W I' W') (d:Holds G I' W'):Sat G E r S I' F a W':=
 b.stay c (fun _ h=>h.elim) d fun k hk=>let ⟨⟨rec,h⟩,_⟩:=b.l k hk;⟨rec,(c.old k (yv h) id).trans h⟩
def Sat.reH (c:Sat G E r S I F a W) (g:HoldsH h' I W) (d:∀ b,b∈bs h'->b∈bs S.h):Sat G E r {S with h:=h'} I F a W/\Fram (own S F) I W (own {S with h:=h'} F) I W:=
 c.move (i':=S.i) (Fram.refl (fun _=>False) I W) (fun _ h=>h.elim) c.m g c.e (fun b h=>.inl (d b h)) fun b hF=>⟨.inl hF,(c.f b hF).1,(c.f b hF).2.1,fun h=>(c.f b hF).2.2.1 (d b h)⟩
theorem Sat.put {d:Option Nat} (b:Sat G E r S I F a W) (j:s.den I v) (k:∀ t,d=some t->t<S.n):Sat G E r (S.set d s) I F (a.put d v) W:=by
  cases d with
  | none=>exact b
  | some t=>
    refine⟨?_,?_,b.m,b.h,b.d,b.dn,b.dk,b.e,b.f,b.l⟩
    . rw [zhf];exact b.n
    . intro i s' c
      simp only [St.set,look] at c
      split at c
      . rename_i e;cases c;rw [Ai e,bO (by rw [b.n];grind)];omega
      . rename_i e;rw [bG (fun h=>by simp_all)];exact b.g i s' c
def Xv (S:St) (d:Option Nat) (s:SV) (F:Nat->Prop):own (S.set d s) F=own S F:=by cases d <;> rfl
def Ext.own (h:Ext I W I' W') (O:Nat->Prop):Fram O I W O I' W':=h.weaken (fun _ h=>h.elim) (fun _ h=>.inr h)
def zO (gd:Nat->Option Nat) (g:List (Nat×SV)) (o:Oper) (b:Bool):Prop:=match o.guard with
 | none=>b=true
 | some (j,want)=>(∃d c,gd j=some d/\look d g=some (zp c)/\b=(c==want))\/∃ d,gd j=some d/\look d g=some (eqS undef)/\b=false
def gB {c b:Bool} (h:o.guard=some (j,w)) (hd:gd j=some d) (hl:look d g=some (zp c)) (hb:(c==w)=b):zO gd g o b:=by
 unfold zO;grind
def gU (h:o.guard=some (j,w)) (hd:gd j=some d) (hl:look d g=some (eqS undef)):zO gd g o false:=by
 unfold zO;grind
def aF (G:Imm) (E:aD) (r:Option Nat) (S S':St):Prop:=∀ I F a W,Sat G E r S I F a W->∃ I',Sat G E r S' I' F a W/\Fram (own S F) I W (own S' F) I' W
def aC.ghost {S:St} (h:aC S S'):aF G E r S S':=fun I F _ W a=>⟨I,h.sat a,by rw [h.own];exact Fram.refl _ _ _⟩
def zH (h:aF G E r S S') (ht:T P G E r c S' Q):T P G E r c S Q:=by
 intro n I F a W hs;obtain⟨I',hs',hf⟩:=h I F a W hs;exact wpIn_mono (ht n I' F a W hs') fun _ _ _ hp=>hp.from hf
def aF.reH {n:Nat} {h:HL} {d:List Nat} {i:Nat×Bool} (hh:∀ I W,HoldsH h I W->HoldsH h' I W) (hb:∀ b,b∈bs h'->b∈bs h):aF G E r ⟨n,g,h,d,i⟩ ⟨n,g,h',d,i⟩:=fun I _ _ W s=>
 ⟨I,s.reH (hh I W s.h) hb⟩
def ev (P:Program) (G:Imm) (E:aD) (o:Oper) (g:List (Nat×SV)) (i0:Nat×Bool) (Kx:SV->Nat×Bool->Prop):Prop:=
  ∀n r I F W a (next:Act->World->Prop) (Q:Exit->Act->World->Prop),Holds G I W->reads g I o a->E.ok i0 I F W->(∀b,F b->b<W.heap.size/\I b=none) ->
    (∀v I' F' W' s i',Kx s i'->Fram F I W F' I' W'->Holds G I' W'->E.ok i' I' F' W'->(∀b,F' b->b<W'.heap.size/\I' b=none)->s.den I' v->next (a.put o.dst v) W')->o.wpIn (Fr r) n P a W next Q
def Sat.env {S:St} {F':Nat->Prop} (d:Sat G E r S I F a W) (hf:Fram F I W F' I' W') (j:Holds G I' W') (k:E.ok i' I' F' W') (g:∀ b,F' b->b<W'.heap.size/\I' b=none):
 Sat G E r {S with i:=i'} I' F' a W'/\Fram (own S F) I W (own {S with i:=i'} F') I' W':=by
 have e:∀ c,c∈bs S.h->¬ F c:=fun c hc hF=>(d.f c hF).2.2.1 hc;exact d.move hf (fun _=>.inr) j (d.h.keep hf e) k (fun _=>.inl) fun b hb=>⟨hf.own b hb,(g b hb).1,(g b hb).2,fun h=>(hf.own b hb).elim (e b h) fun h1=>by have:=(d.h.lt h).1;omega⟩
inductive ae (P:Program) (G:Imm) (E:aD) (r:Option Nat) (gd:G4) (p:Bool):List Oper->St->(St->Prop)->Prop
 | nil {S:St} {K:St->Prop} (h:K S):ae P G E r gd p [] S K
 | ok {o:Oper} {ops:List Oper} {S:St} {K:St->Prop} {s:SV} (ho:OpOK P G S.h o S.g s) (hg:zO gd S.g o true) (hd:∀ t,o.dst=some t->t<S.n) (h:ae P G E r gd p ops (S.set o.dst s) K):ae P G E r gd p (o::ops) S K
 | okx {o:Oper} {ops:List Oper} {S:St} {K:St->Prop} {s:SV} (ho:ev P G E o S.g S.i (fun s' i'=>s'=s/\i'=S.i)) (hg:zO gd S.g o true) (hd:∀ t,o.dst=some t->t<S.n) (h:ae P G E r gd p ops (S.set o.dst s) K):ae P G E r gd p (o::ops) S K
 | skip {o:Oper} {ops:List Oper} {S:St} {K:St->Prop} (hg:zO gd S.g o false) (hd:∀ t,o.dst=some t->t<S.n) (h:ae P G E r gd p ops (S.set o.dst (eqS undef)) K):ae P G E r gd p (o::ops) S K
 | eff {o:Oper} {ops:List Oper} {S:St} {K:St->Prop} (K':St->Prop) (hp:p=false) (ho:ct P G E r o S K') (hg:zO gd S.g o true) (h:∀ S',K' S'->ae P G E r gd p ops S' K):ae P G E r gd p (o::ops) S K
 | ghost {ops:List Oper} {S:St} {K:St->Prop} (S':St) (hp:p=false) (hg:aF G E r S S') (h:ae P G E r gd p ops S' K):ae P G E r gd p ops S K
def OpOK.eff (h:OpOK P G S.h o S.g s) (i:∀ t,o.dst=some t->t<S.n):ct P G E r o S (fun S'=>S'=S.set o.dst s):=by
 intro n I F a W b Q c k;exact h n r I W a b Q c.m c.h (vT c o) fun v I' W' d f e=>k _ I' F _ W' ((c.keep d f).put e i) Z (by rw [Xv];exact d.own _)
def ev.still (h:ev P G E o S.g S.i (fun s' i'=>s'=s/\i'=S.i)) (l:∀ t,o.dst=some t->t<S.n):ct P G E r o S (fun S'=>S'=S.set o.dst s):=by
 intro n I F a W d Q c k;refine h n r I F W a d Q c.m (vT c o) c.e (fun b j=>⟨(c.f b j).1,(c.f b j).2.1⟩) fun v I' F' W' s' i' ⟨e1,e2⟩ hf hm' hE hF' hv=>?_;subst e1;subst e2;obtain⟨s1,p⟩:=c.env hf hm' hE hF';refine k _ I' F' _ W' (s1.put hv l) Z ?_;rw [Xv];omega
theorem mY {ops:Array Oper} (hgd:∀ j,gd j=(ops[j]?).bind (·.dst)) {b:Bool} (hv:∀ j w d s,o.guard=some (j,w)->gd j=some d->look d g=some s->s.den I (a.tmps.getD d undef)) (h:zO gd g o b):Region.wanted o (yielded ops a.tmps)=b:=by
 have y:∀ {j:Nat} {d:Nat} {x:Value},gd j=some d->a.tmps.getD d undef=x->yielded ops a.tmps j=match x with | .bool c=>some c | _=>none:=fun {j d x} hj hx=>by
  unfold yielded;rw [hgd] at hj
  subst hx;rw [hj,Array.getD_eq_getD_getElem?,Option.bind_some];generalize a.tmps[d]? =z;cases z with
  | none=>rfl
  | some v=>grind
 unfold zO at h
 unfold Region.wanted;cases e:o.guard with
 | none=>grind
 | some p=>
  obtain⟨j,w⟩:=p;rw [e] at h
  rcases h with ⟨d,c,hj,hl,rfl⟩ | ⟨d,hj,hl,rfl⟩
  . simp only [y hj (hv j w d _ e hj hl)];rfl
  . simp only [y hj (hv j w d _ e hj hl)];rfl
def Qr (r:Option Nat) (f:FuncId):(Fr r).fn f:=trivial
def gw (P:Program) (G:Imm) (E:aD) (r:Option Nat) (o:Oper) (S:St) (K:St->aD->Prop):Prop:=
  ∀n I F a W (next:Act->World->Prop) (Q:Exit->Act->World->Prop),Sat G E r S I F a W ->
    (∀S' E' I' F' a' W',Sat G E' r S' I' F' a' W'->K S' E'->Fram (own S F) I W (own S' F') I' W'->next a' W')->o.wpIn (Fr r) n P a W next Q
def eW (P:Program) (G:Imm) (E:aD) (r:Option Nat) (ops:Array Oper) (l:List Oper) (S:St) (K:St->aD->Prop):Prop:=
  ∀(k:Nat),(∀i,ops[k+i]? =l[i]?)->∀ (n:Nat) (Q:Exit->Act->World->Prop) (I:Imm) (F:Nat->Prop) (a:Act) (W:World),Sat G E r S I F a W ->
    (∀S' E' I' F' a' W',Sat G E' r S' I' F' a' W'->K S' E'->Fram (own S F) I W (own S' F') I' W'->Q .normal a' W')->wpOpsIn (Fr r) n P ops Q ((List.range l.length).map (k+ ·)) a W
def eW.step {k n:Nat} {Q:Exit->Act->World->Prop} (c:∀ i,b[k+i]? =(o::l)[i]?) (h:(∀i,b[k+1+i]? =l[i]?)->if Region.wanted o (yielded b a.tmps) then o.wpIn (Fr r) n P a W (wpOpsIn (Fr r) n P b Q ((List.range l.length).map (k+1+ ·))) Q else (∀f,o.about P W a.eval=some f->(Fr r).fn f)/\wpOpsIn (Fr r) n P b Q ((List.range l.length).map (k+1+ ·)) (a.put o.dst undef) W):wpOpsIn (Fr r) n P b Q ((List.range (o::l).length).map (k+ ·)) a W:=by
 rw [show (List.range (o::l).length).map (k+ ·)=k::(List.range l.length).map (k+1+ ·) by simp [Aq,An,Ao 1],wpOpsIn_cons];unfold wpOpIn;rw [show b[k]? =some o from c 0];exact h fun i=>by rw [An,Ao 1];simp_all
theorem eW.sw (i:∀ j,p j=(b[j]?).bind (·.dst)) {K K':St->aD->Prop} (t:gw P G E r o S K') (x:zO p S.g o true) (q:∀ S' E',K' S' E'->eW P G E' r b l S' K):eW P G E r b (o::l) S K:=by
 intro k u n Q I F a W m v;refine eW.step u fun e=>?_;rw [mY i (fun j w d s _ _ h=>m.g d s h) x,MX Z];exact t n I F a W _ Q m fun S' E' I' F' y W' c f hf=>q S' E' f (k+1) e n Q I' F' y W' c fun S'' E'' I'' F'' a'' W'' h1 h2 h3=>v S'' E'' I'' F'' a'' W'' h1 h2 (hf.trans h3)
def ct.sw (h:ct P G E r o S K):gw P G E r o S fun S' E'=>K S'/\E'=E:=fun n I F a W next Q hs k=>h n I F a W next Q hs fun S' I' F' a' W' h1 h2 h3=>k S' E I' F' a' W' h1 ⟨h2,Z⟩ h3
theorem nL {z:G4} {p:Bool} (m:Array Oper) (b:∀ j,z j=(m[j]?).bind (·.dst)) {S:St} (h:ae P G E r z p l S K):eW P G E r m l S fun S' E'=>K S'/\E'=E:=by
 induction h with
 | nil h=>exact fun k _ n Q I F a W i o=>o _ _ I F a W i ⟨h,Z⟩ (Fram.refl _ _ _)
 | ok ho hg hd _ ih=>exact eW.sw b (ho.eff hd).sw hg fun S' E' ⟨e,q⟩=>by grind
 | okx ho hg hd _ ih=>exact eW.sw b (ho.still hd).sw hg fun S' E' ⟨e,q⟩=>by grind
 | skip hg hd _ ih=>
  intro k x n Q I F a W i o;refine eW.step x fun v=>?_;rw [mY b (fun j w d s _ _ h=>i.g d s h) hg,MY B];exact⟨fun f _=>Qr r f,ih (k+1) v n Q I F _ W (i.put Z hd) fun S'' E'' I'' F'' c W'' h1 y t=>o S'' E'' I'' F'' c W'' h1 y (by rw [Xv] at t;exact t)⟩
 | eff K' hp ho hg _ ih=>exact eW.sw b ho.sw hg fun S' E' ⟨h,q⟩=>by grind
 | ghost S' hp hg _ ih=>
  intro k x n Q I F a W i o;obtain⟨I',u,hf⟩:=hg I F a W i;exact ih k x n Q I' F a W u fun S'' E'' I'' F'' c W'' h1 y t=>o S'' E'' I'' F'' c W'' h1 y (hf.trans t)
def xX (l:List Oper) (j:Nat):Option Nat:=(l[j]?).bind (·.dst)
def zJ (h:ae P G E r (xX l) false l S (fun S'=>Q .normal S')):T P G E r (.region d l.toArray false) S Q:=by
 intro n I F a W hs;refine wpIn_region ?_;have:=nL l.toArray (fun j=>by simp [xX]) h 0 (by simp) n (post G E r Q (own S F) I W) I F a W hs fun S' E' I' F' a' W' h1 ⟨h2,e⟩ h3=>⟨S',I',F',e▸h1,h2,h3⟩
 simp_all
def qE {y:Code} (h:ae P G E r (xX l) false l S (fun S'=>T P G E r y S' Q)):T P G E r (.seq (.region d l.toArray false) y) S Q:=
 zi (zJ h)
end Go.Sv
namespace Go.Sv
open Go Go.RowKit
variable {l:List Oper} {i j s:Nat} {o:Oper}
inductive bx (l:List Oper):Nat->Nat->Prop
 | one {j:Nat} {o:Oper} {e:Edge} (h:l[j]? =some o) (he:e∈o.after.toList) (hb:Region.binds .any e=true):bx l j e.on
 | step {j i:Nat} {o:Oper} {e:Edge} (h:l[j]? =some o) (he:e∈o.after.toList) (hb:Region.binds .any e=true) (k:bx l e.on i):bx l j i
def zqD (acc:G7) (o:Oper):Nat:=o.after.toList.foldl (fun s e=>if Region.binds .any e then s ||| 2^e.on ||| acc.getD e.on 0 else s) 0
def qF:G7->List Oper->G7
 | acc,[]=>acc
 | acc,o::l=>qF (acc++[zqD acc o]) l
def iS (l:List Oper):G7:=qF [] l
def zqE {c:List Edge} {b:G7} (h:(c.foldl (fun s e=>if Region.binds .any e then s ||| 2^e.on ||| b.getD e.on 0 else s) s).testBit i=true):
 s.testBit i=true\/∃ e∈c,Region.binds .any e=true/\(e.on=i\/(b.getD e.on 0).testBit i=true):=by
 induction c generalizing s with
 | nil=>grind
 | cons e c ih=>
  grind
theorem Um:∀ (rest:List Oper) (a:G7),(∀i,l[a.length+i]? =rest[i]?)->(∀j i,(a.getD j 0).testBit i=true->bx l j i)->∀ j i,((qF a rest).getD j 0).testBit i=true->bx l j i
  | [],a,_,h,j,i,b=>h j i b
  | o::rest,a,hl,h,j,i,b=>by
    refine Um rest (a++[zqD a o]) ?_ ?_ j i b
    . intro i;have:=hl (i+1);grind
    . intro j i b
      by_cases m:j<a.length
      . grind
      . by_cases d:j=a.length
        . subst d
          have k:l[a.length]? =some o:=by simpa using hl 0
          rw [Ay,Ae (Af _)] at b
          simp only [Az,List.getElem?_cons_zero,AA] at b
          rcases zqE b with h1 | ⟨e,g,c,f | f⟩
          . grind
          . subst f;exact .one k g c
          . exact .step k g c (h _ _ f)
        grind
def aY (h:((iS l).getD j 0).testBit i=true):bx l j i:=
 Um l [] B (by simp) j i h
def bx.listed {L:Nat->Prop} (h:bx l j i) (c:∀ j o,l[j]? =some o->L j->∀ e∈o.after.toList,Region.binds .any e=true->L e.on)
 (a:∀ o,l[j]? =some o->∀ e∈o.after.toList,Region.binds .any e=true->L e.on):L i:=by
 induction h with
 | one h he hb=>grind
 | step h he hb _ ih=>grind
def Ze (l:List Oper):Bool:=l.zipIdx.all fun (o,i)=>o.after.toList.all fun e=> !Region.binds .any e||e.on<i
def ui:List Oper->Bool
 | []=>true
 | o::l=>(match o.dst with | some d=>l.all fun p=>p.dst != some d | none=>true)&&ui l
def Zf (l:List Oper):Bool:=
 let ms:=iS l
 l.zipIdx.all fun (o,i)=>(o.looksAt l.toArray).all fun t=>l.zipIdx.all fun (p,j)=>p.dst != some t||i==j||(if j<i then (ms.getD i 0).testBit j else (ms.getD j 0).testBit i)
def Xl (l:List Oper) (N:Nat):Bool:=
 let ms:=iS l
 (List.range l.length).all fun j=>j<N||(List.range j).all fun i=>(ms.getD j 0).testBit i
def kO (l:List Oper) (N:Nat):Bool:=Ze l&&(ui l&&(Zf l&&Xl l N))
def Jw {α:Type} {l:List α} {f:α×Nat->Bool} (h:l.zipIdx.all f=true) {x:α} (hi:l[i]? =some x):f (x,i)=true:=by
 grind
def VG (h:Ze l=true) (hi:l[i]? =some o) {e:Edge} (a:e∈o.after.toList) (b:Region.binds .any e=true):e.on<i:=by
 have:=B9.1 (Jw h hi) e a;grind
def Ji:∀ {l:List Oper},ui l=true->∀ {i j:Nat} {o p:Oper} {d:Nat},l[i]? =some o->l[j]? =some p->o.dst=some d->p.dst=some d->i=j
 | [],_,i,_,o,_,_,hi,_,_,_=>by grind
 | q::l,h,i,j,o,p,d,hi,hj,ho,hp=>by
  simp only [ui,AD] at h
  have hq:∀ {k:Nat} {x:Oper},q.dst=some d->l[k]? =some x->x.dst=some d->False:=fun hq hk hx=>by
   grind
  cases i with
  | zero=>grind
  | succ i=>cases j with
   | zero=>grind
   | succ j=>simp at hi hj;exact MW _ (Ji h.2 hi hj ho hp)
def us (h:Zf l=true) {p:Oper} {t:Nat} (hi:l[i]? =some o) (ht:t∈o.looksAt l.toArray) (b:l[j]? =some p) (hp:p.dst=some t):
 i=j\/(j<i/\bx l i j)\/(i<j/\bx l j i):=by
 have h1:=Jw (B9.1 (Jw h hi) t ht) b;simp only [hp,bne_self_eq_false,AF,Av,MU] at h1
 rcases h1 with h1 | h1
 .omega
 .split at h1
  .rename_i a;exact .inr (.inl ⟨a,aY h1⟩)
  .by_cases c:i=j
   .omega
   .exact .inr (.inr ⟨C,aY h1⟩)
def zaL {N:Nat} (h:Xl l N=true) (a:j<l.length) (b:N<=j) (hi:i<j):bx l j i:=by
 have h1:=B9.1 h j (by grind);simp only [Av,decide_eq_true_eq] at h1
 rcases h1 with h1 | h1
 .omega
 .exact aY (B9.1 h1 i GM)
variable {P:Program} {G:Imm} {E:aD} {r:Option Nat} {S:St}
variable {l:List Oper} {L:Array Bool} {i j:Nat} {p:Bool} {o:Oper}
def wy:List Oper->(Nat->SV)->List (Nat×SV)->Nat->List (Nat×SV)
 | [],_,g,_=>g
 | _::_,_,g,0=>g
 | o::l,sv,g,k+1=>wy l (fun i=>sv (i+1)) (match o.dst with | some d=>(d,sv 0)::g | none=>g) k
def uj (l:List Oper) (sv:Nat->SV) (g:List (Nat×SV)):wy l sv g 0=g:=by cases l <;> rfl
theorem zhh:∀ {sv:Nat->SV} {g:List (Nat×SV)} {k t:Nat} {s:SV},look t (wy l sv g k)=some s ->
    (∃j o,j<k/\l[j]? =some o/\o.dst=some t/\s=sv j)\/(look t g=some s/\∀ j o,j<k->l[j]? =some o->o.dst≠some t):=by
  induction l with
  | nil=>intro sv g k t s h;exact .inr ⟨h,fun j o _ hj=>by grind⟩
  | cons o l ih=>
    intro sv g k t s h
    cases k with
    | zero=>exact .inr ⟨h,fun j o hj=>by omega⟩
    | succ k=>
      rcases ih h with ⟨j,p,hj,hp,hd,hs⟩ | ⟨hl,hn⟩
      . exact .inl ⟨j+1,p,by omega,by assumption,hd,hs⟩
      . cases hd:o.dst with
        | none=>
          grind
        | some d=>
          rw [hd] at hl
          simp only [look] at hl
          split at hl
          . rename_i e;cases hl;exact .inl ⟨0,o,by simp,rfl,by simp_all,rfl⟩
          . rename_i e
            refine .inr ⟨hl,fun j p hj hp=>?_⟩
            cases j with
            | zero=>simp at hp;subst hp;rw [hd];intro h';simp_all
            | succ j=>grind
def zx1 (P:Program) (G:Imm) (E:aD) (gd:Nat->Option Nat) (S:St) (g:List (Nat×SV)) (o:Oper) (s:SV):Prop:=
 (∀t,o.dst=some t->t<S.n)/\((OpOK P G S.h o g s/\zO gd g o true)\/(zO gd g o false/\s=eqS undef)\/(ev P G E o g S.i (fun s' i'=>s'=s/\i'=S.i)/\zO gd g o true))
def parts (P:Program) (G:Imm) (E:aD) (gd:G4) (l:List Oper) (S:St) (K:St->Prop):Prop:=
 ∃sv:Nat->SV,K {S with g:=wy l sv S.g l.length}/\∀ i o,l[i]? =some o->zx1 P G E gd S (wy l sv S.g i) o (sv i)
def zoe {b:G4} {S:St} {K:St->Prop} (h:ae P G E r b p l S K) (hp:p=true):parts P G E b l S K:=by
 have a:∀ {o:Oper} {l:List Oper} {S:St} {K:St->Prop} {s:SV},zx1 P G E b S S.g o s->parts P G E b l (S.set o.dst s) K->parts P G E b (o::l) S K:=fun {o l S K s} h0 ⟨sv,hK,hst⟩=>
  have e:S.set o.dst s={S with g:=match o.dst with | some d=>(d,s)::S.g | none=>S.g}:=by cases o.dst <;> rfl
  ⟨fun i=>match i with | 0=>s | i+1=>sv i,by rw [e] at hK;exact hK,fun i p hi=>by
   cases i with
   | zero=>cases hi;exact h0
   | succ i=>have:=hst i p hi;rw [e] at this;exact this⟩
 induction h with
 | nil h=>exact⟨fun _=>zCr,h,fun i o hi=>by grind⟩
 | ok ho hg hd _ ih=>exact a ⟨hd,.inl ⟨ho,hg⟩⟩ ih
 | okx ho hg hd _ ih=>exact a ⟨hd,.inr (.inr ⟨ho,hg⟩)⟩ ih
 | skip hg hd _ ih=>exact a ⟨hd,.inr (.inl ⟨hg,Z⟩)⟩ ih
 | eff K' hp'=>grind
 | ghost S' hp'=>grind
def Ld (L:Array Bool) (j:Nat):Prop:=L.getD j false=true
def YA (hi:i<L.size):Ld (L.setIfInBounds i true) j↔j=i\/Ld L j:=by
 unfold Ld;simp only [Ak];grind
def vZ (j:L.size=l.length):i∈Region.ready .any l.toArray L↔∃ o,l[i]? =some o/\¬ Ld L i/\∀ e∈o.after.toList,Region.binds .any e=true->Ld L e.on:=by
 unfold Region.ready;rw [AG];constructor
 .rintro⟨h1,f⟩;simp only [AH,AI] at h1
  simp only [AD,Bool.not_eq_eq_eq_not,Bool.not_true] at f
  refine⟨l[i],by simp,?_,?_⟩
  .unfold Ld;grind
  .intro e d a;have:=f.2;simp only [AK,AL h1,AM,AA,Array.all_eq_true'] at this;have:=this e (by grind)
   simpa [a,Ld] using this
 .rintro⟨o,g,b,d⟩;have h1:i<l.length:=by rcases Ab i l.length with h | h;exact h;simp [Ac h] at g
  refine⟨by grind,?_⟩;simp only [AD,Bool.not_eq_eq_eq_not,Bool.not_true];refine⟨?_,?_⟩
  .unfold Ld at b;grind
  .simp only [AK,g,AM,AA,Array.all_eq_true'];intro e c;by_cases a:Region.binds .any e=true
   .have:=d e (by grind) a;unfold Ld at this;grind
   grind
def yJ {α:Type} {l:List α} {x:α} (h:l[i]? =some x):i<l.length:=by
 grind
def Vf {N:Nat} (b:Xl l N=true) (f:Ze l=true) {k:Nat} (u:N<=k) (t:L.size=l.length) (a:∀ j,j<l.length->(Ld L j↔j<k))
 (hi:i∈Region.ready .any l.toArray L):i=k/\k<l.length:=by
 obtain⟨o,m,n,g⟩:=(vZ t).1 hi;have c:=yJ m;have q:k<=i:=by
  rcases Ab i k with h | h
  .grind
  .omega
 by_cases e:i=k
 .omega
 .have r:∀ j o,l[j]? =some o->Ld L j->∀ e∈o.after.toList,Region.binds .any e=true->Ld L e.on:=by
   intro j o d p e g s;have h1:=VG f d g s;have v:=(a j (yJ d)).1 p;exact (a e.on (by omega)).2 (by omega)
  have:=(zaL b c (by omega) (C:k<i)).listed (L:=Ld L) r (fun o' ho'=>by grind);grind
def zjM (c:Ze l=true) {k:Nat} (d:L.size=l.length) (a:∀ j,j<l.length->(Ld L j↔j<k)) (b:k<l.length):k∈Region.ready .any l.toArray L:=by
 refine (vZ d).2 ⟨l[k],by simp,fun h=>?_,fun e he hb=>?_⟩
 .grind
 .have:=VG c (show l[k]? =some l[k] by simp) he hb;grind
def Ord (l:List Oper):G7->Array Bool->Prop
 | [],L=>Region.ready .any l.toArray L=[]
 | i::π,L=>i∈Region.ready .any l.toArray L/\Ord l π (L.setIfInBounds i true)
def zp8 {N:Nat} (a:Xl l N=true) (b:Ze l=true):∀ {π:G7} {k:Nat} {L:Array Bool},N<=k->k<=l.length->L.size=l.length->(∀j,j<l.length->(Ld L j↔j<k))->Ord l π L->π=(List.range (l.length-k)).map (k+ ·)
 | [],k,L,hN,hk,hL,hLd,h=>by
  rw [show l.length-k=0 from Nat.eq_zero_of_not_pos fun d=>by have:=zjM b hL hLd (by omega);rw [h] at this;grind];rfl
 | i::π,k,L,hN,hk,hL,hLd,h=>by
  obtain⟨rfl,c⟩:=Vf a b hN hL hLd h.1;have:=zp8 a b (D5 hN) c (by grind) (fun j hj=>by rw [YA (by omega),hLd j hj];omega) h.2;rw [this,(C:l.length-i=l.length-(i+1)+1),Aq,Ar,As];congr 1;exact Bk fun j _=>by grind
structure Mid (G:Imm) (E:aD) (r:Option Nat) (l:List Oper) (N:Nat) (sv:Nat->SV) (S:St) (L:Array Bool) (I:Imm) (F:Nat->Prop) (a:Act) (W:World):Prop where
 size:L.size=l.length
 sat:Sat G E r {S with g:=[]} I F a W
 old:∀ t s,look t S.g=some s->(∀j o,l[j]? =some o->o.dst=some t->¬ Ld L j)->s.den I (a.tmps.getD t undef)
 new:∀ j o d,l[j]? =some o->Ld L j->o.dst=some d->(sv j).den I (a.tmps.getD d undef)
 low:∀ j,Ld L j->j<N
 closed:∀ j o,l[j]? =some o->Ld L j->∀ e∈o.after.toList,Region.binds .any e=true->Ld L e.on
def ZI {t:Nat} (h:Operand.tmp t∈o.op.operands.toList):t∈o.looksAt l.toArray:=by
 unfold Oper.looksAt;grind
def Jj {d:Nat} {b:Bool} (a:o.guard=some (j,b)) (c:(l.toArray[j]?).bind (·.dst)=some d):d∈o.looksAt l.toArray:=by
 unfold Oper.looksAt;grind
section mid
variable {l:List Oper} {N:Nat} {sv:Nat->SV} {L:Array Bool} {I:Imm} {F:Nat->Prop} {a:Act} {W:World}
def Mid.slot (f:Mid G E r l N sv S L I F a W) (c:Zf l=true) {i:Nat} {o:Oper} (hi:l[i]? =some o) (q:¬ Ld L i)
 (d:∀ e∈o.after.toList,Region.binds .any e=true->Ld L e.on) {t:Nat} (ht:t∈o.looksAt l.toArray) {s:SV} (u:look t (wy l sv S.g i)=some s):s.den I (a.tmps.getD t undef):=by
 rcases zhh u with ⟨j,p,n,hp,k,rfl⟩ | ⟨w,m⟩
 .refine f.new j p t hp ?_ k;rcases us c hi ht hp k with h1 | ⟨_,h1⟩ | ⟨h1,_⟩
  .omega
  .exact h1.listed (L:=Ld L) f.closed fun o' b=>by grind
  omega
 .refine f.old t s w fun j p hp k n=>?_;have v:=Nat.le_of_not_lt fun h=>m j p h hp k;rcases us c hi ht hp k with h1 | ⟨h1,_⟩ | ⟨_,h1⟩
  .grind
  .omega
  .exact q (h1.listed f.closed fun o' b=>f.closed j o' b n)
def Mid.step (q:Mid G E r l N sv S L I F a W) (z:ui l=true) {i:Nat} {o:Oper} (hi:l[i]? =some o) (H:i<N) (x:∀ t,o.dst=some t->t<S.n)
 (u:∀ e∈o.after.toList,Region.binds .any e=true->Ld L e.on) {v:Value} (A:(sv i).den I v):
 Mid G E r l N sv S (L.setIfInBounds i true) I F (a.put o.dst v) W:=by
 have y:=q.sat;have b:∀ {j},Ld (L.setIfInBounds i true) j↔j=i\/Ld L j:=YA (by rw [q.size];grind);have c:∀ {t},o.dst≠some t->(a.put o.dst v).tmps.getD t undef=a.tmps.getD t undef:=fun {t} h=>by
  cases m:o.dst with
  | none=>rfl
  | some d=>exact bG fun e=>h (by grind)
 refine⟨by simpa using q.size,{y with n:=by rw [zhf];exact y.n,g:=fun t s h=>(by cases h),d:=by cases m:o.dst <;> simp [Act.put,y.d]},fun t s D w=>?_,fun j p d hp f m=>?_,fun j f=>(b.1 f).elim (fun e=>by omega) (q.low j),fun j p hp f e he hb=>b.2 (.inr ?_)⟩
 .rw [c fun h=>w i o hi h (b.2 (.inl rfl))];exact q.old t s D fun j p hp m f=>w j p hp m (b.2 (.inr f))
 .by_cases k:o.dst=some d
  .cases Ji z hi hp k m
   rw [k,bO (by rw [y.n];grind)];omega
  .rcases b.1 f with rfl | f
   .grind
   .rw [c k];exact q.new j p d hp f m
 .rcases b.1 f with rfl | f
  .grind
  .exact q.closed j p hp f e he hb
def Mid.done (c:Mid G E r l N sv S L I F a W) (b:∀ j,j<N->Ld L j):Sat G E r {S with g:=wy l sv S.g N} I F a W:=by
 refine {c.sat with g:=fun t s h=>?_};rcases zhh h with ⟨j,p,e,hp,f,rfl⟩ | ⟨i,d⟩
 .exact c.new j p t hp (b j e) f
 .exact c.old t s i fun j p hp f e=>d j p (c.low j e) hp f
end mid
class bi (P:Program):Prop where
 h:P.follows .mixedOrders=true
end Go.Sv
namespace Go.Sv
abbrev Ha:=List (Nat×SV)
abbrev Hb:=Exit->St->Prop
abbrev G8:SV:=eqS (.slice none 0 0)
abbrev G9 (b:Nat):SV:=eqS (.pointer (some ⟨b,0,none⟩))
end Go.Sv
namespace Go.Sv
abbrev MK (z:Int):SV:=ze .i64 z
abbrev ML (z:Nat):SV:=ze .i64 (z:Int)
end Go.Sv
