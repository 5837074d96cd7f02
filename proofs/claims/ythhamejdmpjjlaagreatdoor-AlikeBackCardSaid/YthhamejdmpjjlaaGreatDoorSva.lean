/- The ground of a small program logic over the kit's calculus: facts about values (SV), the ghost map of immutable blocks, owned blocks, how one state may follow another. Nothing here speaks of a program. -/
import Derived.WalkKit
import Derived.OrdersIn
import Derived.RangeFuncNested
import Derived.RangeFuncLeaves
namespace Go.Sv
open Go Go.RowKit
def Imm:=Nat→Option (Array Value)
def Imm.le (I J:Imm):Prop:=∀ b c,I b=some c→J b=some c
theorem Imm.le_refl (I:Imm):I.le I:=fun _ _ h=>h
theorem Imm.le_trans {I J K:Imm} (h:I.le J) (k:J.le K):I.le K:=fun b c e=>k b c (h b c e)
structure SV where
 den:Imm→Value→Prop
 mono:∀ I J v,Imm.le I J→den I v→den J v
def eqS (x:Value):SV:=⟨fun _ v=>v=x,fun _ _ _ _ h=>h⟩
abbrev intS (k:IntKind) (n:Int):SV:=eqS (.int k n)
abbrev zm (b:Bool):SV:=eqS (.bool b)
def zbh:SV:=⟨fun _ v=>∃ b,v= .bool b,fun _ _ _ _ h=>h⟩
def zq7:SV:=⟨fun _ _=>True,fun _ _ _ _ h=>h⟩
def cellsAt (I:Imm) (b o:Nat) (cs:List SV):Prop:=
 ∃c,I b=some c∧∀ i s,cs[i]? =some s→∃ x,c[o+i]? =some x∧s.den I x∧x.oneCell'=true
theorem cellsAt.mono {I J:Imm} {b o:Nat} {cs:List SV} (hl:I.le J) (h:cellsAt I b o cs):cellsAt J b o cs:=by
 obtain⟨c,hc,h⟩:=h
 exact⟨c,hl _ _ hc,fun i s hi=>by obtain⟨x,hx,hd,h1⟩:=h i s hi;exact⟨x,hx,s.mono _ _ _ hl hd,h1⟩⟩
def zT (cs:List SV):SV:=
 ⟨fun I v=>∃ b o,v= .pointer (some ⟨b,o,none⟩)∧cellsAt I b o cs,
  fun _ _ _ hl ⟨b,o,hv,h⟩=>⟨b,o,hv,h.mono hl⟩⟩
def dens (I:Imm) (cs:List SV) (xs:List Value):Prop:=xs.length=cs.length∧∀ (i:Nat) s x,cs[i]? =some s→xs[i]? =some x→s.den I x
theorem dens.mono {I J:Imm} {cs:List SV} {xs:List Value} (hl:I.le J) (h:dens I cs xs):dens J cs xs:=
 ⟨h.1,fun i s x hi hx=>s.mono _ _ _ hl (h.2 i s x hi hx)⟩
theorem dens_nil {I:Imm}:dens I [] []:=⟨rfl,fun i s x h=>by simp at h⟩
theorem zW {I:Imm} {s:SV} {cs:List SV} {x:Value} {xs:List Value} (h:s.den I x) (k:dens I cs xs):dens I (s::cs) (x::xs):=by
 refine⟨by simp [k.1],fun i s' x' hi hx=>?_⟩
 cases i with
 | zero=>simp at hi hx;subst hi;subst hx;exact h
 | succ i=>simp at hi hx;exact k.2 i s' x' hi hx
theorem xW {I:Imm} {s:SV} {cs:List SV} {xs:List Value} (h:dens I (s::cs) xs):∃ x r,xs=x::r∧s.den I x∧dens I cs r:=by
 cases xs with
 | nil=>exact absurd h.1 (by simp)
 | cons x r=>exact⟨x,r,rfl,h.2 0 s x rfl rfl,by simpa using h.1,fun i s' x' hi hx=>h.2 (i+1) s' x' (by simpa using hi) (by simpa using hx)⟩
theorem dens_nil_inv {I:Imm} {xs:List Value} (h:dens I [] xs):xs=[]:=List.eq_nil_of_length_eq_zero (by simpa using h.1)
theorem dens.get {I:Imm} {cs:List SV} {xs:List Value} (h:dens I cs xs) {i:Nat} {s:SV} (hi:cs[i]? =some s):∃ x,xs[i]? =some x∧s.den I x:=by
 have hlt:i<cs.length:=by rcases Nat.lt_or_ge i cs.length with h | h;exact h;simp [List.getElem?_eq_none h] at hi
 have hlt':i<xs.length:=by rw [h.1];exact hlt
 exact⟨xs[i],by simp [hlt'],h.2 i s _ hi (by simp [hlt'])⟩
theorem dens.append {I:Imm} {cs ds:List SV} {xs ys:List Value} (h:dens I cs xs) (k:dens I ds ys):dens I (cs++ds) (xs++ys):=by
 refine⟨by simp [h.1,k.1],fun i s x hi hx=>?_⟩
 by_cases hc:i<cs.length
 ·rw [List.getElem?_append_left hc] at hi
  rw [List.getElem?_append_left (by rw [h.1];exact hc)] at hx
  exact h.2 i s x hi hx
 ·rw [List.getElem?_append_right (by omega)] at hi
  rw [List.getElem?_append_right (by rw [h.1];omega),h.1] at hx
  exact k.2 _ s x hi hx
def xF (c:List Value):Prop:=∀ x∈c,x.oneCell'=true
def zl (cs:List SV):SV:=
 ⟨fun I v=>∃ xs:List Value,v= .agg xs.toArray∧dens I cs xs∧xF xs,
  fun _ _ _ hl ⟨xs,hv,h,h1⟩=>⟨xs,hv,h.mono hl,h1⟩⟩
def xn (cs:List SV):SV:=
 ⟨fun I v=>∃ xs:List Value,v= .tuple xs.toArray∧dens I cs xs,fun _ _ _ hl ⟨xs,hv,h⟩=>⟨xs,hv,h.mono hl⟩⟩
def wp (f:FuncId) (caps:List SV):SV:=
 ⟨fun I v=>∃ xs:List Value,v= .func (.func f) #[] xs.toArray∧dens I caps xs,fun _ _ _ hl ⟨xs,hv,h⟩=>⟨xs,hv,h.mono hl⟩⟩
def yP:Nat:=140737488355328
def zU {α:Type} (st:Nat) (f:α→List SV) (l:List α):SV:=
 ⟨fun I v=>∃ a cap,v= .slice a l.length cap∧l.length≤cap∧l.length≤yP∧(l=[]∨∃ b o,a=some ⟨b,o,none⟩∧∀ i x,l[i]? =some x→cellsAt I b (o+i*st) (f x)),
  fun _ _ _ hl ⟨a,cap,hv,h1,h2,h3⟩=>⟨a,cap,hv,h1,h2,h3.imp id fun⟨b,o,ha,h⟩=>⟨b,o,ha,fun i x hx=>(h i x hx).mono hl⟩⟩⟩
def SV.One (s:SV):Prop:=∀ I v,s.den I v→v.oneCell'=true
theorem Zg {x:Value} (h:x.oneCell'=true):(eqS x).One:=fun _ v hv=>by rw [show v=x from hv];exact h
theorem zjZ {cs:List SV}:(zT cs).One:=fun _ _ ⟨_,_,hv,_⟩=>by subst hv;rfl
theorem Xd {α:Type} {st:Nat} {f:α→List SV} {l:List α}:(zU st f l).One:=fun _ _ ⟨_,_,hv,_⟩=>by subst hv;rfl
theorem zmA {f:FuncId} {cs:List SV}:(wp f cs).One:=fun _ _ ⟨_,hv,_⟩=>by subst hv;rfl
theorem zcB:zbh.One:=fun _ _ ⟨_,hv⟩=>by subst hv;rfl
inductive Flat:SV→List SV→Prop
 | one {s:SV} (h:s.One):Flat s [s]
 | agg {cs:List SV}:Flat (zl cs) cs
theorem Flat.cells {s:SV} {cs:List SV} (h:Flat s cs) {I:Imm} {v:Value} (hv:s.den I v):dens I cs v.cells.toList∧xF v.cells.toList:=by
  cases h with
  | one h1=>
    have h2:=h1 I v hv
    cases v <;> simp [Value.oneCell'] at h2 <;> exact⟨zW hv dens_nil,by intro x hx;simp [Value.cells] at hx;subst hx;rfl⟩
  | agg=>obtain⟨xs,rfl,hd,h1⟩:=hv;exact⟨by simpa [Value.cells] using hd,by simpa [Value.cells] using h1⟩
/-! ### Worlds -/
structure Holds (G I:Imm) (W:World):Prop where
 glob:G.le I
 mem:∀ b c,I b=some c→∃ e f,W.heap[b]? =some (.cells c e f)
structure HE where
 b:Option Nat
 e:TypeId
 cs:List SV
 rest:Nat
abbrev HL:=List HE
def bs (H:HL):List Nat:=H.filterMap (·.b)
def blockIs (I:Imm) (W:World) (b:Nat) (e:TypeId) (cs:List SV) (rest:Nat):Prop:=
 I b=none∧∃ c,W.heap[b]? =some (.cells c e (0,0))∧c.size=cs.length+rest∧xF (c.toList.take cs.length)∧dens I cs (c.toList.take cs.length)
def entIs (I:Imm) (W:World) (p:HE):Prop:=match p.b with
 | none=>p.cs=[]
 | some b=>blockIs I W b p.e p.cs p.rest
structure HoldsH (H:HL) (I:Imm) (W:World):Prop where
 nodup:(bs H).Nodup
 mem:∀ p∈H,entIs I W p
theorem JP {H:HL} {p:HE} {b:Nat} (hp:p∈H) (hb:p.b=some b):b∈bs H:=List.mem_filterMap.2 ⟨p,hp,hb⟩
theorem UV {H:HL} {b:Nat} (h:b∈bs H):∃ p∈H,p.b=some b:=by simpa [bs] using h
structure Fram (O:Nat→Prop) (I:Imm) (W:World) (O':Nat→Prop) (I':Imm) (W':World):Prop where
 os:W'.os=W.os
 tape:W'.tape=W.tape
 output:W'.output=W.output
 imm:I.le I'
 size:W.heap.size≤W'.heap.size
 old:∀ b,b<W.heap.size→¬ O b→W'.heap[b]? =W.heap[b]?
 new:∀ b,I b=none→I' b≠none→O b∨W.heap.size≤b
 own:∀ b,O' b→O b∨W.heap.size≤b
theorem Fram.refl (O:Nat→Prop) (I:Imm) (W:World):Fram O I W O I W:=
 ⟨rfl,rfl,rfl,Imm.le_refl I,Nat.le_refl _,fun _ _ _=>rfl,fun _ h h'=>absurd h h',fun _ h=>.inl h⟩
theorem Fram.trans {O O' O'':Nat→Prop} {I I' I'':Imm} {W W' W'':World} (h:Fram O I W O' I' W') (k:Fram O' I' W' O'' I'' W''):Fram O I W O'' I'' W'' where
  os:=k.os.trans h.os
  tape:=k.tape.trans h.tape
  output:=k.output.trans h.output
  imm:=Imm.le_trans h.imm k.imm
  size:=Nat.le_trans h.size k.size
  old:=fun b hb ho=>by
    rw [k.old b (Nat.lt_of_lt_of_le hb h.size) (fun h'=>by rcases h.own b h' with h1 | h1;exact ho h1;omega)]
    exact h.old b hb ho
  new:=fun b hn hn'=>by
    cases hI:I' b with
    | none => rcases k.new b hI hn' with h1 | h1
              · exact h.own b h1
              · exact .inr (Nat.le_trans h.size h1)
    | some c=>exact h.new b hn (by simp [hI])
  own:=fun b hb=>by
    rcases k.own b hb with h1 | h1
    · exact h.own b h1
    · exact .inr (Nat.le_trans h.size h1)
theorem Fram.weaken {O O₁ O' O₁':Nat→Prop} {I I':Imm} {W W':World} (h:Fram O I W O' I' W') (ho:∀ b,O b→O₁ b) (ho':∀ b,O₁' b→O' b∨O₁ b):Fram O₁ I W O₁' I' W':=
 ⟨h.os,h.tape,h.output,h.imm,h.size,fun b hb hn=>h.old b hb (fun h'=>hn (ho b h')),fun b hn hn'=>(h.new b hn hn').imp (ho b) id,fun b hb=>by
  rcases ho' b hb with h1 | h1
  ·exact (h.own b h1).imp (ho b) id
  ·exact .inl h1⟩
abbrev Ext (I:Imm) (W:World) (I':Imm) (W':World):Prop:=Fram (fun _=>False) I W (fun _=>False) I' W'
theorem Ext.old' {I I':Imm} {W W':World} (h:Ext I W I' W') {b:Nat} (hb:b<W.heap.size):W'.heap[b]? =W.heap[b]? :=h.old b hb (fun h=>h)
theorem Ext.new' {I I':Imm} {W W':World} (h:Ext I W I' W') {b:Nat} (hn:I b=none) (hb:b<W.heap.size):I' b=none:=by
 cases hI:I' b with
 | none=>rfl
 | some c=>rcases h.new b hn (by simp [hI]) with h1 | h1;exact h1.elim;omega
theorem yp {W:World} {b:Nat} {o:Obj} (h:W.heap[b]? =some o):b<W.heap.size:=(Array.getElem?_eq_some_iff.1 h).1
theorem blockIs.lt {I:Imm} {W:World} {b e k:Nat} {cs:List SV} (h:blockIs I W b e cs k):b<W.heap.size:=by obtain⟨_,c,h,_⟩:=h;exact yp h
theorem blockIs.keep {I I':Imm} {W W':World} {b e k:Nat} {cs:List SV} (h:blockIs I W b e cs k) (hi:I.le I') (hn:I' b=none) (hw:W'.heap[b]? =W.heap[b]?):blockIs I' W' b e cs k:=by
 obtain⟨_,c,hc,hs,h1,hd⟩:=h
 exact⟨hn,c,hw.trans hc,hs,h1,hd.mono hi⟩
theorem entIs.some {I:Imm} {W:World} {p:HE} {b:Nat} (h:entIs I W p) (hb:p.b= .some b):blockIs I W b p.e p.cs p.rest:=by unfold entIs at h;rw [hb] at h;exact h
theorem entIs.of_some {I:Imm} {W:World} {p:HE} {b:Nat} (hb:p.b= .some b) (h:blockIs I W b p.e p.cs p.rest):entIs I W p:=by unfold entIs;rw [hb];exact h
theorem entIs.of_none {I:Imm} {W:World} {p:HE} (hb:p.b=none) (h:p.cs=[]):entIs I W p:=by unfold entIs;rw [hb];exact h
theorem entIs.none {I:Imm} {W:World} {p:HE} (h:entIs I W p) (hb:p.b=none):p.cs=[]:=by unfold entIs at h;rw [hb] at h;exact h
theorem HoldsH.lt {H:HL} {I:Imm} {W:World} (h:HoldsH H I W) {b:Nat} (hb:b∈bs H):b<W.heap.size∧I b=none:=by
 obtain⟨p,hp,he⟩:=UV hb
 have:=(h.mem p hp).some he
 exact⟨this.lt,this.1⟩
theorem HoldsH.keep {H:HL} {O O':Nat→Prop} {I I':Imm} {W W':World} (h:HoldsH H I W) (f:Fram O I W O' I' W') (ho:∀ b∈bs H,¬O b):HoldsH H I' W':=by
  refine⟨h.nodup,fun p hp=>?_⟩
  cases hb:p.b with
  | none=>exact .of_none hb ((h.mem p hp).none hb)
  | some b=>
    have hm:=(h.mem p hp).some hb
    have hbb:=JP hp hb
    refine .of_some hb (hm.keep f.imm ?_ (f.old _ hm.lt (ho _ hbb)))
    cases hI:I' b with
    | none=>rfl
    | some c => rcases f.new _ hm.1 (by simp [hI]) with h1 | h1
                · exact absurd h1 (ho _ hbb)
                · have:=hm.lt;omega
/-! ### The three ways in which an operation makes the next world -/
theorem xB (w:World) (o:Obj) {k:Nat} (h:k<w.heap.size):(w.alloc o).heap[k]? =w.heap[k]? :=Below.heap_alloc w o k h
theorem alloc_heap_at (w:World) (o:Obj):(w.alloc o).heap[w.heap.size]? =some o:=World.alloc_heap_new w o
def Imm.with (I:Imm) (b:Nat) (c:Array Value):Imm:=fun k=>if k=b then some c else I k
theorem Imm.with_le {I:Imm} {b:Nat} {c:Array Value} (h:I b=none):I.le (I.with b c):=fun k d hk=>by
 unfold Imm.with
 split
 ·rename_i e;subst e;rw [h] at hk;cases hk
 ·exact hk
theorem Holds.none_new {G I:Imm} {W:World} (h:Holds G I W):I W.heap.size=none:=by
 cases hI:I W.heap.size with
 | none=>rfl
 | some c=>obtain⟨e,f,hc⟩:=h.mem _ _ hI;exact absurd (yp hc) (by omega)
theorem zhN {G I:Imm} {W:World} (h:Holds G I W) {c:Array Value} {e:TypeId}:
  Holds G (I.with W.heap.size c) (W.alloc (.cells c e))∧Ext I W (I.with W.heap.size c) (W.alloc (.cells c e)):=by
 have hn:=h.none_new
 have hle:I.le (I.with W.heap.size c):=Imm.with_le hn
 refine⟨⟨Imm.le_trans h.glob hle,fun b d hb=>?_⟩,⟨rfl,rfl,rfl,hle,by simp,fun b hb _=>xB _ _ hb,fun b hb hb'=>?_,fun b hb=>hb.elim⟩⟩
 ·unfold Imm.with at hb
  split at hb
  ·rename_i e';subst e';cases hb;exact⟨e,(0,0),alloc_heap_at _ _⟩
  ·obtain⟨e',f,hc⟩:=h.mem _ _ hb
   exact⟨e',f,(xB _ _ (yp hc)).trans hc⟩
 ·unfold Imm.with at hb'
  split at hb'
  ·rename_i e';subst e';exact .inr (Nat.le_refl _)
  ·exact absurd hb hb'
theorem uW {G I:Imm} {W:World} (h:Holds G I W) (o:Obj) (O:Nat→Prop):Holds G I (W.alloc o)∧Fram O I W (fun b=>O b∨b=W.heap.size) I (W.alloc o):=by
 refine⟨⟨h.glob,fun b d hb=>?_⟩,⟨rfl,rfl,rfl,Imm.le_refl _,by simp,fun b hb _=>xB _ _ hb,fun b hb hb'=>absurd hb hb',fun b hb=>hb.imp id (fun e=>by omega)⟩⟩
 obtain⟨e',f,hc⟩:=h.mem _ _ hb
 exact⟨e',f,(xB _ _ (yp hc)).trans hc⟩
theorem zhO {G I:Imm} {W:World} (h:Holds G I W) (n:Nat):Holds G I {W with drawn:=n}∧Ext I W I {W with drawn:=n}:=
 ⟨⟨h.glob,h.mem⟩,⟨rfl,rfl,rfl,Imm.le_refl _,Nat.le_refl _,fun _ _ _=>rfl,fun _ h h'=>absurd h h',fun _ h=>h.elim⟩⟩
theorem uO {G I:Imm} {W W':World} (h:Holds G I W) {b:Nat} (hb:I b=none) (hos:W'.os=W.os) (ht:W'.tape=W.tape) (ho:W'.output=W.output) (hs:W'.heap.size=W.heap.size)
  (hk:∀ k,k≠b→W'.heap[k]? =W.heap[k]?):Holds G I W'∧Fram (fun k=>k=b) I W (fun k=>k=b) I W':=by
 refine⟨⟨h.glob,fun k d hd=>?_⟩,⟨hos,ht,ho,Imm.le_refl _,by omega,fun k _ hk'=>hk k hk',fun b hb hb'=>absurd hb hb',fun k hk'=>.inl hk'⟩⟩
 obtain⟨e',f,hc⟩:=h.mem _ _ hd
 exact⟨e',f,(hk k (fun e=>by subst e;rw [hb] at hd;cases hd)).trans hc⟩
end Go.Sv
/- States of the logic, what it is for code to lead from one to others (T), and the rules for the forms of code but for regions and ranges over functions. -/
namespace Go.Sv
open Go Go.RowKit
def look (t:Nat):List (Nat×SV)→Option SV
  | []=>none
  | (k,s)::r=>match Nat.beq t k with
    | true=>some s
    | false=>look t r
structure St where
 n:Nat
 g:List (Nat×SV)
 h:HL
 d:List Nat
 i:Nat×Bool
def zj0 (b:Nat):Deferred:={target:=.collected b,args:= #[]}
structure Env where
 ok:Nat×Bool→Imm→(Nat→Prop)→World→Prop
 stab:∀ i I F W I' W',ok i I F W→I.le I'→W'.os=W.os→W'.tape=W.tape→W'.output=W.output→W.heap.size≤W'.heap.size→(∀b,F b→W'.heap[b]? =W.heap[b]?)→(∀b,F b→I' b=none)→ok i I' F W'
def own (S:St) (F:Nat→Prop) (b:Nat):Prop:=b∈bs S.h∨b∈S.d∨F b
structure Sat (G:Imm) (E:Env) (r:Option Nat) (S:St) (I:Imm) (F:Nat→Prop) (a:Act) (W:World):Prop where
 n:a.tmps.size=S.n
 g:∀ t s,look t S.g=some s→s.den I (a.tmps.getD t undef)
 m:Holds G I W
 h:HoldsH S.h I W
 d:a.defers=S.d.map zj0
 dn:S.d.Nodup
 dk:∀ b∈S.d,W.heap[b]? =some (.deferred (some []))
 e:E.ok S.i I F W
 f:∀ b,F b→b<W.heap.size∧I b=none∧b∉bs S.h∧b∉S.d
 l:∀ k,r=some k→(∃rec,W.heap[k]? =some (.loop rec))∧¬ own S F k
def Fr (r:Option Nat):Fence:={Fence.wide with round:=r}
theorem zmB:Fr none=Fence.wide:=rfl
def post (G:Imm) (E:Env) (r:Option Nat) (Q:Exit→St→Prop) (O:Nat→Prop) (I:Imm) (W:World) (e:Exit) (a':Act) (W':World):Prop:=
 ∃S' I' F',Sat G E r S' I' F' a' W'∧Q e S'∧Fram O I W (own S' F') I' W'
def T (P:Program) (G:Imm) (E:Env) (r:Option Nat) (c:Code) (S:St) (Q:Exit→St→Prop):Prop:=
 ∀n I F a W,Sat G E r S I F a W→c.wpIn (Fr r) n P (post G E r Q (own S F) I W) a W
variable {P:Program} {G:Imm} {E:Env} {r:Option Nat} {Q:Exit→St→Prop} {S:St}
theorem post.from {Q:Exit→St→Prop} {O O':Nat→Prop} {I I':Imm} {W W':World} (f:Fram O I W O' I' W') {e:Exit} {a:Act} {W'':World}
  (h:post G E r Q O' I' W' e a W''):post G E r Q O I W e a W'':=by
 obtain⟨S',I',F',hs,hq,hf⟩:=h
 exact⟨S',I',F',hs,hq,f.trans hf⟩
theorem post.here {Q:Exit→St→Prop} {F:Nat→Prop} {I:Imm} {W:World} {e:Exit} {a:Act} (h:Sat G E r S I F a W) (hq:Q e S):post G E r Q (own S F) I W e a W:=
 ⟨S,I,F,h,hq,Fram.refl _ _ _⟩
def VX (k:St→Prop) (Q:Exit→St→Prop):Exit→St→Prop
 | .normal,S=>k S
 | e,S=>Q e S
def zj1 (id:Nat) (Q:Exit→St→Prop):Exit→St→Prop
  | .exit j,S=>match Nat.beq j id with
    | true=>Q .normal S
    | false=>Q (.exit j) S
  | e,S=>Q e S
def zmC (Q:Exit→St→Prop):Exit→St→Prop
 | .goto _,_=>False
 | e,S=>Q e S
theorem XW {c:Code} {Q':Exit→St→Prop} (h:T P G E r c S Q) (hq:∀ e S,Q e S→Q' e S):T P G E r c S Q':=
 fun n I F a W hs=>wpIn_mono (h n I F a W hs) fun _ _ _ ⟨S',I',F',h1,h2,h3⟩=>⟨S',I',F',h1,hq _ _ h2,h3⟩
theorem zE (h:Q .normal S):T P G E r .skip S Q:=fun _ _ _ _ _ hs=>wpIn_skip (post.here hs h)
theorem us {l:Nat} (h:Q .normal S):T P G E r (.label l) S Q:=fun _ _ _ _ _ hs=>wpIn_label (post.here hs h)
theorem zI {id:Nat} (h:Q (.exit id) S):T P G E r (.exit id) S Q:=fun _ _ _ _ _ hs=>wpIn_exit (post.here hs h)
theorem zj (h:Q .ret S):T P G E r .ret S Q:=fun _ _ _ _ _ hs=>wpIn_ret (post.here hs h)
theorem zh {x y:Code} (h:T P G E r x S (VX (fun S'=>T P G E r y S' Q) Q)):T P G E r (.seq x y) S Q:=by
 intro n I F a W hs
 refine wpIn_seq (wpIn_mono (h n I F a W hs) fun e a' W' hp=>?_)
 obtain⟨S',I',F',h1,h2,h3⟩:=hp
 cases e with
 | normal=>exact wpIn_mono (h2 n I' F' a' W' h1) fun _ _ _ hp=>hp.from h3
 | _=>exact⟨S',I',F',h1,h2,h3⟩
theorem zbi {c:Operand} {t:Nat} {x y:Code} {b:Bool} (hc:c= .tmp t) (hg:look t S.g=some (zm b)) (ht:b=true→T P G E r x S Q) (hf:b=false→T P G E r y S Q):T P G E r (.cond c x y) S Q:=by
 intro n I F a W hs
 subst hc
 exact wpIn_cond_split (t:=b) (hs.g t _ hg) (fun h=>ht h n I F a W hs) (fun h=>hf h n I F a W hs)
theorem zQ {id:Nat} {c:Code} (h:T P G E r c S (zj1 id Q)):T P G E r (.block id c) S Q:=by
  intro n I F a W hs
  refine wpIn_block (wpIn_mono (h n I F a W hs) fun e a' W' hp=>?_)
  obtain⟨S',I',F',h1,h2,h3⟩:=hp
  cases e with
  | exit j=>
    simp only [zj1] at h2
    by_cases hj:j=id
    · subst hj
      have hb:Nat.beq j j=true:=by simp
      rw [hb] at h2
      simp only [Exit.inBlock,if_true]
      exact⟨S',I',F',h1,h2,h3⟩
    · have hb:Nat.beq j id=false:=by
        cases hc:Nat.beq j id with
        | false=>rfl
        | true=>exact absurd (Nat.eq_of_beq_eq_true hc) hj
      rw [hb] at h2
      simp only [Exit.inBlock,hj,if_false]
      exact⟨S',I',F',h1,h2,h3⟩
  | _=>exact⟨S',I',F',h1,h2,h3⟩
section scope
variable {b:Frame} {a:Act} {k:List Item} {cs:List Frame} {w:World}
theorem uG {c:Code}:step P (lone (b.atR a (.code (.scope c)::k)) cs w)= .next (lone (b.atR a (.code c:: .inScope c::k)) cs w):=
 step_lone_go (by simp [stepG,stepG.exec,Frame.atR])
theorem qV {c:Code}:step P (lone (b.atR a (.inScope c::k)) cs w)= .next (lone (b.atR a k) cs w):=
 step_lone_go (by simp [stepG,stepG.exec,Frame.atR])
theorem zeu {F:Fence} {n:Nat} {Q:Exit→Act→World→Prop} {c:Code} (h:c.wpIn F n P (Exit.noGoto Q) a w):(Code.scope c).wpIn F n P Q a w:=by
  intro b k cs hro hb hr
  have h0:(lone (b.atR a (.code (.scope c)::k)) cs w).fenced P F:=fenced_calm hb hr rfl
  obtain⟨e,a₁,w₁,hq,harr⟩:=h b (.inScope c::k) cs hro hb hr
  cases e with
  | normal=>exact⟨.normal,a₁,w₁,hq,.head h0 uG (StepsIn.trans harr (.one (fenced_calm hb hr rfl) qV))⟩
  | exit id=>
    have hx:exitTo id (.inScope c::k)=exitTo id k:=by simp [exitTo]
    exact⟨.exit id,a₁,w₁,hq,fun k' hk=>.head h0 uG (harr.1 k' (by rw [hx];exact hk)),
      fun hr' hk=>let ⟨k₁,h1,h2⟩:=harr.2 hr' (by rw [hx];exact hk);⟨k₁,h1,.head h0 uG h2⟩⟩
  | goto l=>exact hq.elim
  | ret=>exact⟨_,a₁,w₁,hq,.of_steps (.one h0 uG) harr⟩
  | panic ch=>exact⟨_,a₁,w₁,hq,.of_steps (.one h0 uG) harr⟩
  | outgrown=>exact⟨_,a₁,w₁,hq,.of_steps (.one h0 uG) harr⟩
end scope
theorem ut {c:Code} (h:T P G E r c S (zmC Q)):T P G E r (.scope c) S Q:=by
 intro n I F a W hs
 refine zeu (wpIn_mono (h n I F a W hs) fun e a' W' hp=>?_)
 obtain⟨S',I',F',h1,h2,h3⟩:=hp
 cases e with
 | goto l=>exact h2.elim
 | _=>exact⟨S',I',F',h1,h2,h3⟩
theorem zoL {c:Code} {p:Prop} (hp:∀ I F a W,Sat G E r S I F a W→p) (h:p→T P G E r c S Q):T P G E r c S Q:=
 fun n I F a W hs=>h (hp I F a W hs) n I F a W hs
theorem wT {c:Code} {α:Type} {st:Nat} {f:α→List SV} {l:List α} (t:Nat) (hg:look t S.g=some (zU st f l)) (h:l.length≤yP→T P G E r c S Q):T P G E r c S Q:=
 zoL (fun I F a W hs=>by obtain⟨_,_,_,_,h2,_⟩:=hs.g t _ hg;exact h2) h
def subG (g:List (Nat×SV)):List (Nat×SV)→Prop
 | []=>True
 | (t,s)::r=>(∃s0,look t g=some s0∧∀ I v,s0.den I v→s.den I v)∧subG g r
theorem subG.look {g g':List (Nat×SV)} (h:subG g g'):∀ t s,look t g'=some s→∃ s0,look t g=some s0∧∀ I v,s0.den I v→s.den I v:=by
  induction g' with
  | nil=>intro t s hl;cases hl
  | cons p g' ih=>
    intro t s hl
    obtain⟨k,s'⟩:=p
    obtain⟨h1,h2⟩:=h
    simp only [Sv.look] at hl
    split at hl
    · rename_i e;cases hl;rw [Nat.eq_of_beq_eq_true e];exact h1
    · exact ih h2 t s hl
theorem zb {g g':List (Nat×SV)} {t:Nat} {s:SV} (h:look t g=some s) (k:subG g g'):subG g ((t,s)::g'):=⟨⟨s,h,fun _ _ h=>h⟩,k⟩
def subH:HL→HL→Prop
 | [],[]=>True
 | p::r,q::s=>p.b=q.b∧p.e=q.e∧p.rest=q.rest∧p.cs.length=q.cs.length∧(∀I xs,dens I p.cs xs→dens I q.cs xs)∧subH r s
 | _,_=>False
theorem xp:∀ h:HL,subH h h
 | []=>trivial
 | _::r=>⟨rfl,rfl,rfl,rfl,fun _ _ h=>h,xp r⟩
theorem subH.bs {h k:HL} (hs:subH h k):bs k=bs h:=by
  induction h generalizing k with
  | nil=>cases k with
    | nil=>rfl
    | cons=>exact hs.elim
  | cons p r ih=>cases k with
    | nil=>exact hs.elim
    | cons q s=>
      have:=ih hs.2.2.2.2.2
      simp only [Sv.bs,List.filterMap_cons] at this ⊢
      rw [hs.1,this]
theorem subH.mem {h k:HL} (hs:subH h k):∀ q∈k,∃p∈h,p.b=q.b∧p.e=q.e∧p.rest=q.rest∧p.cs.length=q.cs.length∧∀ I xs,dens I p.cs xs→dens I q.cs xs:=by
  induction h generalizing k with
  | nil=>cases k with
    | nil=>intro q hq;simp at hq
    | cons=>exact hs.elim
  | cons p r ih=>cases k with
    | nil=>exact hs.elim
    | cons q s=>
      intro x hx
      rcases List.mem_cons.1 hx with rfl | hx
      · exact⟨p,by simp,hs.1,hs.2.1,hs.2.2.1,hs.2.2.2.1,hs.2.2.2.2.1⟩
      · obtain⟨p',hp',h1⟩:=ih hs.2.2.2.2.2 x hx;exact⟨p',by simp [hp'],h1⟩
theorem subH.holds {h k:HL} (hs:subH h k) {I:Imm} {W:World} (hh:HoldsH h I W):HoldsH k I W:=
  ⟨by rw [hs.bs];exact hh.nodup,fun q hq=>by
    obtain⟨p,hp,h1,h0,h2,h3,h4⟩:=hs.mem q hq
    cases hb:q.b with
    | none=>refine .of_none hb (List.eq_nil_of_length_eq_zero ?_);rw [←h3,(hh.mem p hp).none (h1.trans hb)];rfl
    | some b=>
      obtain⟨hn,c,hc,hsz,ho,hd⟩:=(hh.mem p hp).some (h1.trans hb)
      exact .of_some hb ⟨hn,c,by rw [←h0];exact hc,by rw [←h2,←h3];exact hsz,by rw [←h3];exact ho,by rw [←h3];exact h4 _ _ hd⟩⟩
structure Ent (S S':St):Prop where
 n:S'.n=S.n
 g:subG S.g S'.g
 h:subH S.h S'.h
 d:S'.d=S.d
 i:S'.i=S.i
theorem Ent.own {S S':St} (h:Ent S S') (F:Nat→Prop):own S' F=own S F:=by funext b;simp only [Sv.own,h.h.bs,h.d]
theorem Ent.sat {S S':St} (h:Ent S S') {I:Imm} {F:Nat→Prop} {a:Act} {W:World} (hs:Sat G E r S I F a W):Sat G E r S' I F a W where
 n:=h.n▸hs.n
 g:=fun t s hl=>by obtain⟨s0,h1,h2⟩:=h.g.look t s hl;exact h2 _ _ (hs.g t s0 h1)
 m:=hs.m
 h:=h.h.holds hs.h
 d:=by rw [h.d];exact hs.d
 dn:=by rw [h.d];exact hs.dn
 dk:=by rw [h.d];exact hs.dk
 e:=by rw [h.i];exact hs.e
 f:=by rw [h.h.bs,h.d];exact hs.f
 l:=fun k hk=>by rw [h.own];exact hs.l k hk
theorem wG {c:Code} {S':St} (h:Ent S S') (ht:T P G E r c S' Q):T P G E r c S Q:=by
 intro n I F a W hs
 have:=ht n I F a W (h.sat hs)
 rwa [h.own] at this
theorem Xe {p:Nat→Prop} (h:∃ n,p n):∃ n,p n∧∀ m,p m→n≤m:=by
  obtain⟨n,hn⟩:=h
  induction n using Nat.strongRecOn with
  | _ n ih=>
    by_cases hx:∃ m,m<n∧p m
    · obtain⟨m,hm,hp⟩:=hx;exact ih m hm hp
    · exact⟨n,hn,fun m hm=>by rcases Nat.lt_or_ge m n with h1 | h1;exact absurd ⟨m,h1,hm⟩ hx;exact h1⟩
open Classical in
noncomputable def zaf (p:Nat→Prop):Nat:=if h:∃ n,p n then Classical.choose (Xe h) else 0
theorem Xf {p:Nat→Prop} (h:∃ n,p n):p (zaf p)∧∀ m,p m→zaf p≤m:=by
 unfold zaf;rw [dif_pos h];exact Classical.choose_spec (Xe h)
theorem yK {c:Code} {γ:Type} (Inv:γ→St) (p:γ→Prop) (μ:γ→Nat) (g0:γ) (hp0:p g0) (h0:Ent S (Inv g0))
    (hr:∀ g,p g→T P G E r c (Inv g) (VX (fun S'=>∃ g',p g'∧μ g'<μ g∧Ent S' (Inv g')) Q)):T P G E r (.loop c) S Q:=by
  intro n I F a W hs
  let at_ (m:Nat) (a':Act) (W':World):Prop:=∃ g I' F',p g∧μ g=m∧Sat G E r (Inv g) I' F' a' W'∧Fram (own S F) I W (own (Inv g) F') I' W'
  refine wpIn_loop (fun a' W'=>∃ m,at_ m a' W') (fun a' W'=>zaf fun m=>at_ m a' W') ?_ ?_
  · exact⟨μ g0,g0,I,F,hp0,rfl,h0.sat hs,by rw [h0.own];exact Fram.refl _ _ _⟩
  · intro a' W' hI
    obtain⟨⟨g,I',F',hp,hm,hs',hf⟩,_⟩:=Xf (p:=fun m=>at_ m a' W') hI
    refine wpIn_mono (hr g hp n I' F' a' W' hs') fun e a'' W'' hq=>?_
    obtain⟨S'',I'',F'',h1,h2,h3⟩:=hq
    cases e with
    | normal=>
      obtain⟨g',hp',hlt,hent⟩:=h2
      have hat:at_ (μ g') a'' W'':=⟨g',I'',F'',hp',rfl,hent.sat h1,by rw [hent.own];exact hf.trans h3⟩
      exact⟨⟨_,hat⟩,by have:=(Xf (p:=fun m=>at_ m a'' W'') ⟨_,hat⟩).2 _ hat;omega⟩
    | _=>exact⟨S'',I'',F'',h1,h2,hf.trans h3⟩
end Go.Sv
/- Regions: what it is for an operation to be carried out (OpOK: it turns nothing that was there; OpEff: it may turn owned blocks), a region in the order of its text, and a region that draws its order: whatever order is drawn, what is known behind it is what the order of the text says. -/
namespace Go.Sv
open Go Go.RowKit
def xd (g:List (Nat×SV)):Operand→Option SV
 | .tmp t=>look t g
 | .const v=>some (eqS v)
 | .global b=>some (eqS (.pointer (some ⟨b,0,none⟩)))
 | .func f=>some (eqS (.func (.func f) #[] #[]))
def reads (g:List (Nat×SV)) (I:Imm) (o:Oper) (a:Act):Prop:=∀ x∈o.op.operands.toList,∀s,xd g x=some s→s.den I (a.eval x)
def OpOK (P:Program) (G:Imm) (H:HL) (o:Oper) (g:List (Nat×SV)) (s:SV):Prop:=
  ∀n r I W a (next:Act→World→Prop) (Q:Exit→Act→World→Prop),Holds G I W→HoldsH H I W→reads g I o a →
    (∀v I' W',Ext I W I' W'→Holds G I' W'→s.den I' v→next (a.put o.dst v) W')→o.wpIn (Fr r) n P a W next Q
def zag (P:Program) (G:Imm) (E:Env) (r:Option Nat) (o:Oper) (S:St) (K:St→Prop):Prop:=
  ∀n I F a W (next:Act→World→Prop) (Q:Exit→Act→World→Prop),Sat G E r S I F a W →
    (∀S' I' F' a' W',Sat G E r S' I' F' a' W'→K S'→Fram (own S F) I W (own S' F') I' W'→next a' W')→o.wpIn (Fr r) n P a W next Q
theorem OpOK.sub {P:Program} {G:Imm} {H:HL} {o:Oper} {g:List (Nat×SV)} {s s':SV} (h:OpOK P G H o g s) (hs:∀ I v,s.den I v→s'.den I v):OpOK P G H o g s':=
 fun n r I W a next Q hm hh hr k=>h n r I W a next Q hm hh hr fun v I' W' he hm' hv=>k v I' W' he hm' (hs _ _ hv)
def St.set (S:St) (d:Option Nat) (s:SV):St:=match d with
 | some t=>{S with g:=(t,s)::S.g}
 | none=>S
variable {P:Program} {G:Imm} {E:Env} {r:Option Nat} {S:St}
theorem vz {I:Imm} {F:Nat→Prop} {a:Act} {W:World} (hs:Sat G E r S I F a W) (o:Oper):reads S.g I o a:=by
 intro x _ s hx
 cases x with
 | tmp t=>exact hs.g t s hx
 | const v=>cases hx;rfl
 | global b=>cases hx;rfl
 | func f=>cases hx;rfl
theorem zcC (a:Act) (d:Option Nat) (v:Value):(a.put d v).tmps.size=a.tmps.size:=by cases d <;> simp [Act.put]
theorem put_get_same {a:Act} {d:Nat} {v:Value} (h:d<a.tmps.size):(a.put (some d) v).tmps.getD d undef=v:=by simp [Act.put,Array.getD_eq_getD_getElem?,h]
theorem put_get_other {a:Act} {d t:Nat} {v:Value} (h:d≠t):(a.put (some d) v).tmps.getD t undef=a.tmps.getD t undef:=by
 simp [Act.put,Array.getD_eq_getD_getElem?,Array.getElem?_setIfInBounds_ne h]
theorem Sat.keep {I I':Imm} {F:Nat→Prop} {a:Act} {W W':World} (hs:Sat G E r S I F a W) (he:Ext I W I' W') (hm:Holds G I' W'):Sat G E r S I' F a W' where
 n:=hs.n
 g:=fun t s hl=>s.mono _ _ _ he.imm (hs.g t s hl)
 m:=hm
 h:=hs.h.keep he (fun _ _ h=>h)
 d:=hs.d
 dn:=hs.dn
 dk:=fun b hb=>(he.old' (yp (hs.dk b hb))).trans (hs.dk b hb)
 e:=E.stab _ _ _ _ _ _ hs.e he.imm he.os he.tape he.output he.size (fun b hb=>he.old' (hs.f b hb).1) fun b hb=>he.new' (hs.f b hb).2.1 (hs.f b hb).1
 f:=fun b hb=>⟨Nat.lt_of_lt_of_le (hs.f b hb).1 he.size,he.new' (hs.f b hb).2.1 (hs.f b hb).1,(hs.f b hb).2.2⟩
 l:=fun k hk=>by obtain⟨⟨rec,hr⟩,ho⟩:=hs.l k hk;exact⟨⟨rec,(he.old' (yp hr)).trans hr⟩,ho⟩
theorem Sat.put {I:Imm} {F:Nat→Prop} {a:Act} {W:World} {d:Option Nat} {s:SV} {v:Value} (hs:Sat G E r S I F a W) (hv:s.den I v) (hd:∀ t,d=some t→t<S.n):Sat G E r (S.set d s) I F (a.put d v) W:=by
  cases d with
  | none=>exact hs
  | some t=>
    refine⟨?_,?_,hs.m,hs.h,hs.d,hs.dn,hs.dk,hs.e,hs.f,hs.l⟩
    · rw [zcC];exact hs.n
    · intro t' s' hl
      simp only [St.set,look] at hl
      split at hl
      · rename_i e;cases hl;rw [Nat.eq_of_beq_eq_true e,put_get_same (by rw [hs.n];exact hd t rfl)];exact hv
      · rename_i e;rw [put_get_other (fun h=>by subst h;simp at e)];exact hs.g t' s' hl
theorem Yp (S:St) (d:Option Nat) (s:SV) (F:Nat→Prop):own (S.set d s) F=own S F:=by cases d <;> rfl
theorem Ext.own {I I':Imm} {W W':World} (h:Ext I W I' W') (O:Nat→Prop):Fram O I W O I' W':=h.weaken (fun _ h=>h.elim) (fun _ h=>.inr h)
def zH (gd:Nat→Option Nat) (g:List (Nat×SV)) (o:Oper) (b:Bool):Prop:=match o.guard with
 | none=>b=true
 | some (j,want)=>(∃d c,gd j=some d∧look d g=some (zm c)∧b=(c==want))∨∃ d,gd j=some d∧look d g=some (eqS undef)∧b=false
theorem gB {gd:Nat→Option Nat} {g:List (Nat×SV)} {o:Oper} {j d:Nat} {w c b:Bool} (h:o.guard=some (j,w)) (hd:gd j=some d) (hl:look d g=some (zm c)) (hb:(c==w)=b):zH gd g o b:=by
 unfold zH;rw [h];exact .inl ⟨d,c,hd,hl,hb.symm⟩
theorem gU {gd:Nat→Option Nat} {g:List (Nat×SV)} {o:Oper} {j d:Nat} {w:Bool} (h:o.guard=some (j,w)) (hd:gd j=some d) (hl:look d g=some (eqS undef)):zH gd g o false:=by
 unfold zH;rw [h];exact .inr ⟨d,hd,hl,rfl⟩
def ZT (G:Imm) (E:Env) (r:Option Nat) (S S':St):Prop:=∀ I F a W,Sat G E r S I F a W→∃ I',Sat G E r S' I' F a W∧Fram (own S F) I W (own S' F) I' W
theorem zP {c:Code} {S':St} {Q:Exit→St→Prop} (h:ZT G E r S S') (ht:T P G E r c S' Q):T P G E r c S Q:=by
 intro n I F a W hs
 obtain⟨I',hs',hf⟩:=h I F a W hs
 exact wpIn_mono (ht n I' F a W hs') fun _ _ _ hp=>hp.from hf
inductive Run (P:Program) (G:Imm) (E:Env) (r:Option Nat) (gd:Nat→Option Nat) (p:Bool):List Oper→St→(St→Prop)→Prop
 | nil {S:St} {K:St→Prop} (h:K S):Run P G E r gd p [] S K
 | ok {o:Oper} {ops:List Oper} {S:St} {K:St→Prop} {s:SV} (ho:OpOK P G S.h o S.g s) (hg:zH gd S.g o true) (hd:∀ t,o.dst=some t→t<S.n) (h:Run P G E r gd p ops (S.set o.dst s) K):Run P G E r gd p (o::ops) S K
 | skip {o:Oper} {ops:List Oper} {S:St} {K:St→Prop} (hg:zH gd S.g o false) (hd:∀ t,o.dst=some t→t<S.n) (h:Run P G E r gd p ops (S.set o.dst (eqS undef)) K):Run P G E r gd p (o::ops) S K
 | eff {o:Oper} {ops:List Oper} {S:St} {K:St→Prop} (K':St→Prop) (hp:p=false) (ho:zag P G E r o S K') (hg:zH gd S.g o true) (h:∀ S',K' S'→Run P G E r gd p ops S' K):Run P G E r gd p (o::ops) S K
 | ghost {ops:List Oper} {S:St} {K:St→Prop} (S':St) (hp:p=false) (hg:ZT G E r S S') (h:Run P G E r gd p ops S' K):Run P G E r gd p ops S K
theorem OpOK.eff {o:Oper} {s:SV} (h:OpOK P G S.h o S.g s) (hd:∀ t,o.dst=some t→t<S.n):zag P G E r o S (fun S'=>S'=S.set o.dst s):=by
 intro n I F a W next Q hs k
 refine h n r I W a next Q hs.m hs.h (vz hs o) fun v I' W' he hm hv=>?_
 exact k _ I' F _ W' ((hs.keep he hm).put hv hd) rfl (by rw [Yp];exact he.own _)
theorem xL {gd:Nat→Option Nat} {ops:Array Oper} (hgd:∀ j,gd j=(ops[j]?).bind (·.dst)) {I:Imm} {F:Nat→Prop} {a:Act} {W:World} (hs:Sat G E r S I F a W) {o:Oper} {b:Bool}
  (h:zH gd S.g o b):Region.wanted o (yielded ops a.tmps)=b:=by
 unfold zH at h
 unfold Region.wanted
 split at h
 ·rename_i e;rw [e];exact h.symm
 ·rename_i j want e
  rw [e]
  rcases h with ⟨d,c,hj,hl,hb⟩ | ⟨d,hj,hl,rfl⟩
  rotate_left
  ·have hv:a.tmps.getD d undef=undef:=hs.g d _ hl
   rw [hgd] at hj
   have hy:yielded ops a.tmps j=none:=by
    unfold yielded
    rw [hj]
    simp only [Option.bind_some]
    rw [Array.getD_eq_getD_getElem?] at hv
    cases hx:a.tmps[d]? with
    | none=>rfl
    | some y=>rw [hx] at hv;simp at hv;subst hv;rfl
   simp only [hy]
   cases want <;> rfl
  have hv:a.tmps.getD d undef= .bool c:=hs.g d _ hl
  rw [hgd] at hj
  have hy:yielded ops a.tmps j=some c:=by
   unfold yielded
   rw [hj]
   simp only [Option.bind_some]
   rw [Array.getD_eq_getD_getElem?] at hv
   cases hx:a.tmps[d]? with
   | none=>rw [hx] at hv;simp [undef] at hv
   | some y=>rw [hx] at hv;simp at hv;subst hv;rfl
  simp only [hy,hb]
  cases c <;> cases want <;> rfl
theorem WJ (r:Option Nat) (f:FuncId):(Fr r).fn f:=trivial
theorem zah {gd:Nat→Option Nat} {p:Bool} (ops:Array Oper) (hgd:∀ j,gd j=(ops[j]?).bind (·.dst)) {l:List Oper} {S:St} {K:St→Prop} (h:Run P G E r gd p l S K):
    ∀(k:Nat),(∀i,ops[k+i]? =l[i]?)→∀ (n:Nat) (Q:Exit→Act→World→Prop) (I:Imm) (F:Nat→Prop) (a:Act) (W:World),Sat G E r S I F a W →
      (∀S' I' F' a' W',Sat G E r S' I' F' a' W'→K S'→Fram (own S F) I W (own S' F') I' W'→Q .normal a' W')→wpOpsIn (Fr r) n P ops Q ((List.range l.length).map (k+ ·)) a W:=by
  induction h with
  | nil h=>intro k _ n Q I F a W hs hk;exact hk _ I F a W hs h (Fram.refl _ _ _)
  | @ok o l S K s ho hg hd _ ih=>
    intro k hl n Q I F a W hs hk
    have h0:ops[k]? =some o:=by simpa using hl 0
    have hl':∀ i,ops[k+1+i]? =l[i]? :=fun i=>by have:=hl (i+1);simpa [Nat.add_assoc,Nat.add_comm 1 i] using this
    simp only [List.length_cons,List.range_succ_eq_map,List.map_cons,List.map_map,wpOpsIn,Nat.add_zero,h0]
    rw [xL hgd hs hg,if_pos rfl]
    refine (ho.eff hd (E:=E) (r:=r)) n I F a W _ Q hs fun S' I' F' a' W' hs' hk' hf=>?_
    subst hk'
    have:=ih (k+1) hl' n Q I' F' a' W' hs' fun S'' I'' F'' a'' W'' h1 h2 h3=>hk S'' I'' F'' a'' W'' h1 h2 (hf.trans h3)
    rwa [show ((fun x=>k+x)∘Nat.succ)=(fun x=>k+1+x) from by funext x;simp;omega]
  | @skip o l S K hg hd _ ih=>
    intro k hl n Q I F a W hs hk
    have h0:ops[k]? =some o:=by simpa using hl 0
    have hl':∀ i,ops[k+1+i]? =l[i]? :=fun i=>by have:=hl (i+1);simpa [Nat.add_assoc,Nat.add_comm 1 i] using this
    simp only [List.length_cons,List.range_succ_eq_map,List.map_cons,List.map_map,wpOpsIn,Nat.add_zero,h0]
    rw [xL hgd hs hg,if_neg (by simp)]
    refine⟨fun f _=>WJ r f,?_⟩
    have:=ih (k+1) hl' n Q I F _ W (hs.put (s:=eqS undef) rfl hd) fun S'' I'' F'' a'' W'' h1 h2 h3=>hk S'' I'' F'' a'' W'' h1 h2 (by rw [Yp] at h3;exact h3)
    rwa [show ((fun x=>k+x)∘Nat.succ)=(fun x=>k+1+x) from by funext x;simp;omega]
  | @eff o l S K K' hp ho hg _ ih=>
    intro k hl n Q I F a W hs hk
    have h0:ops[k]? =some o:=by simpa using hl 0
    have hl':∀ i,ops[k+1+i]? =l[i]? :=fun i=>by have:=hl (i+1);simpa [Nat.add_assoc,Nat.add_comm 1 i] using this
    simp only [List.length_cons,List.range_succ_eq_map,List.map_cons,List.map_map,wpOpsIn,Nat.add_zero,h0]
    rw [xL hgd hs hg,if_pos rfl]
    refine ho n I F a W _ Q hs fun S' I' F' a' W' hs' hk' hf=>?_
    have:=ih S' hk' (k+1) hl' n Q I' F' a' W' hs' fun S'' I'' F'' a'' W'' h1 h2 h3=>hk S'' I'' F'' a'' W'' h1 h2 (hf.trans h3)
    rwa [show ((fun x=>k+x)∘Nat.succ)=(fun x=>k+1+x) from by funext x;simp;omega]
  | @ghost l S K S' hp hg _ ih=>
    intro k hl n Q I F a W hs hk
    obtain⟨I',hs',hf⟩:=hg I F a W hs
    exact ih k hl n Q I' F a W hs' fun S'' I'' F'' a'' W'' h1 h2 h3=>hk S'' I'' F'' a'' W'' h1 h2 (hf.trans h3)
def xA (l:List Oper) (j:Nat):Option Nat:=(l[j]?).bind (·.dst)
theorem zO {id:Nat} {l:List Oper} {Q:Exit→St→Prop} (h:Run P G E r (xA l) false l S (fun S'=>Q .normal S')):T P G E r (.region id l.toArray false) S Q:=by
 intro n I F a W hs
 refine wpIn_region ?_
 have:=zah l.toArray (fun j=>by simp [xA]) h 0 (by intro i;simp) n (post G E r Q (own S F) I W) I F a W hs fun S' I' F' a' W' h1 h2 h3=>⟨S',I',F',h1,h2,h3⟩
 simpa using this
theorem UW {id:Nat} {l:List Oper} {y:Code} {Q:Exit→St→Prop} (h:Run P G E r (xA l) false l S (fun S'=>T P G E r y S' Q)):T P G E r (.seq (.region id l.toArray false) y) S Q:=
 zh (zO h)
end Go.Sv
/- A region that draws its order: what a derivation in the order of the text says holds behind whatever order is drawn. -/
namespace Go.Sv
open Go Go.RowKit
inductive Reach (l:List Oper):Nat→Nat→Prop
 | one {j:Nat} {o:Oper} {e:Edge} (h:l[j]? =some o) (he:e∈o.after.toList) (hb:Region.binds .any e=true):Reach l j e.on
 | step {j i:Nat} {o:Oper} {e:Edge} (h:l[j]? =some o) (he:e∈o.after.toList) (hb:Region.binds .any e=true) (k:Reach l e.on i):Reach l j i
def zj2 (acc:List Nat) (o:Oper):Nat:=o.after.toList.foldl (fun s e=>if Region.binds .any e then s ||| 2^e.on ||| acc.getD e.on 0 else s) 0
def UX:List Nat→List Oper→List Nat
 | acc,[]=>acc
 | acc,o::l=>UX (acc++[zj2 acc o]) l
def zcD (l:List Oper):List Nat:=UX [] l
theorem zj3 {es:List Edge} {acc:List Nat} {s i:Nat} (h:(es.foldl (fun s e=>if Region.binds .any e then s ||| 2^e.on ||| acc.getD e.on 0 else s) s).testBit i=true):
    s.testBit i=true∨∃ e∈es,Region.binds .any e=true∧(e.on=i∨(acc.getD e.on 0).testBit i=true):=by
  induction es generalizing s with
  | nil=>exact .inl h
  | cons e es ih=>
    simp only [List.foldl_cons] at h
    rcases ih h with h1 | ⟨e',he',hb,h2⟩
    · by_cases hb:Region.binds .any e=true
      · rw [if_pos hb] at h1
        simp only [Nat.testBit_or,Bool.or_eq_true] at h1
        rcases h1 with (h1 | h1) | h1
        · exact .inl h1
        · refine .inr ⟨e,by simp,hb,.inl ?_⟩
          rw [Nat.testBit_two_pow] at h1;simpa using h1
        · exact .inr ⟨e,by simp,hb,.inr h1⟩
      · rw [if_neg hb] at h1;exact .inl h1
    · exact .inr ⟨e',by simp [he'],hb,h2⟩
theorem XR {l:List Oper}:∀ (rest:List Oper) (acc:List Nat),(∀i,l[acc.length+i]? =rest[i]?)→(∀j i,(acc.getD j 0).testBit i=true→Reach l j i)→∀ j i,((UX acc rest).getD j 0).testBit i=true→Reach l j i
  | [],acc,_,h,j,i,hb=>h j i hb
  | o::rest,acc,hl,h,j,i,hb=>by
    refine XR rest (acc++[zj2 acc o]) ?_ ?_ j i hb
    · intro i;have:=hl (i+1);simp only [List.length_append,List.length_cons,List.length_nil];rw [show acc.length+(0+1)+i=acc.length+(i+1) from by omega,this];simp
    · intro j i hb
      by_cases hj:j<acc.length
      · rw [List.getD_eq_getElem?_getD,List.getElem?_append_left hj,←List.getD_eq_getElem?_getD] at hb;exact h j i hb
      · by_cases hj':j=acc.length
        · subst hj'
          have h0:l[acc.length]? =some o:=by simpa using hl 0
          rw [List.getD_eq_getElem?_getD,List.getElem?_append_right (Nat.le_refl _)] at hb
          simp only [Nat.sub_self,List.getElem?_cons_zero,Option.getD_some] at hb
          rcases zj3 hb with h1 | ⟨e,he,hbi,h2 | h2⟩
          · simp at h1
          · subst h2;exact .one h0 he hbi
          · exact .step h0 he hbi (h _ _ h2)
        · rw [List.getD_eq_getElem?_getD,List.getElem?_eq_none (by simp;omega)] at hb;simp at hb
theorem masks_reach {l:List Oper} {j i:Nat} (h:((zcD l).getD j 0).testBit i=true):Reach l j i:=
 XR l [] (by simp) (by intro j i h;simp at h) j i h
theorem Reach.listed {l:List Oper} {L:Nat→Prop} {j i:Nat} (h:Reach l j i) (hc:∀ j o,l[j]? =some o→L j→∀ e∈o.after.toList,Region.binds .any e=true→L e.on)
  (h0:∀ o,l[j]? =some o→∀ e∈o.after.toList,Region.binds .any e=true→L e.on):L i:=by
 induction h with
 | one h he hb=>exact h0 _ h _ he hb
 | step h he hb _ ih=>exact ih fun o ho=>hc _ o ho (h0 _ h _ he hb)
def ua (l:List Oper):Bool:=l.zipIdx.all fun (o,i)=>o.after.toList.all fun e=> !Region.binds .any e||e.on<i
def vm:List Oper→Bool
 | []=>true
 | o::l=>(match o.dst with | some d=>l.all fun p=>p.dst != some d | none=>true)&&vm l
def ub (l:List Oper):Bool:=
 let ms:=zcD l
 l.zipIdx.all fun (o,i)=>(o.looksAt l.toArray).all fun t=>l.zipIdx.all fun (p,j)=>p.dst != some t||i==j||(if j<i then (ms.getD i 0).testBit j else (ms.getD j 0).testBit i)
def Zr (l:List Oper) (N:Nat):Bool:=
 let ms:=zcD l
 (List.range l.length).all fun j=>j<N||(List.range j).all fun i=>(ms.getD j 0).testBit i
def JQ (l:List Oper) (N:Nat):Bool:=ua l&&(vm l&&(ub l&&Zr l N))
theorem Vz {α:Type} {l:List α} {f:α×Nat→Bool} (h:l.zipIdx.all f=true) {i:Nat} {x:α} (hi:l[i]? =some x):f (x,i)=true:=by
 refine List.all_eq_true.1 h (x,i) ?_
 rw [List.mem_zipIdx_iff_getElem?];simpa using hi
theorem Xg {l:List Oper} (h:ua l=true) {i:Nat} {o:Oper} (hi:l[i]? =some o) {e:Edge} (he:e∈o.after.toList) (hb:Region.binds .any e=true):e.on<i:=by
 have:=List.all_eq_true.1 (Vz h hi) e he
 simpa [hb] using this
theorem Vp:∀ {l:List Oper},vm l=true→∀ {i j:Nat} {o p:Oper} {d:Nat},l[i]? =some o→l[j]? =some p→o.dst=some d→p.dst=some d→i=j
  | [],_,i,_,o,_,_,hi,_,_,_=>by simp at hi
  | q::l,h,i,j,o,p,d,hi,hj,ho,hp=>by
    simp only [vm,Bool.and_eq_true] at h
    have hq:∀ {k:Nat} {x:Oper},q.dst=some d→l[k]? =some x→x.dst=some d→False:=fun hq hk hx=>by
      have h1:=h.1
      rw [hq] at h1
      have:=List.all_eq_true.1 h1 _ (List.mem_of_getElem? hk)
      simp [hx] at this
    cases i with
    | zero=>cases j with
      | zero=>rfl
      | succ j=>simp at hi hj;subst hi;exact (hq ho hj hp).elim
    | succ i=>cases j with
      | zero=>simp at hi hj;subst hj;exact (hq hp hi ho).elim
      | succ j=>simp at hi hj;exact congrArg _ (Vp h.2 hi hj ho hp)
theorem vA {l:List Oper} (h:ub l=true) {i j:Nat} {o p:Oper} {t:Nat} (hi:l[i]? =some o) (ht:t∈o.looksAt l.toArray) (hj:l[j]? =some p) (hp:p.dst=some t):
  i=j∨(j<i∧Reach l i j)∨(i<j∧Reach l j i):=by
 have h1:=Vz (List.all_eq_true.1 (Vz h hi) t ht) hj
 simp only [hp,bne_self_eq_false,Bool.false_or,Bool.or_eq_true,beq_iff_eq] at h1
 rcases h1 with h1 | h1
 ·exact .inl h1
 ·split at h1
  ·rename_i hlt;exact .inr (.inl ⟨hlt,masks_reach h1⟩)
  ·by_cases he:i=j
   ·exact .inl he
   ·exact .inr (.inr ⟨by omega,masks_reach h1⟩)
theorem QJ {l:List Oper} {N:Nat} (h:Zr l N=true) {j i:Nat} (hj:j<l.length) (hN:N≤j) (hi:i<j):Reach l j i:=by
 have h1:=List.all_eq_true.1 h j (by simpa using hj)
 simp only [Bool.or_eq_true,decide_eq_true_eq] at h1
 rcases h1 with h1 | h1
 ·omega
 ·exact masks_reach (List.all_eq_true.1 h1 i (by simpa using hi))
variable {P:Program} {G:Imm} {E:Env} {r:Option Nat} {S:St}
def xT:List Oper→(Nat→SV)→List (Nat×SV)→Nat→List (Nat×SV)
 | [],_,g,_=>g
 | _::_,_,g,0=>g
 | o::l,sv,g,k+1=>xT l (fun i=>sv (i+1)) (match o.dst with | some d=>(d,sv 0)::g | none=>g) k
theorem vG (l:List Oper) (sv:Nat→SV) (g:List (Nat×SV)):xT l sv g 0=g:=by cases l <;> rfl
theorem zcE {l:List Oper}:∀ {sv:Nat→SV} {g:List (Nat×SV)} {k t:Nat} {s:SV},look t (xT l sv g k)=some s →
    (∃j o,j<k∧l[j]? =some o∧o.dst=some t∧s=sv j)∨(look t g=some s∧∀ j o,j<k→l[j]? =some o→o.dst≠some t):=by
  induction l with
  | nil=>intro sv g k t s h;exact .inr ⟨h,fun j o _ hj=>by simp at hj⟩
  | cons o l ih=>
    intro sv g k t s h
    cases k with
    | zero=>exact .inr ⟨h,fun j o hj=>by omega⟩
    | succ k=>
      rcases ih h with ⟨j,p,hj,hp,hd,hs⟩ | ⟨hl,hn⟩
      · exact .inl ⟨j+1,p,by omega,by simpa using hp,hd,hs⟩
      · cases hd:o.dst with
        | none=>
          rw [hd] at hl
          refine .inr ⟨hl,fun j p hj hp=>?_⟩
          cases j with
          | zero=>simp at hp;subst hp;simp [hd]
          | succ j=>exact hn j p (by omega) (by simpa using hp)
        | some d=>
          rw [hd] at hl
          simp only [look] at hl
          split at hl
          · rename_i e;cases hl;exact .inl ⟨0,o,by omega,rfl,by rw [hd,Nat.eq_of_beq_eq_true e],rfl⟩
          · rename_i e
            refine .inr ⟨hl,fun j p hj hp=>?_⟩
            cases j with
            | zero=>simp at hp;subst hp;rw [hd];intro h';cases h';simp at e
            | succ j=>exact hn j p (by omega) (by simpa using hp)
theorem zhP {gd:Nat→Option Nat} {p:Bool} {l:List Oper} {S:St} {K:St→Prop} (h:Run P G E r gd p l S K) (hp:p=true):
    ∃sv:Nat→SV,K {S with g:=xT l sv S.g l.length}∧∀ i o,l[i]? =some o→(∀t,o.dst=some t→t<S.n) ∧
      ((OpOK P G S.h o (xT l sv S.g i) (sv i)∧zH gd (xT l sv S.g i) o true)∨(zH gd (xT l sv S.g i) o false∧sv i=eqS undef)):=by
  induction h with
  | nil h=>exact⟨fun _=>zq7,h,fun i o hi=>by simp at hi⟩
  | @ok o l S K s ho hg hd _ ih=>
    obtain⟨sv,hK,hst⟩:=ih
    refine⟨fun i=>match i with | 0=>s | i+1=>sv i,?_,?_⟩
    · have e:(S.set o.dst s).g=(match o.dst with | some d=>(d,s)::S.g | none=>S.g):=by cases o.dst <;> rfl
      have e2:({S.set o.dst s with g:=xT l sv (S.set o.dst s).g l.length}:St)={S with g:=xT l sv (match o.dst with | some d=>(d,s)::S.g | none=>S.g) l.length}:=by rw [e];cases o.dst <;> rfl
      rw [e2] at hK;exact hK
    · intro i p hi
      cases i with
      | zero=>simp at hi;subst hi;exact⟨hd,.inl ⟨ho,hg⟩⟩
      | succ i=>
        have:=hst i p (by simpa using hi)
        have e:(S.set o.dst s).g=(match o.dst with | some d=>(d,s)::S.g | none=>S.g):=by cases o.dst <;> rfl
        have en:(S.set o.dst s).n=S.n:=by cases o.dst <;> rfl
        have eh:(S.set o.dst s).h=S.h:=by cases o.dst <;> rfl
        rw [en,eh,e] at this;exact this
  | @skip o l S K hg hd _ ih=>
    obtain⟨sv,hK,hst⟩:=ih
    refine⟨fun i=>match i with | 0=>eqS undef | i+1=>sv i,?_,?_⟩
    · have e:(S.set o.dst (eqS undef)).g=(match o.dst with | some d=>(d,eqS undef)::S.g | none=>S.g):=by cases o.dst <;> rfl
      have e2:({S.set o.dst (eqS undef) with g:=xT l sv (S.set o.dst (eqS undef)).g l.length}:St)={S with g:=xT l sv (match o.dst with | some d=>(d,eqS undef)::S.g | none=>S.g) l.length}:=by rw [e];cases o.dst <;> rfl
      rw [e2] at hK;exact hK
    · intro i p hi
      cases i with
      | zero=>simp at hi;subst hi;exact⟨hd,.inr ⟨hg,rfl⟩⟩
      | succ i=>
        have:=hst i p (by simpa using hi)
        have e:(S.set o.dst (eqS undef)).g=(match o.dst with | some d=>(d,eqS undef)::S.g | none=>S.g):=by cases o.dst <;> rfl
        have en:(S.set o.dst (eqS undef)).n=S.n:=by cases o.dst <;> rfl
        have eh:(S.set o.dst (eqS undef)).h=S.h:=by cases o.dst <;> rfl
        rw [en,eh,e] at this;exact this
  | eff K' hp'=>rw [hp] at hp';cases hp'
  | ghost S' hp'=>rw [hp] at hp';cases hp'
def Ld (L:Array Bool) (j:Nat):Prop:=L.getD j false=true
theorem uX {L:Array Bool} {i j:Nat} (hi:i<L.size):Ld (L.setIfInBounds i true) j↔j=i∨Ld L j:=by
 unfold Ld
 simp only [Array.getD_eq_getD_getElem?]
 by_cases h:j=i
 ·subst h;simp [hi]
 ·rw [Array.getElem?_setIfInBounds_ne (Ne.symm h)];simp [h]
theorem ve {l:List Oper} {L:Array Bool} (hL:L.size=l.length) {i:Nat}:i∈Region.ready .any l.toArray L↔∃ o,l[i]? =some o∧¬ Ld L i∧∀ e∈o.after.toList,Region.binds .any e=true→Ld L e.on:=by
 unfold Region.ready
 rw [List.mem_filter]
 constructor
 ·rintro⟨h1,h2⟩
  simp only [List.size_toArray,List.mem_range] at h1
  simp only [Bool.and_eq_true,Bool.not_eq_eq_eq_not,Bool.not_true] at h2
  refine⟨l[i],by simp [h1],?_,?_⟩
  ·unfold Ld;have:=h2.1;simp only [Array.getD_eq_getD_getElem?,Array.getElem?_eq_getElem (show i<L.size by omega)] at this ⊢;simp at this ⊢;exact this
  ·intro e he hb
   have:=h2.2
   simp only [List.getElem?_toArray,List.getElem?_eq_getElem h1,Option.map_some,Option.getD_some,Array.all_eq_true'] at this
   have:=this e (by simpa using he)
   simpa [hb,Ld] using this
 ·rintro⟨o,ho,hn,he⟩
  have h1:i<l.length:=by rcases Nat.lt_or_ge i l.length with h | h;exact h;simp [List.getElem?_eq_none h] at ho
  refine⟨by simpa using h1,?_⟩
  simp only [Bool.and_eq_true,Bool.not_eq_eq_eq_not,Bool.not_true]
  refine⟨?_,?_⟩
  ·unfold Ld at hn;simp only [Array.getD_eq_getD_getElem?,Array.getElem?_eq_getElem (show i<L.size by omega)] at hn ⊢;simpa using hn
  ·simp only [List.getElem?_toArray,ho,Option.map_some,Option.getD_some,Array.all_eq_true']
   intro e he'
   by_cases hb:Region.binds .any e=true
   ·have:=he e (by simpa using he') hb;unfold Ld at this;rw [this];simp
   ·simp [hb]
theorem yt {α:Type} {l:List α} {i:Nat} {x:α} (h:l[i]? =some x):i<l.length:=by
 rcases Nat.lt_or_ge i l.length with h' | h'
 ·exact h'
 ·simp [List.getElem?_eq_none h'] at h
theorem WK {l:List Oper} {N:Nat} (htail:Zr l N=true) (hed:ua l=true) {k:Nat} {L:Array Bool} (hN:N≤k) (hL:L.size=l.length) (hLd:∀ j,j<l.length→(Ld L j↔j<k))
  {i:Nat} (hi:i∈Region.ready .any l.toArray L):i=k∧k<l.length:=by
 obtain⟨o,ho,hn,he⟩:=(ve hL).1 hi
 have hlt:=yt ho
 have hge:k≤i:=by
  rcases Nat.lt_or_ge i k with h | h
  ·exact absurd ((hLd i hlt).2 h) hn
  ·exact h
 by_cases e:i=k
 ·exact⟨e,by omega⟩
 ·have hc:∀ j o,l[j]? =some o→Ld L j→∀ e∈o.after.toList,Region.binds .any e=true→Ld L e.on:=by
   intro j o hj hl e he hb
   have h1:=Xg hed hj he hb
   have h2:=(hLd j (yt hj)).1 hl
   exact (hLd e.on (by have:=yt hj;omega)).2 (by omega)
  have:=(QJ htail hlt (by omega) (show k<i by omega)).listed (L:=Ld L) hc (fun o' ho'=>by rw [ho] at ho';cases ho';exact he)
  have:=(hLd k (by omega)).1 this
  omega
theorem zev {l:List Oper} (hed:ua l=true) {k:Nat} {L:Array Bool} (hL:L.size=l.length) (hLd:∀ j,j<l.length→(Ld L j↔j<k)) (hk:k<l.length):k∈Region.ready .any l.toArray L:=by
 refine (ve hL).2 ⟨l[k],by simp [hk],fun h=>?_,fun e he hb=>?_⟩
 ·have:=(hLd k hk).1 h;omega
 ·have:=Xg hed (show l[k]? =some l[k] by simp [hk]) he hb
  exact (hLd e.on (by omega)).2 this
theorem JR {gd:Nat→Option Nat} {l:List Oper} (hgd:∀ j,gd j=(l.toArray[j]?).bind (·.dst)) {N:Nat} (htail:Zr l N=true) (hed:ua l=true) {l':List Oper} {S:St} {K:St→Prop} {p:Bool} (h:Run P G E r gd p l' S K):
    ∀(k:Nat),N≤k→l'=l.drop k→∀ (L:Array Bool),L.size=l.length→(∀j,j<l.length→(Ld L j↔j<k))→∀ (fuel n:Nat) (Q:Exit→Act→World→Prop) (I:Imm) (F:Nat→Prop) (a:Act) (W:World),l.length≤k+fuel→Sat G E r S I F a W →
      (∀S' I' F' a' W',Sat G E r S' I' F' a' W'→K S'→Fram (own S F) I W (own S' F') I' W'→Q .normal a' W')→wpAnyIn (Fr r) n P .any l.toArray Q fuel L a W:=by
  have step:∀ {o:Oper} {rest:List Oper} {k:Nat},o::rest=l.drop k→k<l.length∧l[k]? =some o∧rest=l.drop (k+1):=by
    intro o rest k he
    have hk:k<l.length:=by
      rcases Nat.lt_or_ge k l.length with h | h
      · exact h
      · rw [List.drop_eq_nil_of_le h] at he;cases he
    have:=List.drop_eq_getElem_cons hk
    rw [←he] at this
    cases this
    exact⟨hk,by simp [hk],rfl⟩
  have next:∀ {k:Nat} {L:Array Bool},k<l.length→L.size=l.length→(∀j,j<l.length→(Ld L j↔j<k))→(L.setIfInBounds k true).size=l.length∧∀ j,j<l.length→(Ld (L.setIfInBounds k true) j↔j<k+1):=by
    intro k L hk hL hLd
    refine⟨by simpa using hL,fun j hj=>?_⟩
    rw [uX (by omega),hLd j hj];omega
  have pos:∀ {k fuel:Nat},k<l.length→l.length≤k+fuel→∃ f,fuel=f+1:=fun hk hf=>⟨_,(Nat.sub_add_cancel (show 1≤_ by omega)).symm⟩
  have none_ready:∀ {k:Nat} {L:Array Bool},k<l.length→L.size=l.length→(∀j,j<l.length→(Ld L j↔j<k))→∀ {X:Prop},Region.ready .any l.toArray L=[]→X:=by
    intro k L hk hL hLd X h
    have:=zev hed hL hLd hk
    rw [h] at this;cases this
  induction h with
  | nil h=>
    intro k hN hd L hL hLd fuel n Q I F a W hf hs hk
    have hge:l.length≤k:=by
      rcases Nat.lt_or_ge k l.length with h' | h'
      · have:=congrArg List.length hd;simp at this;omega
      · exact h'
    have hnil:Region.ready .any l.toArray L=[]:=by
      rw [List.eq_nil_iff_forall_not_mem]
      intro i hi
      have:=WK htail hed hN hL hLd hi
      omega
    have hq:=hk _ I F a W hs h (Fram.refl _ _ _)
    cases fuel with
    | zero=>exact⟨hnil,hq⟩
    | succ fuel=>exact⟨fun _=>hq,fun i hi=>by rw [hnil] at hi;cases hi⟩
  | @ok o rest S K s ho hg hd _ ih=>
    intro k hN hdr L hL hLd fuel n Q I F a W hf hs hk
    obtain⟨hk',h0,hrest⟩:=step hdr
    obtain⟨f,rfl⟩:=pos hk' hf
    refine⟨none_ready hk' hL hLd,fun i hi=>?_⟩
    obtain⟨rfl,_⟩:=WK htail hed hN hL hLd hi
    obtain⟨n1,n2⟩:=next hk' hL hLd
    simp only [wpOpIn,List.getElem?_toArray,h0]
    rw [xL hgd hs hg,if_pos rfl]
    refine (ho.eff hd (E:=E) (r:=r)) n I F a W _ Q hs fun S' I' F' a' W' hs' hk1 hf'=>?_
    subst hk1
    exact ih (i+1) (by omega) hrest _ n1 n2 f n Q I' F' a' W' (by omega) hs' fun S'' I'' F'' a'' W'' h1 h2 h3=>hk S'' I'' F'' a'' W'' h1 h2 (hf'.trans h3)
  | @skip o rest S K hg hd _ ih=>
    intro k hN hdr L hL hLd fuel n Q I F a W hf hs hk
    obtain⟨hk',h0,hrest⟩:=step hdr
    obtain⟨f,rfl⟩:=pos hk' hf
    refine⟨none_ready hk' hL hLd,fun i hi=>?_⟩
    obtain⟨rfl,_⟩:=WK htail hed hN hL hLd hi
    obtain⟨n1,n2⟩:=next hk' hL hLd
    simp only [wpOpIn,List.getElem?_toArray,h0]
    rw [xL hgd hs hg,if_neg (by simp)]
    exact⟨fun f _=>WJ r f,ih (i+1) (by omega) hrest _ n1 n2 f n Q I F _ W (by omega) (hs.put (s:=eqS undef) rfl hd) fun S'' I'' F'' a'' W'' h1 h2 h3=>hk S'' I'' F'' a'' W'' h1 h2 (by rw [Yp] at h3;exact h3)⟩
  | @eff o rest S K K' hp ho hg _ ih=>
    intro k hN hdr L hL hLd fuel n Q I F a W hf hs hk
    obtain⟨hk',h0,hrest⟩:=step hdr
    obtain⟨f,rfl⟩:=pos hk' hf
    refine⟨none_ready hk' hL hLd,fun i hi=>?_⟩
    obtain⟨rfl,_⟩:=WK htail hed hN hL hLd hi
    obtain⟨n1,n2⟩:=next hk' hL hLd
    simp only [wpOpIn,List.getElem?_toArray,h0]
    rw [xL hgd hs hg,if_pos rfl]
    refine ho n I F a W _ Q hs fun S' I' F' a' W' hs' hk1 hf'=>?_
    exact ih S' hk1 (i+1) (by omega) hrest _ n1 n2 f n Q I' F' a' W' (by omega) hs' fun S'' I'' F'' a'' W'' h1 h2 h3=>hk S'' I'' F'' a'' W'' h1 h2 (hf'.trans h3)
  | @ghost rest S K S' hp hg _ ih=>
    intro k hN hdr L hL hLd fuel n Q I F a W hf hs hk
    obtain⟨I',hs',hf'⟩:=hg I F a W hs
    exact ih k hN hdr L hL hLd fuel n Q I' F a W hf hs' fun S'' I'' F'' a'' W'' h1 h2 h3=>hk S'' I'' F'' a'' W'' h1 h2 (hf'.trans h3)
structure Mid (G:Imm) (E:Env) (r:Option Nat) (l:List Oper) (N:Nat) (sv:Nat→SV) (S:St) (L:Array Bool) (I:Imm) (F:Nat→Prop) (a:Act) (W:World):Prop where
 size:L.size=l.length
 sat:Sat G E r {S with g:=[]} I F a W
 old:∀ t s,look t S.g=some s→(∀j o,l[j]? =some o→o.dst=some t→¬ Ld L j)→s.den I (a.tmps.getD t undef)
 new:∀ j o d,l[j]? =some o→Ld L j→o.dst=some d→(sv j).den I (a.tmps.getD d undef)
 low:∀ j,Ld L j→j<N
 closed:∀ j o,l[j]? =some o→Ld L j→∀ e∈o.after.toList,Region.binds .any e=true→Ld L e.on
theorem xJ {α:Type} {l:List α} {N i:Nat} (h:i<N):(l.take N)[i]? =l[i]? :=by rw [List.getElem?_take];simp [h]
theorem uH {l:List Oper} {o:Oper} {t:Nat} (h:Operand.tmp t∈o.op.operands.toList):t∈o.looksAt l.toArray:=by
 unfold Oper.looksAt
 exact List.mem_append.2 (.inl (List.mem_filterMap.2 ⟨.tmp t,h,rfl⟩))
theorem Vq {l:List Oper} {o:Oper} {j d:Nat} {b:Bool} (hg:o.guard=some (j,b)) (hd:(l.toArray[j]?).bind (·.dst)=some d):d∈o.looksAt l.toArray:=by
 unfold Oper.looksAt
 refine List.mem_append.2 (.inr ?_)
 rw [hg];simp only [hd,Option.toList_some,List.mem_singleton]
section mid
variable {l:List Oper} {N:Nat} {sv:Nat→SV} {L:Array Bool} {I:Imm} {F:Nat→Prop} {a:Act} {W:World}
theorem Mid.slot (hm:Mid G E r l N sv S L I F a W) (hrd:ub l=true) {i:Nat} {o:Oper} (hi:l[i]? =some o) (hN:i<N) (hn:¬ Ld L i)
  (hpre:∀ e∈o.after.toList,Region.binds .any e=true→Ld L e.on) {t:Nat} (ht:t∈o.looksAt l.toArray) {s:SV} (hl:look t (xT (l.take N) sv S.g i)=some s):s.den I (a.tmps.getD t undef):=by
 rcases zcE hl with ⟨j,p,hj,hp,hd,rfl⟩ | ⟨hg,hno⟩
 ·rw [xJ (by omega)] at hp
  refine hm.new j p t hp ?_ hd
  rcases vA hrd hi ht hp hd with h1 | ⟨_,h1⟩ | ⟨h1,_⟩
  ·omega
  ·exact h1.listed (L:=Ld L) hm.closed fun o' ho'=>by rw [hi] at ho';cases ho';exact hpre
  ·omega
 ·refine hm.old t s hg fun j p hp hd hj=>?_
  have hjN:=hm.low j hj
  have hge:i≤j:=by
   rcases Nat.lt_or_ge j i with h | h
   ·exact absurd hd (hno j p h (by rw [xJ hjN];exact hp))
   ·exact h
  rcases vA hrd hi ht hp hd with h1 | ⟨h1,_⟩ | ⟨_,h1⟩
  ·subst h1;exact hn hj
  ·omega
  ·exact hn (h1.listed (L:=Ld L) hm.closed fun o' ho'=>hm.closed j o' ho' hj)
theorem Mid.reads (hm:Mid G E r l N sv S L I F a W) (hrd:ub l=true) {i:Nat} {o:Oper} (hi:l[i]? =some o) (hN:i<N) (hn:¬ Ld L i)
  (hpre:∀ e∈o.after.toList,Region.binds .any e=true→Ld L e.on):reads (xT (l.take N) sv S.g i) I o a:=by
 intro x hx s hs
 cases x with
 | tmp t=>exact hm.slot hrd hi hN hn hpre (uH hx) hs
 | const v=>cases hs;rfl
 | global b=>cases hs;rfl
 | func f=>cases hs;rfl
theorem Mid.wanted (hm:Mid G E r l N sv S L I F a W) (hrd:ub l=true) {i:Nat} {o:Oper} (hi:l[i]? =some o) (hN:i<N) (hn:¬ Ld L i)
  (hpre:∀ e∈o.after.toList,Region.binds .any e=true→Ld L e.on) {b:Bool} (hg:zH (xA l) (xT (l.take N) sv S.g i) o b):Region.wanted o (yielded l.toArray a.tmps)=b:=by
 unfold zH at hg
 unfold Region.wanted
 split at hg
 ·rename_i e;rw [e];exact hg.symm
 ·rename_i j want e
  rw [e]
  rcases hg with ⟨d,c,hj,hl,hb⟩ | ⟨d,hj,hl,rfl⟩
  rotate_left
  ·have hj':(l.toArray[j]?).bind (·.dst)=some d:=by simpa [xA] using hj
   have hv:a.tmps.getD d undef=undef:=hm.slot hrd hi hN hn hpre (Vq e hj') hl
   have hy:yielded l.toArray a.tmps j=none:=by
    unfold yielded
    rw [hj']
    simp only [Option.bind_some]
    rw [Array.getD_eq_getD_getElem?] at hv
    cases hx:a.tmps[d]? with
    | none=>rfl
    | some y=>rw [hx] at hv;simp at hv;subst hv;rfl
   simp only [hy]
   cases want <;> rfl
  have hj':(l.toArray[j]?).bind (·.dst)=some d:=by simpa [xA] using hj
  have hv:a.tmps.getD d undef= .bool c:=hm.slot hrd hi hN hn hpre (Vq e hj') hl
  have hy:yielded l.toArray a.tmps j=some c:=by
   unfold yielded
   rw [hj']
   simp only [Option.bind_some]
   rw [Array.getD_eq_getD_getElem?] at hv
   cases hx:a.tmps[d]? with
   | none=>rw [hx] at hv;simp [undef] at hv
   | some y=>rw [hx] at hv;simp at hv;subst hv;rfl
  simp only [hy,hb]
  cases c <;> cases want <;> rfl
theorem Mid.step (hm:Mid G E r l N sv S L I F a W) (hnd:vm l=true) {i:Nat} {o:Oper} (hi:l[i]? =some o) (hN:i<N) (hdst:∀ t,o.dst=some t→t<S.n)
    (hpre:∀ e∈o.after.toList,Region.binds .any e=true→Ld L e.on) {v:Value} {I':Imm} {W':World} (he:Ext I W I' W') (hh:Holds G I' W') (hv:(sv i).den I' v):
    Mid G E r l N sv S (L.setIfInBounds i true) I' F (a.put o.dst v) W':=by
  have hilt:i<L.size:=by rw [hm.size];exact yt hi
  have hs:=hm.sat.keep he hh
  refine⟨by simpa using hm.size,?_,?_,?_,?_,?_⟩
  · exact⟨by rw [zcC];exact hs.n,fun t s h=>(by cases h),hs.m,hs.h,by cases hd:o.dst <;> simp [Act.put,hs.d],hs.dn,hs.dk,hs.e,hs.f,hs.l⟩
  · intro t s hl hno
    have hno':∀ j p,l[j]? =some p→p.dst=some t→¬ Ld L j:=fun j p hp hd hj=>hno j p hp hd ((uX hilt).2 (.inr hj))
    have h1:=s.mono _ _ _ he.imm (hm.old t s hl hno')
    cases hd:o.dst with
    | none=>exact h1
    | some d=>
      rw [put_get_other fun e=>by subst e;exact hno i o hi hd ((uX hilt).2 (.inl rfl))]
      exact h1
  · intro j p d hp hj hd
    rcases (uX hilt).1 hj with e | hj
    · subst e
      rw [hi] at hp;cases hp
      rw [hd,put_get_same (by rw [hm.sat.n];exact hdst d hd)]
      exact hv
    · have h1:=(sv j).mono _ _ _ he.imm (hm.new j p d hp hj hd)
      cases hdo:o.dst with
      | none=>exact h1
      | some d'=>
        by_cases e:d'=d
        · subst e
          have:=Vp hnd hi hp hdo hd
          subst this
          rw [put_get_same (by rw [hm.sat.n];exact hdst d' hdo)]
          exact hv
        · rw [put_get_other e];exact h1
  · intro j hj
    rcases (uX hilt).1 hj with e | hj
    · omega
    · exact hm.low j hj
  · intro j p hp hj e he' hb
    refine (uX hilt).2 (.inr ?_)
    rcases (uX hilt).1 hj with e' | hj
    · subst e';rw [hi] at hp;cases hp;exact hpre e he' hb
    · exact hm.closed j p hp hj e he' hb
theorem Mid.done (hm:Mid G E r l N sv S L I F a W) (hN:N≤l.length) (hall:∀ j,j<N→Ld L j):Sat G E r {S with g:=xT (l.take N) sv S.g (l.take N).length} I F a W:=by
 have hs:=hm.sat
 refine⟨hs.n,fun t s hl=>?_,hs.m,hs.h,hs.d,hs.dn,hs.dk,hs.e,hs.f,hs.l⟩
 rcases zcE hl with ⟨j,p,hj,hp,hd,rfl⟩ | ⟨hg,hno⟩
 ·have hj':j<N:=by simp at hj;omega
  rw [xJ hj'] at hp
  exact hm.new j p t hp (hall j hj') hd
 ·exact hm.old t s hg fun j p hp hd hj=>hno j p (by have:=hm.low j hj;simp;omega) (by rw [xJ (hm.low j hj)];exact hp) hd
end mid
def uP (L:Array Bool):Nat:=L.toList.count false
theorem zbj {L:Array Bool} {i:Nat} (hi:i<L.size) (hn:¬ Ld L i):uP L=uP (L.setIfInBounds i true)+1:=by
 have h0:L[i]=false:=by
  unfold Ld at hn
  simp only [Array.getD_eq_getD_getElem?,Array.getElem?_eq_getElem hi,Option.getD_some] at hn
  simpa using hn
 unfold uP
 have:(L.setIfInBounds i true).toList=L.toList.set i true:=by simp
 have hc:0<L.toList.count false:=List.count_pos_iff.2 (by rw [←h0];simp)
 have h1:(L.toList.set i true).count false=L.toList.count false-1:=by
  rw [List.count_set (by simpa using hi)];simp [h0]
 rw [this,h1];omega
theorem qW {L:Array Bool} (h:uP L=0) {j:Nat} (hj:j<L.size):Ld L j:=by
 unfold uP at h
 have:=List.count_eq_zero.1 h
 unfold Ld
 simp only [Array.getD_eq_getD_getElem?,Array.getElem?_eq_getElem hj,Option.getD_some]
 cases hx:L[j] with
 | true=>rfl
 | false=>exact absurd (by rw [←hx];simp) this
class Mixed (P:Program):Prop where
 h:P.follows .mixedOrders=true
end Go.Sv
