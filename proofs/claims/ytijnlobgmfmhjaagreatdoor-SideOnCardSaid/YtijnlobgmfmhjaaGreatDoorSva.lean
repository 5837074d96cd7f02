/- The ground of a small program logic over the kit's calculus: facts about values (SV), the ghost map of immutable blocks, owned blocks, how one state may follow another. Nothing here speaks of a program. -/
import Derived.WalkKit
import Derived.OrdersIn
import Derived.RangeFuncNested
import Derived.RangeFuncLeaves
namespace Go.Sv
open Go Go.RowKit

def Imm := Nat → Option (Array Value)
def Imm.le (I J : Imm) : Prop := ∀ b c, I b = some c → J b = some c
theorem Imm.le_refl (I : Imm) : I.le I := fun _ _ h => h
theorem Imm.le_trans {I J K : Imm} (h : I.le J) (k : J.le K) : I.le K := fun b c e => k b c (h b c e)

structure SV where
  den : Imm → Value → Prop
  mono : ∀ I J v, Imm.le I J → den I v → den J v

def eqS (x : Value) : SV := ⟨fun _ v => v = x, fun _ _ _ _ h => h⟩
abbrev intS (k : IntKind) (n : Int) : SV := eqS (.int k n)
abbrev boolS (b : Bool) : SV := eqS (.bool b)
def anyBool : SV := ⟨fun _ v => ∃ b, v = .bool b, fun _ _ _ _ h => h⟩
def anyS : SV := ⟨fun _ _ => True, fun _ _ _ _ h => h⟩

def cellsAt (I : Imm) (b o : Nat) (cs : List SV) : Prop :=
  ∃ c, I b = some c ∧ ∀ i s, cs[i]? = some s → ∃ x, c[o + i]? = some x ∧ s.den I x ∧ x.oneCell' = true
theorem cellsAt.mono {I J : Imm} {b o : Nat} {cs : List SV} (hl : I.le J) (h : cellsAt I b o cs) : cellsAt J b o cs := by
  obtain ⟨c, hc, h⟩ := h
  exact ⟨c, hl _ _ hc, fun i s hi => by obtain ⟨x, hx, hd, h1⟩ := h i s hi; exact ⟨x, hx, s.mono _ _ _ hl hd, h1⟩⟩

def ptrS (cs : List SV) : SV :=
  ⟨fun I v => ∃ b o, v = .pointer (some ⟨b, o, none⟩) ∧ cellsAt I b o cs,
   fun _ _ _ hl ⟨b, o, hv, h⟩ => ⟨b, o, hv, h.mono hl⟩⟩

/-- the values of a list of facts, one each -/
def dens (I : Imm) (cs : List SV) (xs : List Value) : Prop := xs.length = cs.length ∧ ∀ (i : Nat) s x, cs[i]? = some s → xs[i]? = some x → s.den I x
theorem dens.mono {I J : Imm} {cs : List SV} {xs : List Value} (hl : I.le J) (h : dens I cs xs) : dens J cs xs :=
  ⟨h.1, fun i s x hi hx => s.mono _ _ _ hl (h.2 i s x hi hx)⟩
theorem dens_nil {I : Imm} : dens I [] [] := ⟨rfl, fun i s x h => by simp at h⟩
theorem dens_cons {I : Imm} {s : SV} {cs : List SV} {x : Value} {xs : List Value} (h : s.den I x) (k : dens I cs xs) : dens I (s :: cs) (x :: xs) := by
  refine ⟨by simp [k.1], fun i s' x' hi hx => ?_⟩
  cases i with
  | zero => simp at hi hx; subst hi; subst hx; exact h
  | succ i => simp at hi hx; exact k.2 i s' x' hi hx
theorem dens_cons_inv {I : Imm} {s : SV} {cs : List SV} {xs : List Value} (h : dens I (s :: cs) xs) : ∃ x r, xs = x :: r ∧ s.den I x ∧ dens I cs r := by
  cases xs with
  | nil => exact absurd h.1 (by simp)
  | cons x r => exact ⟨x, r, rfl, h.2 0 s x rfl rfl, by simpa using h.1, fun i s' x' hi hx => h.2 (i + 1) s' x' (by simpa using hi) (by simpa using hx)⟩
theorem dens_nil_inv {I : Imm} {xs : List Value} (h : dens I [] xs) : xs = [] := List.eq_nil_of_length_eq_zero (by simpa using h.1)
theorem dens.get {I : Imm} {cs : List SV} {xs : List Value} (h : dens I cs xs) {i : Nat} {s : SV} (hi : cs[i]? = some s) : ∃ x, xs[i]? = some x ∧ s.den I x := by
  have hlt : i < cs.length := by rcases Nat.lt_or_ge i cs.length with h | h; exact h; simp [List.getElem?_eq_none h] at hi
  have hlt' : i < xs.length := by rw [h.1]; exact hlt
  exact ⟨xs[i], by simp [hlt'], h.2 i s _ hi (by simp [hlt'])⟩
theorem dens.append {I : Imm} {cs ds : List SV} {xs ys : List Value} (h : dens I cs xs) (k : dens I ds ys) : dens I (cs ++ ds) (xs ++ ys) := by
  refine ⟨by simp [h.1, k.1], fun i s x hi hx => ?_⟩
  by_cases hc : i < cs.length
  · rw [List.getElem?_append_left hc] at hi
    rw [List.getElem?_append_left (by rw [h.1]; exact hc)] at hx
    exact h.2 i s x hi hx
  · rw [List.getElem?_append_right (by omega)] at hi
    rw [List.getElem?_append_right (by rw [h.1]; omega), h.1] at hx
    exact k.2 _ s x hi hx

def allOne (c : List Value) : Prop := ∀ x ∈ c, x.oneCell' = true

def aggS (cs : List SV) : SV :=
  ⟨fun I v => ∃ xs : List Value, v = .agg xs.toArray ∧ dens I cs xs ∧ allOne xs,
   fun _ _ _ hl ⟨xs, hv, h, h1⟩ => ⟨xs, hv, h.mono hl, h1⟩⟩
def tupS (cs : List SV) : SV :=
  ⟨fun I v => ∃ xs : List Value, v = .tuple xs.toArray ∧ dens I cs xs, fun _ _ _ hl ⟨xs, hv, h⟩ => ⟨xs, hv, h.mono hl⟩⟩
def fnS (f : FuncId) (caps : List SV) : SV :=
  ⟨fun I v => ∃ xs : List Value, v = .func (.func f) #[] xs.toArray ∧ dens I caps xs, fun _ _ _ hl ⟨xs, hv, h⟩ => ⟨xs, hv, h.mono hl⟩⟩

def big : Nat := 140737488355328
/-- A slice that nobody writes any more: element i of the list lies there as the cells 'f l[i]', each of 'st' cells. -/
def slS {α : Type} (st : Nat) (f : α → List SV) (l : List α) : SV :=
  ⟨fun I v => ∃ a cap, v = .slice a l.length cap ∧ l.length ≤ cap ∧ l.length ≤ big ∧ (l = [] ∨ ∃ b o, a = some ⟨b, o, none⟩ ∧ ∀ i x, l[i]? = some x → cellsAt I b (o + i * st) (f x)),
   fun _ _ _ hl ⟨a, cap, hv, h1, h2, h3⟩ => ⟨a, cap, hv, h1, h2, h3.imp id fun ⟨b, o, ha, h⟩ => ⟨b, o, ha, fun i x hx => (h i x hx).mono hl⟩⟩⟩

/-- of one cell: it may be stored, or boxed -/
def SV.One (s : SV) : Prop := ∀ I v, s.den I v → v.oneCell' = true
theorem one_eqS {x : Value} (h : x.oneCell' = true) : (eqS x).One := fun _ v hv => by rw [show v = x from hv]; exact h
theorem one_ptrS {cs : List SV} : (ptrS cs).One := fun _ _ ⟨_, _, hv, _⟩ => by subst hv; rfl
theorem one_slS {α : Type} {st : Nat} {f : α → List SV} {l : List α} : (slS st f l).One := fun _ _ ⟨_, _, hv, _⟩ => by subst hv; rfl
theorem one_fnS {f : FuncId} {cs : List SV} : (fnS f cs).One := fun _ _ ⟨_, hv, _⟩ => by subst hv; rfl
theorem one_anyBool : anyBool.One := fun _ _ ⟨_, hv⟩ => by subst hv; rfl

/-- what a value of the fact s fills in memory -/
inductive Flat : SV → List SV → Prop
  | one {s : SV} (h : s.One) : Flat s [s]
  | agg {cs : List SV} : Flat (aggS cs) cs

theorem Flat.cells {s : SV} {cs : List SV} (h : Flat s cs) {I : Imm} {v : Value} (hv : s.den I v) : dens I cs v.cells.toList ∧ allOne v.cells.toList := by
  cases h with
  | one h1 =>
    have h2 := h1 I v hv
    cases v <;> simp [Value.oneCell'] at h2 <;> exact ⟨dens_cons hv dens_nil, by intro x hx; simp [Value.cells] at hx; subst hx; rfl⟩
  | agg => obtain ⟨xs, rfl, hd, h1⟩ := hv; exact ⟨by simpa [Value.cells] using hd, by simpa [Value.cells] using h1⟩

/-! ### Worlds -/
structure Holds (G I : Imm) (W : World) : Prop where
  glob : G.le I
  mem : ∀ b c, I b = some c → ∃ e f, W.heap[b]? = some (.cells c e f)

/-- an owned block: its number (none: there is no block, and nothing in it), what its first cells hold, how many cells stand behind these -/
structure HE where
  b : Option Nat
  e : TypeId
  cs : List SV
  rest : Nat
abbrev HL := List HE
def bs (H : HL) : List Nat := H.filterMap (·.b)
def blockIs (I : Imm) (W : World) (b : Nat) (e : TypeId) (cs : List SV) (rest : Nat) : Prop :=
  I b = none ∧ ∃ c, W.heap[b]? = some (.cells c e (0, 0)) ∧ c.size = cs.length + rest ∧ allOne (c.toList.take cs.length) ∧ dens I cs (c.toList.take cs.length)
def entIs (I : Imm) (W : World) (p : HE) : Prop := match p.b with
  | none => p.cs = []
  | some b => blockIs I W b p.e p.cs p.rest
structure HoldsH (H : HL) (I : Imm) (W : World) : Prop where
  nodup : (bs H).Nodup
  mem : ∀ p ∈ H, entIs I W p
theorem mem_bs {H : HL} {p : HE} {b : Nat} (hp : p ∈ H) (hb : p.b = some b) : b ∈ bs H := List.mem_filterMap.2 ⟨p, hp, hb⟩
theorem of_mem_bs {H : HL} {b : Nat} (h : b ∈ bs H) : ∃ p ∈ H, p.b = some b := by simpa [bs] using h

/-- One state follows another: of the blocks that were there only those of O may have turned; what is new and immutable is new, or was of O; O' are of O, or new. -/
structure Fram (O : Nat → Prop) (I : Imm) (W : World) (O' : Nat → Prop) (I' : Imm) (W' : World) : Prop where
  os : W'.os = W.os
  tape : W'.tape = W.tape
  output : W'.output = W.output
  imm : I.le I'
  size : W.heap.size ≤ W'.heap.size
  old : ∀ b, b < W.heap.size → ¬ O b → W'.heap[b]? = W.heap[b]?
  new : ∀ b, I b = none → I' b ≠ none → O b ∨ W.heap.size ≤ b
  own : ∀ b, O' b → O b ∨ W.heap.size ≤ b

theorem Fram.refl (O : Nat → Prop) (I : Imm) (W : World) : Fram O I W O I W :=
  ⟨rfl, rfl, rfl, Imm.le_refl I, Nat.le_refl _, fun _ _ _ => rfl, fun _ h h' => absurd h h', fun _ h => .inl h⟩
theorem Fram.trans {O O' O'' : Nat → Prop} {I I' I'' : Imm} {W W' W'' : World} (h : Fram O I W O' I' W') (k : Fram O' I' W' O'' I'' W'') : Fram O I W O'' I'' W'' where
  os := k.os.trans h.os
  tape := k.tape.trans h.tape
  output := k.output.trans h.output
  imm := Imm.le_trans h.imm k.imm
  size := Nat.le_trans h.size k.size
  old := fun b hb ho => by
    rw [k.old b (Nat.lt_of_lt_of_le hb h.size) (fun h' => by rcases h.own b h' with h1 | h1; exact ho h1; omega)]
    exact h.old b hb ho
  new := fun b hn hn' => by
    cases hI : I' b with
    | none => rcases k.new b hI hn' with h1 | h1
              · exact h.own b h1
              · exact .inr (Nat.le_trans h.size h1)
    | some c => exact h.new b hn (by simp [hI])
  own := fun b hb => by
    rcases k.own b hb with h1 | h1
    · exact h.own b h1
    · exact .inr (Nat.le_trans h.size h1)
theorem Fram.weaken {O O₁ O' O₁' : Nat → Prop} {I I' : Imm} {W W' : World} (h : Fram O I W O' I' W') (ho : ∀ b, O b → O₁ b) (ho' : ∀ b, O₁' b → O' b ∨ O₁ b) : Fram O₁ I W O₁' I' W' :=
  ⟨h.os, h.tape, h.output, h.imm, h.size, fun b hb hn => h.old b hb (fun h' => hn (ho b h')), fun b hn hn' => (h.new b hn hn').imp (ho b) id, fun b hb => by
    rcases ho' b hb with h1 | h1
    · exact (h.own b h1).imp (ho b) id
    · exact .inl h1⟩

/-- Nothing that was there has turned. -/
abbrev Ext (I : Imm) (W : World) (I' : Imm) (W' : World) : Prop := Fram (fun _ => False) I W (fun _ => False) I' W'
theorem Ext.old' {I I' : Imm} {W W' : World} (h : Ext I W I' W') {b : Nat} (hb : b < W.heap.size) : W'.heap[b]? = W.heap[b]? := h.old b hb (fun h => h)
theorem Ext.new' {I I' : Imm} {W W' : World} (h : Ext I W I' W') {b : Nat} (hn : I b = none) (hb : b < W.heap.size) : I' b = none := by
  cases hI : I' b with
  | none => rfl
  | some c => rcases h.new b hn (by simp [hI]) with h1 | h1; exact h1.elim; omega
theorem lt_of_some {W : World} {b : Nat} {o : Obj} (h : W.heap[b]? = some o) : b < W.heap.size := (Array.getElem?_eq_some_iff.1 h).1
theorem blockIs.lt {I : Imm} {W : World} {b e k : Nat} {cs : List SV} (h : blockIs I W b e cs k) : b < W.heap.size := by obtain ⟨_, c, h, _⟩ := h; exact lt_of_some h
/-- An owned block stays what it is where its own place does not turn. -/
theorem blockIs.keep {I I' : Imm} {W W' : World} {b e k : Nat} {cs : List SV} (h : blockIs I W b e cs k) (hi : I.le I') (hn : I' b = none) (hw : W'.heap[b]? = W.heap[b]?) : blockIs I' W' b e cs k := by
  obtain ⟨_, c, hc, hs, h1, hd⟩ := h
  exact ⟨hn, c, hw.trans hc, hs, h1, hd.mono hi⟩
theorem entIs.some {I : Imm} {W : World} {p : HE} {b : Nat} (h : entIs I W p) (hb : p.b = .some b) : blockIs I W b p.e p.cs p.rest := by unfold entIs at h; rw [hb] at h; exact h
theorem entIs.of_some {I : Imm} {W : World} {p : HE} {b : Nat} (hb : p.b = .some b) (h : blockIs I W b p.e p.cs p.rest) : entIs I W p := by unfold entIs; rw [hb]; exact h
theorem entIs.of_none {I : Imm} {W : World} {p : HE} (hb : p.b = none) (h : p.cs = []) : entIs I W p := by unfold entIs; rw [hb]; exact h
theorem entIs.none {I : Imm} {W : World} {p : HE} (h : entIs I W p) (hb : p.b = none) : p.cs = [] := by unfold entIs at h; rw [hb] at h; exact h
theorem HoldsH.lt {H : HL} {I : Imm} {W : World} (h : HoldsH H I W) {b : Nat} (hb : b ∈ bs H) : b < W.heap.size ∧ I b = none := by
  obtain ⟨p, hp, he⟩ := of_mem_bs hb
  have := (h.mem p hp).some he
  exact ⟨this.lt, this.1⟩
theorem HoldsH.keep {H : HL} {O O' : Nat → Prop} {I I' : Imm} {W W' : World} (h : HoldsH H I W) (f : Fram O I W O' I' W') (ho : ∀ b ∈ bs H, ¬ O b) : HoldsH H I' W' := by
  refine ⟨h.nodup, fun p hp => ?_⟩
  cases hb : p.b with
  | none => exact .of_none hb ((h.mem p hp).none hb)
  | some b =>
    have hm := (h.mem p hp).some hb
    have hbb := mem_bs hp hb
    refine .of_some hb (hm.keep f.imm ?_ (f.old _ hm.lt (ho _ hbb)))
    cases hI : I' b with
    | none => rfl
    | some c => rcases f.new _ hm.1 (by simp [hI]) with h1 | h1
                · exact absurd h1 (ho _ hbb)
                · have := hm.lt; omega

/-! ### The three ways in which an operation makes the next world -/
theorem alloc_heap_old (w : World) (o : Obj) {k : Nat} (h : k < w.heap.size) : (w.alloc o).heap[k]? = w.heap[k]? := Below.heap_alloc w o k h
theorem alloc_heap_at (w : World) (o : Obj) : (w.alloc o).heap[w.heap.size]? = some o := World.alloc_heap_new w o

def Imm.with (I : Imm) (b : Nat) (c : Array Value) : Imm := fun k => if k = b then some c else I k
theorem Imm.with_le {I : Imm} {b : Nat} {c : Array Value} (h : I b = none) : I.le (I.with b c) := fun k d hk => by
  unfold Imm.with
  split
  · rename_i e; subst e; rw [h] at hk; cases hk
  · exact hk
theorem Holds.none_new {G I : Imm} {W : World} (h : Holds G I W) : I W.heap.size = none := by
  cases hI : I W.heap.size with
  | none => rfl
  | some c => obtain ⟨e, f, hc⟩ := h.mem _ _ hI; exact absurd (lt_of_some hc) (by omega)
/-- A new block that nobody writes. -/
theorem ext_alloc {G I : Imm} {W : World} (h : Holds G I W) {c : Array Value} {e : TypeId} :
    Holds G (I.with W.heap.size c) (W.alloc (.cells c e)) ∧ Ext I W (I.with W.heap.size c) (W.alloc (.cells c e)) := by
  have hn := h.none_new
  have hle : I.le (I.with W.heap.size c) := Imm.with_le hn
  refine ⟨⟨Imm.le_trans h.glob hle, fun b d hb => ?_⟩, ⟨rfl, rfl, rfl, hle, by simp, fun b hb _ => alloc_heap_old _ _ hb, fun b hb hb' => ?_, fun b hb => hb.elim⟩⟩
  · unfold Imm.with at hb
    split at hb
    · rename_i e'; subst e'; cases hb; exact ⟨e, (0, 0), alloc_heap_at _ _⟩
    · obtain ⟨e', f, hc⟩ := h.mem _ _ hb
      exact ⟨e', f, (alloc_heap_old _ _ (lt_of_some hc)).trans hc⟩
  · unfold Imm.with at hb'
    split at hb'
    · rename_i e'; subst e'; exact .inr (Nat.le_refl _)
    · exact absurd hb hb'
/-- A new block of one's own. -/
theorem fram_alloc {G I : Imm} {W : World} (h : Holds G I W) (o : Obj) (O : Nat → Prop) : Holds G I (W.alloc o) ∧ Fram O I W (fun b => O b ∨ b = W.heap.size) I (W.alloc o) := by
  refine ⟨⟨h.glob, fun b d hb => ?_⟩, ⟨rfl, rfl, rfl, Imm.le_refl _, by simp, fun b hb _ => alloc_heap_old _ _ hb, fun b hb hb' => absurd hb hb', fun b hb => hb.imp id (fun e => by omega)⟩⟩
  obtain ⟨e', f, hc⟩ := h.mem _ _ hb
  exact ⟨e', f, (alloc_heap_old _ _ (lt_of_some hc)).trans hc⟩
theorem ext_drawn {G I : Imm} {W : World} (h : Holds G I W) (n : Nat) : Holds G I { W with drawn := n } ∧ Ext I W I { W with drawn := n } :=
  ⟨⟨h.glob, h.mem⟩, ⟨rfl, rfl, rfl, Imm.le_refl _, Nat.le_refl _, fun _ _ _ => rfl, fun _ h h' => absurd h h', fun _ h => h.elim⟩⟩
/-- One block of one's own turns. -/
theorem fram_put {G I : Imm} {W W' : World} (h : Holds G I W) {b : Nat} (hb : I b = none) (hos : W'.os = W.os) (ht : W'.tape = W.tape) (ho : W'.output = W.output) (hs : W'.heap.size = W.heap.size)
    (hk : ∀ k, k ≠ b → W'.heap[k]? = W.heap[k]?) : Holds G I W' ∧ Fram (fun k => k = b) I W (fun k => k = b) I W' := by
  refine ⟨⟨h.glob, fun k d hd => ?_⟩, ⟨hos, ht, ho, Imm.le_refl _, by omega, fun k _ hk' => hk k hk', fun b hb hb' => absurd hb hb', fun k hk' => .inl hk'⟩⟩
  obtain ⟨e', f, hc⟩ := h.mem _ _ hd
  exact ⟨e', f, (hk k (fun e => by subst e; rw [hb] at hd; cases hd)).trans hc⟩
end Go.Sv
