/- The rules of the operations on memory that turn nothing that was there: loads, addresses, new immutable blocks, slices. -/
import Derived.Test.YtijnlobgmfmhjaaGreatDoorSve
namespace Go.Sv
open Go Go.RowKit

class One (s : SV) : Prop where
  h : s.One
instance {cs : List SV} : One (ptrS cs) := ⟨one_ptrS⟩
instance {α : Type} {st : Nat} {f : α → List SV} {l : List α} : One (slS st f l) := ⟨one_slS⟩
instance {f : FuncId} {cs : List SV} : One (fnS f cs) := ⟨one_fnS⟩
instance : One anyBool := ⟨one_anyBool⟩
instance {k : IntKind} {n : Int} : One (eqS (.int k n)) := ⟨one_eqS rfl⟩
instance {b : Bool} : One (eqS (.bool b)) := ⟨one_eqS rfl⟩
instance {b : Option Addr} : One (eqS (.pointer b)) := ⟨one_eqS rfl⟩
instance {b : Option Addr} {n c : Nat} : One (eqS (.slice b n c)) := ⟨one_eqS rfl⟩
instance {s : ByteArray} : One (eqS (.string s)) := ⟨one_eqS rfl⟩
instance : One (eqS .nilFunc) := ⟨one_eqS rfl⟩
instance {f : Fn} {x y : Array Value} : One (eqS (.func f x y)) := ⟨one_eqS rfl⟩
class FlatC (s : SV) (cs : outParam (List SV)) : Prop where
  h : Flat s cs
instance flat_agg {cs : List SV} : FlatC (aggS cs) cs := ⟨.agg⟩
instance (priority := low) flat_one {s : SV} [One s] : FlatC s [s] := ⟨.one One.h⟩
class FlatL (l : List (Nat × SV)) (r : outParam (List (Nat × List SV))) : Prop where
  h : l.length = r.length ∧ ∀ (j : Nat) p q, l[j]? = some p → r[j]? = some q → p.1 = q.1 ∧ Flat p.2 q.2
instance : FlatL [] [] := ⟨rfl, by simp⟩
instance {i : Nat} {s : SV} {cs : List SV} {l : List (Nat × SV)} {r : List (Nat × List SV)} [FlatC s cs] [FlatL l r] : FlatL ((i, s) :: l) ((i, cs) :: r) :=
  ⟨by simp [(FlatL.h (l := l) (r := r)).1], fun j p q hp hq => by
    cases j with
    | zero => simp at hp hq; subst hp; subst hq; exact ⟨rfl, FlatC.h⟩
    | succ j => exact (FlatL.h (l := l) (r := r)).2 j p q (by simpa using hp) (by simpa using hq)⟩

class IsZero (P : Program) (t : TypeId) (zs : outParam (List Value)) : Prop where
  i : ∃ i z, P.info? t = some i ∧ i.zero = some z ∧ z.cells = zs.toArray ∧ i.size = zs.length
  one : allOne zs

section mem
variable {P : Program} {G : Imm} {H : HL} {o : Oper} {g : List (Nat × SV)} {s : SV}

theorem cell_of_heap {W : World} {b off : Nat} {c : Array Value} {e : TypeId} {f : Nat × Nat} (h : W.heap[b]? = some (.cells c e f)) : W.cell? ⟨b, off, none⟩ = c[off]? := by simp [World.cell?, h]
theorem add_spot (b off n : Nat) : Addr.add ⟨b, off, none⟩ n = ⟨b, off + n, none⟩ := by unfold Addr.add; split <;> simp_all
theorem run_loadVar_scalar {t : TypeId} [IsScalar P t] {W : World} {b off : Nat} {x : Value} (h : W.cell? ⟨b, off, none⟩ = some x) : (loadVar t ⟨b, off, none⟩).run P W = .ok x W := by
  obtain ⟨d, hd, hs⟩ := IsScalar.h (P := P) (t := t)
  have : (isAgg t).run P W = .ok false W := by
    unfold isAgg; simp only [Sem.run_bind, run_underlying hd, Result.andThen_ok]
    cases d <;> simp_all
  simp [loadVar, this, h]
theorem run_loadVar_agg {t n : Nat} [IsAgg P t n] {W : World} {b off : Nat} {cs : List Value} (hl : cs.length = n) (h : ∀ j v, cs[j]? = some v → W.cell? ⟨b, off + j, none⟩ = some v) :
    (loadVar t ⟨b, off, none⟩).run P W = .ok (.agg cs.toArray) W := by
  obtain ⟨d, hd, hs⟩ := IsAgg.h (P := P) (t := t) (n := n)
  obtain ⟨i, hi, hn⟩ := IsAgg.i (P := P) (t := t) (n := n)
  have h1 : (isAgg t).run P W = .ok true W := by
    unfold isAgg; simp only [Sem.run_bind, run_underlying hd, Result.andThen_ok]
    cases d <;> simp_all
  have h2 : (sizeOf t).run P W = .ok cs.length W := by simp [sizeOf, typeInfo, hi, hn, hl]
  have h3 := run_loadCells_list (P := P) W ⟨b, off, none⟩ cs (fun j v hj => by rw [add_spot]; exact h j v hj)
  simp [loadVar, h1, h2, h3]

theorem ok_load {t : TypeId} [IsScalar P t] {x : Operand} {cs : List SV} (hop : o.op = .load t x) (hx : opE g x = some (ptrS (s :: cs))) : OpOK P G H o g s :=
  ok_pure (by simp [hop]) fun I W a hm _ hr => by
    obtain ⟨b, off, hv, c, hI, hd⟩ := hr.get (by simp [hop, Op.operands]) hx
    obtain ⟨e, f, hc⟩ := hm.mem b c hI
    obtain ⟨y, hy, hs, _⟩ := hd 0 s rfl
    refine ⟨y, ?_, hs⟩
    have := run_loadVar_scalar (P := P) (t := t) (W := W) (b := b) (off := off) (x := y) (by rw [cell_of_heap hc]; exact hy)
    simp [execOp, hop, hv, Instr.loadAt, Instr.sureAddr, this]
theorem dens_of_at {I : Imm} {c : Array Value} {off n : Nat} {cs : List SV} (hn : cs.length = n) (hd : ∀ i s, cs[i]? = some s → ∃ x, c[off + i]? = some x ∧ s.den I x ∧ x.oneCell' = true) :
    ∃ xs : List Value, xs.length = n ∧ (∀ j v, xs[j]? = some v → c[off + j]? = some v) ∧ dens I cs xs ∧ allOne xs := by
  induction cs generalizing off n with
  | nil => exact ⟨[], by simpa using hn, by simp, dens_nil, by intro x hx; cases hx⟩
  | cons s cs ih =>
    obtain ⟨x, hx, hs, ho⟩ := hd 0 s rfl
    obtain ⟨xs, h1, h2, h3, h4⟩ := ih (off := off + 1) (n := cs.length) rfl (fun i s hi => by have := hd (i + 1) s (by simpa using hi); rwa [show off + (i + 1) = off + 1 + i from by omega] at this)
    refine ⟨x :: xs, by simp [h1, ← hn], fun j v hj => ?_, dens_cons hs h3, fun y hy => (List.mem_cons.1 hy).elim (fun e => by subst e; exact ho) (h4 y)⟩
    cases j with
    | zero => simp at hj; subst hj; exact hx
    | succ j => rw [show off + (j + 1) = off + 1 + j from by omega]; exact h2 j v (by simpa using hj)
theorem ok_load_agg {t n : Nat} [IsAgg P t n] {x : Operand} {cs ds : List SV} (hop : o.op = .load t x) (hx : opE g x = some (ptrS cs)) (hd : cs.take n = ds) (hn : ds.length = n) : OpOK P G H o g (aggS ds) :=
  ok_pure (by simp [hop]) fun I W a hm _ hr => by
    obtain ⟨b, off, hv, c, hI, hc'⟩ := hr.get (by simp [hop, Op.operands]) hx
    obtain ⟨e, f, hc⟩ := hm.mem b c hI
    obtain ⟨xs, hx1, hx2, hx3, hx4⟩ := dens_of_at (c := c) (off := off) hn (fun i s hi => hc' i s (by rw [← hd] at hi; rw [List.getElem?_take] at hi; split at hi <;> simp_all))
    refine ⟨.agg xs.toArray, ?_, xs, rfl, hx3, hx4⟩
    have := run_loadVar_agg (P := P) (t := t) (n := n) (W := W) (b := b) (off := off) (cs := xs) hx1 (fun j v hj => by rw [cell_of_heap hc]; exact hx2 j v hj)
    simp [execOp, hop, hv, Instr.loadAt, Instr.sureAddr, this]

/-! loads out of an owned block -/
theorem own_cells {I : Imm} {W : World} {b e k : Nat} {cs : List SV} (h : blockIs I W b e cs k) : ∃ c, W.heap[b]? = some (.cells c e (0, 0)) ∧ ∀ (i : Nat) (s : SV), cs[i]? = some s → ∃ x, c[i]? = some x ∧ s.den I x ∧ x.oneCell' = true := by
  obtain ⟨_, c, hc, hs, h1, hd⟩ := h
  refine ⟨c, hc, fun i s hi => ?_⟩
  obtain ⟨x, hx, hsx⟩ := hd.get hi
  have h2 := h1 x (List.mem_of_getElem? hx)
  refine ⟨x, ?_, hsx, h2⟩
  rw [List.getElem?_take] at hx
  split at hx
  · simpa using hx
  · cases hx
theorem ok_load_own (j : Nat) {t : TypeId} [IsScalar P t] {x : Operand} {b off e k : Nat} {cs : List SV} (hop : o.op = .load t x) (hx : opE g x = some (eqS (.pointer (some ⟨b, off, none⟩)))) (hH : H[j]? = some ⟨some b, e, cs, k⟩) (hs : cs[off]? = some s) : OpOK P G H o g s :=
  ok_pure (by simp [hop]) fun I W a _ hh hr => by
    have hv : a.eval x = _ := hr.get (by simp [hop, Op.operands]) hx
    obtain ⟨c, hc, hd⟩ := own_cells ((hh.mem _ (List.mem_of_getElem? hH)).some rfl)
    obtain ⟨y, hy, hys, _⟩ := hd off s hs
    refine ⟨y, ?_, hys⟩
    have := run_loadVar_scalar (P := P) (t := t) (W := W) (b := b) (off := off) (x := y) (by rw [cell_of_heap hc]; exact hy)
    simp [execOp, hop, hv, Instr.loadAt, Instr.sureAddr, this]
theorem ok_load_own_agg (j : Nat) {t n : Nat} [IsAgg P t n] {x : Operand} {b off e k : Nat} {cs ds : List SV} (hop : o.op = .load t x) (hx : opE g x = some (eqS (.pointer (some ⟨b, off, none⟩)))) (hH : H[j]? = some ⟨some b, e, cs, k⟩) (hd : (cs.drop off).take n = ds) (hn : ds.length = n) : OpOK P G H o g (aggS ds) :=
  ok_pure (by simp [hop]) fun I W a _ hh hr => by
    have hv : a.eval x = _ := hr.get (by simp [hop, Op.operands]) hx
    obtain ⟨c, hc, hcs⟩ := own_cells ((hh.mem _ (List.mem_of_getElem? hH)).some rfl)
    obtain ⟨xs, hx1, hx2, hx3, hx4⟩ := dens_of_at (c := c) (off := off) hn (fun i s hi => by
      rw [← hd, List.getElem?_take] at hi
      split at hi
      · rw [List.getElem?_drop] at hi; exact hcs _ s hi
      · cases hi)
    refine ⟨.agg xs.toArray, ?_, xs, rfl, hx3, hx4⟩
    have := run_loadVar_agg (P := P) (t := t) (n := n) (W := W) (b := b) (off := off) (cs := xs) hx1 (fun j v hj => by rw [cell_of_heap hc]; exact hx2 j v hj)
    simp [execOp, hop, hv, Instr.loadAt, Instr.sureAddr, this]

/-! addresses -/
theorem run_fieldAt {st k off : Nat} [IsField P st k off] {W : World} (b p : Nat) : (Instr.fieldAt st (.pointer (some ⟨b, p, none⟩)) k).run P W = .ok (.pointer (some ⟨b, p + off, none⟩)) W := by
  obtain ⟨fs, f, i, hu, hf, ho, hi, hz⟩ := IsField.h (P := P) (s := st) (k := k) (off := off)
  have h2 : (fieldPlace ⟨b, p, none⟩ f).run P W = .ok ⟨b, p + off, none⟩ W := by
    simp [fieldPlace, sizeOf, typeInfo, hi, hz, add_spot, ho]
  simp only [Instr.fieldAt, Sem.run_bind, run_underlying hu, Result.andThen_ok, hf, Instr.sureAddr, Sem.run_pure, h2]
theorem ok_fieldAddr {st k off : Nat} [IsField P st k off] {x : Operand} {cs ds : List SV} (hop : o.op = .fieldAddr st x k) (hx : opE g x = some (ptrS cs)) (hd : cs.drop off = ds) : OpOK P G H o g (ptrS ds) :=
  ok_pure (by simp [hop]) fun I W a _ _ hr => by
    obtain ⟨b, p, hv, c, hI, hc⟩ := hr.get (by simp [hop, Op.operands]) hx
    refine ⟨.pointer (some ⟨b, p + off, none⟩), ?_, b, p + off, rfl, c, hI, fun i s hi => ?_⟩
    · simp [execOp, hop, hv, run_fieldAt (P := P) (st := st) (k := k) (off := off)]
    · rw [← hd, List.getElem?_drop] at hi
      rw [show p + off + i = p + (off + i) from by omega]; exact hc _ s hi
theorem ok_fieldAddr_eq {st k off : Nat} [IsField P st k off] {x : Operand} {b p q : Nat} (hop : o.op = .fieldAddr st x k) (hx : opE g x = some (eqS (.pointer (some ⟨b, p, none⟩)))) (hq : p + off = q) : OpOK P G H o g (eqS (.pointer (some ⟨b, q, none⟩))) :=
  ok_pure (by simp [hop]) fun I W a _ _ hr => by
    have hv : a.eval x = _ := hr.get (by simp [hop, Op.operands]) hx
    refine ⟨.pointer (some ⟨b, q, none⟩), ?_, rfl⟩
    simp [execOp, hop, hv, run_fieldAt (P := P) (st := st) (k := k) (off := off), hq]
theorem run_indexAt_sl {t e st : Nat} [IsSl P t e st] {W : World} (b p len cap : Nat) (k : IntKind) (i : Int) (h0 : 0 ≤ i) (h1 : i < len) :
    (Instr.indexAt t (.slice (some ⟨b, p, none⟩) len cap) (.int k i)).run P W = .ok (.pointer (some ⟨b, p + i.toNat * st, none⟩)) W := by
  obtain ⟨j, hj, hs⟩ := IsSl.i (P := P) (t := t) (e := e) (st := st)
  simp [Instr.indexAt, run_underlying (IsSl.u (P := P) (t := t) (e := e) (st := st)), asIntOf, h0, h1, sizeOf, typeInfo, hj, hs, add_spot]
theorem ok_indexAddr {t e st : Nat} [IsSl P t e st] {x ix : Operand} {α : Type} {f : α → List SV} {l : List α} {k : IntKind} {i : Int} {y : α} (hop : o.op = .indexAddr t x ix) (hx : opE g x = some (slS st f l)) (hi : opE g ix = some (intS k i)) (h0 : 0 ≤ i) (hy : l[i.toNat]? = some y) :
    OpOK P G H o g (ptrS (f y)) :=
  ok_pure (by simp [hop]) fun I W a _ _ hr => by
    obtain ⟨ad, cap, hv, h1, h2, h3⟩ := hr.get (by simp [hop, Op.operands]) hx
    have hvi : a.eval ix = .int k i := hr.get (by simp [hop, Op.operands]) hi
    have hlt : i.toNat < l.length := lt_of_get hy
    rcases h3 with rfl | ⟨b, p, rfl, hc⟩
    · simp at hlt
    · refine ⟨.pointer (some ⟨b, p + i.toNat * st, none⟩), ?_, b, _, rfl, hc _ _ hy⟩
      simp [execOp, hop, hv, hvi, run_indexAt_sl (P := P) (t := t) (e := e) (st := st) b p l.length cap k i h0 (by omega)]
theorem ok_indexAddr_eq {t e st : Nat} [IsSl P t e st] {x ix : Operand} {b p len cap : Nat} {k : IntKind} {i : Int} {q : Nat} (hop : o.op = .indexAddr t x ix) (hx : opE g x = some (eqS (.slice (some ⟨b, p, none⟩) len cap))) (hi : opE g ix = some (intS k i)) (h0 : 0 ≤ i) (h1 : i < len) (hq : p + i.toNat * st = q) :
    OpOK P G H o g (eqS (.pointer (some ⟨b, q, none⟩))) :=
  ok_pure (by simp [hop]) fun I W a _ _ hr => by
    have hv : a.eval x = _ := hr.get (by simp [hop, Op.operands]) hx
    have hvi : a.eval ix = .int k i := hr.get (by simp [hop, Op.operands]) hi
    refine ⟨.pointer (some ⟨b, q, none⟩), ?_, rfl⟩
    simp [execOp, hop, hv, hvi, run_indexAt_sl (P := P) (t := t) (e := e) (st := st) b p len cap k i h0 h1, hq]

/-! lengths, extremes -/
theorem ok_len {t e st : Nat} [IsSl P t e st] {x : Operand} {α : Type} {f : α → List SV} {l : List α} {n : Nat} (hop : o.op = .call { callee := .builtin .len, args := #[x], argTypes := #[t] }) (hx : opE g x = some (slS n f l)) : OpOK P G H o g (intS .i64 l.length) :=
  ok_pure (by simp [hop]) fun I W a _ _ hr => by
    obtain ⟨ad, cap, hv, _⟩ := hr.get (by simp [hop, Op.operands, Call.operands]) hx
    refine ⟨.int .i64 l.length, ?_, rfl⟩
    simp [execOp, hop, resolve, invoke, builtin, Builtin.len_, run_underlying (IsSl.u (P := P) (t := t) (e := e) (st := st)), hv, goInt]
theorem ok_len_eq {t e st : Nat} [IsSl P t e st] {x : Operand} {ad : Option Addr} {n cap : Nat} (hop : o.op = .call { callee := .builtin .len, args := #[x], argTypes := #[t] }) (hx : opE g x = some (eqS (.slice ad n cap))) : OpOK P G H o g (intS .i64 n) :=
  ok_pure (by simp [hop]) fun I W a _ _ hr => by
    have hv : a.eval x = _ := hr.get (by simp [hop, Op.operands, Call.operands]) hx
    refine ⟨.int .i64 n, ?_, rfl⟩
    simp [execOp, hop, resolve, invoke, builtin, Builtin.len_, run_underlying (IsSl.u (P := P) (t := t) (e := e) (st := st)), hv, goInt]
theorem ok_max {x y : Operand} {ts : Array TypeId} {k : IntKind} {m n : Int} (hop : o.op = .call { callee := .builtin .max, args := #[x, y], argTypes := ts }) (hx : opE g x = some (intS k m)) (hy : opE g y = some (intS k n)) : OpOK P G H o g (intS k (max m n)) :=
  ok_pure (by simp [hop]) fun I W a _ _ hr => by
    have h1 : a.eval x = .int k m := hr.get (by simp [hop, Op.operands, Call.operands]) hx
    have h2 : a.eval y = .int k n := hr.get (by simp [hop, Op.operands, Call.operands]) hy
    refine ⟨.int k (max m n), ?_, rfl⟩
    have : (if n > m then n else m) = max m n := by rw [Int.max_def]; split <;> split <;> omega
    simp [execOp, hop, resolve, invoke, builtin, Builtin.max_, Builtin.max2, h1, h2, this]
theorem ok_min {x y : Operand} {ts : Array TypeId} {k : IntKind} {m n : Int} (hop : o.op = .call { callee := .builtin .min, args := #[x, y], argTypes := ts }) (hx : opE g x = some (intS k m)) (hy : opE g y = some (intS k n)) : OpOK P G H o g (intS k (min m n)) :=
  ok_pure (by simp [hop]) fun I W a _ _ hr => by
    have h1 : a.eval x = .int k m := hr.get (by simp [hop, Op.operands, Call.operands]) hx
    have h2 : a.eval y = .int k n := hr.get (by simp [hop, Op.operands, Call.operands]) hy
    refine ⟨.int k (min m n), ?_, rfl⟩
    have : (if n < m then n else m) = min m n := by rw [Int.min_def]; split <;> split <;> omega
    simp [execOp, hop, resolve, invoke, builtin, Builtin.min_, Builtin.min2, h1, h2, this]

/-! parts of a tuple; closures -/
theorem ok_extract {x : Operand} {i : Nat} {cs : List SV} (hop : o.op = .extract x i) (hx : opE g x = some (tupS cs)) (hs : cs[i]? = some s) : OpOK P G H o g s :=
  ok_pure (by simp [hop]) fun I W a _ _ hr => by
    obtain ⟨xs, hv, hd⟩ := hr.get (by simp [hop, Op.operands]) hx
    obtain ⟨y, hy, hys⟩ := hd.get hs
    exact ⟨y, by simp [execOp, hop, hv, Instr.extract, hy], hys⟩
def argsE (g : List (Nat × SV)) : List Operand → Option (List SV)
  | [] => some []
  | x :: l => match opE g x, argsE g l with
    | some s, some r => some (s :: r)
    | _, _ => none
theorem argsE_dens {g : List (Nat × SV)} {I : Imm} {a : Act} : ∀ {l : List Operand} {cs : List SV}, argsE g l = some cs → (∀ x ∈ l, ∀ s, opE g x = some s → s.den I (a.eval x)) → dens I cs (l.map a.eval)
  | [], cs, h, _ => by simp [argsE] at h; subst h; exact dens_nil
  | x :: l, cs, h, hr => by
    simp only [argsE] at h
    split at h
    · rename_i s r h1 h2
      cases h
      exact dens_cons (hr x (by simp) s h1) (argsE_dens h2 fun y hy => hr y (by simp [hy]))
    · cases h
theorem ok_makeFunc {f : FuncId} {cap : Array Operand} {cs : List SV} (hop : o.op = .makeFunc (.func f) #[] cap) (hx : argsE g cap.toList = some cs) : OpOK P G H o g (fnS f cs) :=
  ok_pure (by simp [hop]) fun I W a _ _ hr => by
    have hd := argsE_dens (a := a) (I := I) hx fun x hx' s hs => hr x (by simp [hop, Op.operands]; simpa using hx') s hs
    refine ⟨.func (.func f) #[] (cap.toList.map a.eval).toArray, ?_, _, rfl, hd⟩
    have e : Array.map a.eval cap = (cap.toList.map a.eval).toArray := by apply Array.ext'; simp
    simp [execOp, hop, Instr.makeFunc, e]
end mem
end Go.Sv
