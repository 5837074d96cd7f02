/- Texts: the rules of the operations on strings. Nothing here speaks of a program. -/
import Derived.Test.YtofplgefmjojjaaGreatDoorSv1
import Derived.Laws.Strings
import Derived.Laws.Concat
import Derived.Laws.BytesArg
import Derived.Lib.OthersKept
import Derived.Below
namespace Go.Sv
open Go Go.RowKit
def strV (l : List UInt8) : Value := .string ⟨l.toArray⟩
abbrev strS (l : List UInt8) : SV := eqS (strV l)
instance {l : List UInt8} : One (eqS (strV l)) := ⟨one_eqS rfl⟩
theorem mk_size (l : List UInt8) : (ByteArray.mk l.toArray).size = l.length := by simp [ByteArray.size]
theorem mk_get (l : List UInt8) (i : Nat) (h : i < (ByteArray.mk l.toArray).size) (h' : i < l.length) : (ByteArray.mk l.toArray)[i]'h = l[i] := rfl
theorem str_eq {l m : List UInt8} (h : l = m) (I : Imm) (v : Value) (hv : (strS l).den I v) : (strS m).den I v := h ▸ hv
section
variable {P : Program} {G : Imm} {E : Env} {r : Option Nat} {S : St} {gd : Nat → Option Nat} {p : Bool} {o : Oper} {ops : List Oper} {K : St → Prop} {H : HL} {g : List (Nat × SV)}
theorem ok_len_str {t : TypeId} [IsStr P t] {x : Operand} {l : List UInt8} (hop : o.op = .call { callee := .builtin .len, args := #[x], argTypes := #[t] }) (hx : opE g x = some (strS l)) : OpOK P G H o g (intS .i64 l.length) :=
 ok_pure (by simp [hop]) fun I W a _ _ hr => by
  have hv : a.eval x = .string ⟨l.toArray⟩ := hr.get (by simp [hop, Op.operands, Call.operands]) hx
  refine ⟨.int .i64 l.length, ?_, rfl⟩
  simp [execOp, hop, resolve, invoke, builtin, run_len_string W t _ _ (IsStr.h (P := P) (t := t)), hv, goInt, mk_size]
def strCmp : BinOp → List UInt8 → List UInt8 → Option Bool
 | .eql, x, y => some (x == y)
 | .neq, x, y => some (!(x == y))
 | .lss, x, y => some (Op.bytesLess x y)
 | _, _, _ => none
theorem ok_cmp_str {op : BinOp} {t u : TypeId} {x y : Operand} {l m : List UInt8} {b : Bool} (hop : o.op = .binOp op t x y u) (hx : opE g x = some (strS l)) (hy : opE g y = some (strS m)) (hb : strCmp op l m = some b) : OpOK P G H o g (boolS b) :=
 ok_pure (by simp [hop]) fun I W a _ _ hr => by
  have h1 : a.eval x = .string ⟨l.toArray⟩ := hr.get (by simp [hop, Op.operands]) hx
  have h2 : a.eval y = .string ⟨m.toArray⟩ := hr.get (by simp [hop, Op.operands]) hy
  refine ⟨.bool b, ?_, rfl⟩
  cases op <;> simp only [strCmp, Option.some.injEq, reduceCtorEq] at hb
  ·subst hb; simp [execOp, hop, h1, h2, eqGuard, binOp, Op.stringOp, ByteArray.toList_mk]
  ·subst hb; simp [execOp, hop, h1, h2, eqGuard, binOp, Op.stringOp, ByteArray.toList_mk]
  ·subst hb; simp [execOp, hop, h1, h2, eqGuard, binOp, Op.stringOp, ByteArray.toList_mk]
theorem ok_index_str {t : TypeId} [IsStr P t] {x ix : Operand} {l : List UInt8} {k : IntKind} {i : Int} {c : UInt8} (hop : o.op = .index t x ix) (hx : opE g x = some (strS l)) (hi : opE g ix = some (intS k i)) (h0 : 0 ≤ i) (hc : l[i.toNat]? = some c) : OpOK P G H o g (intS .u8 c.toNat) :=
 ok_pure (by simp [hop]) fun I W a _ _ hr => by
  have h1 : a.eval x = .string ⟨l.toArray⟩ := hr.get (by simp [hop, Op.operands]) hx
  have h2 : a.eval ix = .int k i := hr.get (by simp [hop, Op.operands]) hi
  have hlt := lt_of_get hc
  refine ⟨.int .u8 c.toNat, ?_, rfl⟩
  have h3 := run_index_string (P := P) W t ⟨l.toArray⟩ k i (IsStr.h (P := P) (t := t))
  rw [dif_pos ⟨h0, by rw [mk_size]; omega⟩, mk_get _ _ _ hlt] at h3
  have h4 : l[i.toNat] = c := by rw [List.getElem?_eq_getElem hlt] at hc; exact Option.some.inj hc
  rw [h4] at h3
  simp [execOp, hop, h1, h2, h3]
theorem ok_slice_str {t : TypeId} [IsStr P t] {x : Operand} {low high : Option Operand} {l : List UInt8} {lo hi : Nat} (hop : o.op = .slice t x low high none) (hx : opE g x = some (strS l))
  (hlow : (low = none ∧ lo = 0) ∨ ∃ y k, low = some y ∧ opE g y = some (intS k lo)) (hhigh : (high = none ∧ hi = l.length) ∨ ∃ y k, high = some y ∧ opE g y = some (intS k hi)) (h1 : lo ≤ hi) (h2 : hi ≤ l.length) : OpOK P G H o g (strS ((l.take hi).drop lo)) :=
 ok_pure (by simp [hop]) fun I W a _ _ hr => by
  have hv : a.eval x = .string ⟨l.toArray⟩ := hr.get (by simp [hop, Op.operands]) hx
  refine ⟨strV ((l.take hi).drop lo), ?_, rfl⟩
  have hex : (ByteArray.mk l.toArray).extract lo hi = ⟨((l.take hi).drop lo).toArray⟩ := by
   apply ByteArray.ext
   simp [ByteArray.data_extract, List.drop_take]
  have hb : ∀ (lw hg : Option Value), ((lw = none ∧ lo = 0) ∨ ∃ k, lw = some (.int k lo)) → ((hg = none ∧ hi = l.length) ∨ ∃ k, hg = some (.int k hi)) → (Instr.sliceBounds false l.length l.length lw hg none).run P W = .ok (lo, hi, l.length) W := by
   rintro lw hg (⟨rfl, rfl⟩ | ⟨k, rfl⟩) (⟨rfl, rfl⟩ | ⟨k', rfl⟩)
   ·simp [Instr.sliceBounds]
   ·simp [Instr.sliceBounds, Instr.sliceBound, asIntOf]; omega
   ·simp [Instr.sliceBounds, Instr.sliceBound, asIntOf]; omega
   ·simp [Instr.sliceBounds, Instr.sliceBound, asIntOf, h1, h2]
  have hb' := hb (low.map a.eval) (high.map a.eval) (by
   rcases hlow with ⟨rfl, rfl⟩ | ⟨y, k, rfl, hy⟩
   ·exact .inl ⟨rfl, rfl⟩
   ·exact .inr ⟨k, by have : a.eval y = _ := hr.get (by simp [hop, Op.operands]) hy; simp [this]⟩) (by
   rcases hhigh with ⟨rfl, rfl⟩ | ⟨y, k, rfl, hy⟩
   ·exact .inl ⟨rfl, rfl⟩
   ·exact .inr ⟨k, by have : a.eval y = _ := hr.get (by simp [hop, Op.operands]) hy; simp [this]⟩)
  simp [execOp, hop, hv, Instr.sliceAt, Instr.slice, run_underlying (IsStr.h (P := P) (t := t)), mk_size, hb', hex, strV]
theorem pspec_below {f : FuncId} {args : List SV} {s : SV} (he : ∀ args w, (callFunc f args).run P w = .ok (.enter f args) w) (h : ∀ I W (vs : List Value), Holds G I W → dens I args vs → Calls P f vs.toArray W fun e W' => ∃ v, e = .returned v ∧ (∀ J, I.le J → s.den J v) ∧ Below W.heap.size W W') : PSpec P G f args s :=
 ⟨he, fun I W vs h1 h2 h3 => (h I W vs h1 h3).mono fun e W' ⟨v, h4, h5, h6⟩ =>
  ⟨v, I, s, [], h4, ⟨rfl, rfl⟩, h5 I (Imm.le_refl _), ⟨h1.glob, fun b c hb => by
   obtain ⟨e', f', hw⟩ := h1.mem b c hb
   exact ⟨e', f', (h6.block _ (lt_of_some hw)).trans hw⟩⟩, ⟨by simp [bs], by simp⟩, h6.os, h6.tape, h6.output, Imm.le_refl _, h6.size, fun b hb _ => h6.block b hb, fun b h7 h8 => absurd h7 h8, fun b hb => by simp [bs] at hb⟩⟩
end
end Go.Sv
