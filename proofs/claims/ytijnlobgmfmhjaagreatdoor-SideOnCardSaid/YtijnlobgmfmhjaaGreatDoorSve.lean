/- The rules of the operations that turn nothing that was there. -/
import Derived.Test.YtijnlobgmfmhjaaGreatDoorSvd
import Derived.Laws.Cover3
namespace Go.Sv
open Go Go.RowKit

class IsSl (P : Program) (t : TypeId) (e st : outParam Nat) : Prop where
  u : P.underlying t = some (.slice e)
  i : ∃ i, P.info? e = some i ∧ i.size = st
class IsScalar (P : Program) (t : TypeId) : Prop where
  h : ∃ d, P.underlying t = some d ∧ (match d with | .struct _ | .array _ _ => False | _ => True)
class IsAgg (P : Program) (t : TypeId) (n : outParam Nat) : Prop where
  h : ∃ d, P.underlying t = some d ∧ (match d with | .struct _ | .array _ _ => True | _ => False)
  i : ∃ i, P.info? t = some i ∧ i.size = n
class IsField (P : Program) (s k : Nat) (off : outParam Nat) : Prop where
  h : ∃ fs f i, P.underlying s = some (.struct fs) ∧ fs[k]? = some f ∧ f.offset = off ∧ P.info? f.type = some i ∧ i.size ≠ 0
class IsInt (P : Program) (t : TypeId) (k : outParam IntKind) : Prop where
  h : P.underlying t = some (.int k)
class HasTy (P : Program) (t : TypeId) : Prop where
  h : (P.underlying t).isSome = true

section basic
variable {P : Program} {G : Imm} {H : HL} {o : Oper} {g : List (Nat × SV)} {s : SV}
theorem wp_of_run {n : Nat} {r : Option Nat} {a : Act} {W : World} {next : Act → World → Prop} {Q : Exit → Act → World → Prop} (hd : ∀ c, o.op ≠ .defer c) {x : Result Next}
    (h : (execOp a.eval o).run P W = x) (k : o.uponIn (Fr r) n P a next Q x) : o.wpIn (Fr r) n P a W next Q :=
  ⟨fun f _ => fn_true r f, by rw [Oper.semAt_eq _ _ _ hd, h]; exact k⟩
/-- an operation that only reads -/
theorem ok_pure (hd : ∀ c, o.op ≠ .defer c) (h : ∀ I W a, Holds G I W → HoldsH H I W → reads g I o a → ∃ v, (execOp a.eval o).run P W = .ok (.value v) W ∧ s.den I v) : OpOK P G H o g s := by
  intro n r I W a next Q hm hh hr k
  obtain ⟨v, hv, hs⟩ := h I W a hm hh hr
  exact wp_of_run hd hv (k v I W (Fram.refl _ _ _) hm hs)
theorem reads.get {I : Imm} {a : Act} (h : reads g I o a) {x : Operand} (hx : x ∈ o.op.operands.toList) (hs : opE g x = some s) : s.den I (a.eval x) := h x hx s hs

theorem ok_move {x : Operand} (hop : o.op = .move x) (hx : opE g x = some s) : OpOK P G H o g s :=
  ok_pure (by simp [hop]) fun I W a _ _ hr => ⟨_, by simp [execOp, hop], hr.get (by simp [hop, Op.operands]) hx⟩
theorem ok_assign {x : Operand} (hop : o.op = .assign x) (hx : opE g x = some s) : OpOK P G H o g s :=
  ok_pure (by simp [hop]) fun I W a _ _ hr => ⟨_, by simp [execOp, hop], hr.get (by simp [hop, Op.operands]) hx⟩
theorem ok_pick {c x y : Operand} {b : Bool} (hop : o.op = .pick c x y) (hc : opE g c = some (boolS b)) (hx : opE g (if b then x else y) = some s) : OpOK P G H o g s :=
  ok_pure (by simp [hop]) fun I W a _ _ hr => by
    have h1 : a.eval c = .bool b := hr.get (by simp [hop, Op.operands]) hc
    cases b with
    | true => exact ⟨_, by simp [execOp, hop, h1, asBool], hr.get (by simp [hop, Op.operands]) hx⟩
    | false => exact ⟨_, by simp [execOp, hop, h1, asBool], hr.get (by simp [hop, Op.operands]) hx⟩
theorem ok_pick_any {c x y : Operand} {b d : Bool} (hop : o.op = .pick c x y) (hc : opE g c = some anyBool) (hx : opE g x = some (boolS b)) (hy : opE g y = some (boolS d)) : OpOK P G H o g anyBool :=
  ok_pure (by simp [hop]) fun I W a _ _ hr => by
    obtain ⟨e, h1⟩ := hr.get (by simp [hop, Op.operands]) hc
    have h2 : a.eval x = .bool b := hr.get (by simp [hop, Op.operands]) hx
    have h3 : a.eval y = .bool d := hr.get (by simp [hop, Op.operands]) hy
    exact ⟨.bool (if e then b else d), by cases e <;> simp [execOp, hop, h1, h2, h3, asBool], _, rfl⟩
theorem ok_nilCheck {x : Operand} {cs : List SV} (hop : o.op = .nilCheck x) (hx : opE g x = some (ptrS cs)) : OpOK P G H o g (ptrS cs) :=
  ok_pure (by simp [hop]) fun I W a _ _ hr => by
    have h1 := hr.get (by simp [hop, Op.operands]) hx
    obtain ⟨b, off, hv, hc⟩ := h1
    exact ⟨_, by simp [execOp, hop, hv], b, off, rfl, hc⟩
theorem ok_nilCheck_eq {x : Operand} {p : Addr} (hop : o.op = .nilCheck x) (hx : opE g x = some (eqS (.pointer (some p)))) : OpOK P G H o g (eqS (.pointer (some p))) :=
  ok_pure (by simp [hop]) fun I W a _ _ hr => by
    have h1 : a.eval x = _ := hr.get (by simp [hop, Op.operands]) hx
    exact ⟨_, by simp [execOp, hop, h1], rfl⟩

/-! numbers -/
def cmpB : BinOp → Int → Int → Option Bool
  | .eql, x, y => some (x == y)
  | .neq, x, y => some (x != y)
  | .lss, x, y => some (decide (x < y))
  | .leq, x, y => some (decide (x ≤ y))
  | .gtr, x, y => some (decide (y < x))
  | .geq, x, y => some (decide (y ≤ x))
  | _, _, _ => none
theorem ok_cmp {op : BinOp} {t u : TypeId} {x y : Operand} {k : IntKind} {m n : Int} {b : Bool} (hop : o.op = .binOp op t x y u) (hx : opE g x = some (intS k m)) (hy : opE g y = some (intS k n)) (hb : cmpB op m n = some b) :
    OpOK P G H o g (boolS b) :=
  ok_pure (by simp [hop]) fun I W a _ _ hr => by
    have h1 : a.eval x = .int k m := hr.get (by simp [hop, Op.operands]) hx
    have h2 : a.eval y = .int k n := hr.get (by simp [hop, Op.operands]) hy
    refine ⟨.bool b, ?_, rfl⟩
    cases op <;> simp [cmpB] at hb <;> subst hb <;> simp [execOp, hop, h1, h2, eqGuard, binOp, Op.intCmp]
def ariI : BinOp → Int → Int → Option Int
  | .add, x, y => some (x + y)
  | .sub, x, y => some (x - y)
  | .mul, x, y => some (x * y)
  | _, _, _ => none
theorem ok_ari_wrap {op : BinOp} {t u : TypeId} {x y : Operand} {k : IntKind} {m n z : Int} (hop : o.op = .binOp op t x y u) (hx : opE g x = some (intS k m)) (hy : opE g y = some (intS k n)) (hz : ariI op m n = some z) :
    OpOK P G H o g (intS k (k.wrap z)) :=
  ok_pure (by simp [hop]) fun I W a _ _ hr => by
    have h1 : a.eval x = .int k m := hr.get (by simp [hop, Op.operands]) hx
    have h2 : a.eval y = .int k n := hr.get (by simp [hop, Op.operands]) hy
    refine ⟨.int k (k.wrap z), ?_, rfl⟩
    cases op <;> simp [ariI] at hz <;> subst hz <;> simp [execOp, hop, h1, h2, eqGuard, binOp, Op.intArith]
def inK (k : IntKind) (z : Int) : Prop := k.min ≤ z ∧ z ≤ k.max
theorem ok_ari {op : BinOp} {t u : TypeId} {x y : Operand} {k : IntKind} {m n z : Int} (hop : o.op = .binOp op t x y u) (hx : opE g x = some (intS k m)) (hy : opE g y = some (intS k n)) (hz : ariI op m n = some z) (hw : k.wrap z = z) :
    OpOK P G H o g (intS k z) := by have := ok_ari_wrap (P := P) (G := G) (H := H) hop hx hy hz; rwa [hw] at this
theorem wrap_i64 {z : Int} (h1 : -9223372036854775808 ≤ z) (h2 : z ≤ 9223372036854775807) : IntKind.i64.wrap z = z := by
  simp [IntKind.wrap, IntKind.bits, IntKind.signed]; omega
theorem wrap_u64 {z : Int} (h1 : 0 ≤ z) (h2 : z ≤ 18446744073709551615) : IntKind.u64.wrap z = z := by
  simp [IntKind.wrap, IntKind.bits, IntKind.signed]; omega
theorem wrap_u32 {z : Int} (h1 : 0 ≤ z) (h2 : z ≤ 4294967295) : IntKind.u32.wrap z = z := by
  simp [IntKind.wrap, IntKind.bits, IntKind.signed]; omega
theorem wrap_u8 {z : Int} (h1 : 0 ≤ z) (h2 : z ≤ 255) : IntKind.u8.wrap z = z := by
  simp [IntKind.wrap, IntKind.bits, IntKind.signed]; omega
theorem wrap_u32_mod {z : Int} : IntKind.u32.wrap z = z % 4294967296 := by simp [IntKind.wrap, IntKind.bits, IntKind.signed]
theorem wrap_u64_mod {z : Int} : IntKind.u64.wrap z = z % 18446744073709551616 := by simp [IntKind.wrap, IntKind.bits, IntKind.signed]
theorem wrap_u8_mod {z : Int} : IntKind.u8.wrap z = z % 256 := by simp [IntKind.wrap, IntKind.bits, IntKind.signed]
theorem ok_quo {t u : TypeId} {x y : Operand} {k : IntKind} {m n : Int} (hop : o.op = .binOp .quo t x y u) (hx : opE g x = some (intS k m)) (hy : opE g y = some (intS k n)) (hm : 0 ≤ m) (hn : 0 < n) (hw : k.wrap (m / n) = m / n) :
    OpOK P G H o g (intS k (m / n)) :=
  ok_pure (by simp [hop]) fun I W a _ _ hr => by
    have h1 : a.eval x = .int k m := hr.get (by simp [hop, Op.operands]) hx
    have h2 : a.eval y = .int k n := hr.get (by simp [hop, Op.operands]) hy
    refine ⟨.int k (m / n), ?_, rfl⟩
    simp [execOp, hop, h1, h2, eqGuard, binOp, Op.intDiv, show ¬ n = 0 by omega, Int.tdiv_eq_ediv_of_nonneg hm, hw]
theorem ok_rem {t u : TypeId} {x y : Operand} {k : IntKind} {m n : Int} (hop : o.op = .binOp .rem t x y u) (hx : opE g x = some (intS k m)) (hy : opE g y = some (intS k n)) (hm : 0 ≤ m) (hn : 0 < n) :
    OpOK P G H o g (intS k (m % n)) :=
  ok_pure (by simp [hop]) fun I W a _ _ hr => by
    have h1 : a.eval x = .int k m := hr.get (by simp [hop, Op.operands]) hx
    have h2 : a.eval y = .int k n := hr.get (by simp [hop, Op.operands]) hy
    refine ⟨.int k (m % n), ?_, rfl⟩
    simp [execOp, hop, h1, h2, eqGuard, binOp, Op.intDiv, show ¬ n = 0 by omega, Int.tmod_eq_emod_of_nonneg hm]
theorem ok_shr {t u : TypeId} {x y : Operand} {k k' : IntKind} {m n : Int} (hop : o.op = .binOp .shr t x y u) (hx : opE g x = some (intS k m)) (hy : opE g y = some (intS k' n)) (hn : 0 ≤ n) (hb : n ≤ k.bits) :
    OpOK P G H o g (intS k (m / 2 ^ n.toNat)) :=
  ok_pure (by simp [hop]) fun I W a _ _ hr => by
    have h1 : a.eval x = .int k m := hr.get (by simp [hop, Op.operands]) hx
    have h2 : a.eval y = .int k' n := hr.get (by simp [hop, Op.operands]) hy
    refine ⟨.int k (m / 2 ^ n.toNat), ?_, rfl⟩
    have hmin : min n.toNat k.bits = n.toNat := Nat.min_eq_left (by omega)
    simp [execOp, hop, h1, h2, eqGuard, binOp, Op.shift, show ¬ n < 0 by omega, hmin]
    exact Int.fdiv_eq_ediv_of_nonneg m (Int.le_of_lt (Int.pow_pos (by decide)))
theorem ok_shl {t u : TypeId} {x y : Operand} {k k' : IntKind} {m n : Int} (hop : o.op = .binOp .shl t x y u) (hx : opE g x = some (intS k m)) (hy : opE g y = some (intS k' n)) (hn : 0 ≤ n) (hb : n ≤ k.bits) :
    OpOK P G H o g (intS k (k.wrap (m * 2 ^ n.toNat))) :=
  ok_pure (by simp [hop]) fun I W a _ _ hr => by
    have h1 : a.eval x = .int k m := hr.get (by simp [hop, Op.operands]) hx
    have h2 : a.eval y = .int k' n := hr.get (by simp [hop, Op.operands]) hy
    refine ⟨.int k (k.wrap (m * 2 ^ n.toNat)), ?_, rfl⟩
    have hmin : min n.toNat k.bits = n.toNat := Nat.min_eq_left (by omega)
    simp [execOp, hop, h1, h2, eqGuard, binOp, Op.shift, show ¬ n < 0 by omega, hmin]
def bitI (op : BinOp) (k : IntKind) (x y : Int) : Int :=
  let a := BitVec.ofInt k.bits x
  let b := BitVec.ofInt k.bits y
  k.wrap (match op with | .and => a &&& b | .or => a ||| b | .xor => a ^^^ b | _ => a &&& ~~~b).toNat
theorem ok_bits {op : BinOp} {t u : TypeId} {x y : Operand} {k : IntKind} {m n : Int} (hop : o.op = .binOp op t x y u) (hbit : op = .and ∨ op = .or ∨ op = .xor ∨ op = .andNot) (hx : opE g x = some (intS k m)) (hy : opE g y = some (intS k n)) :
    OpOK P G H o g (intS k (bitI op k m n)) :=
  ok_pure (by simp [hop]) fun I W a _ _ hr => by
    have h1 : a.eval x = .int k m := hr.get (by simp [hop, Op.operands]) hx
    have h2 : a.eval y = .int k n := hr.get (by simp [hop, Op.operands]) hy
    refine ⟨.int k (bitI op k m n), ?_, rfl⟩
    rcases hbit with rfl | rfl | rfl | rfl <;> simp [execOp, hop, h1, h2, eqGuard, binOp, Op.intBits, bitI]
theorem run_equal_bool {t : TypeId} (W : World) (b c : Bool) (hty : P.underlying t = some .bool) : (Op.equal t (.bool b) (.bool c)).run P W = .ok (b == c) W := by
  have e : ∀ d, (Op.equalIn (d + 1) t (.bool b) (.bool c)).run P W = .ok (b == c) W := by intro d; simp [Op.equalIn, run_underlying hty]
  exact e 9999
theorem ok_eql_bool {t u : TypeId} {x y : Operand} {b c : Bool} (hop : o.op = .binOp .eql t x y u) (hx : opE g x = some (boolS b)) (hy : opE g y = some (boolS c)) (hty : P.underlying t = some .bool) : OpOK P G H o g (boolS (b == c)) :=
  ok_pure (by simp [hop]) fun I W a _ _ hr => by
    have h1 : a.eval x = .bool b := hr.get (by simp [hop, Op.operands]) hx
    have h2 : a.eval y = .bool c := hr.get (by simp [hop, Op.operands]) hy
    refine ⟨.bool (b == c), ?_, rfl⟩
    have e := run_equal_bool W b c hty
    have e2 : (binOp .eql t (.bool b) (.bool c)).run P W = .ok (.bool (b == c)) W := by
      show ((do pure (.bool (← Op.equal t (.bool b) (.bool c)))) : Sem Value).run P W = _
      simp [e]
    simp [execOp, hop, h1, h2, eqGuard, e2]
theorem ok_neq_bool {t u : TypeId} {x y : Operand} {b c : Bool} (hop : o.op = .binOp .neq t x y u) (hx : opE g x = some (boolS b)) (hy : opE g y = some (boolS c)) (hty : P.underlying t = some .bool) : OpOK P G H o g (boolS (!(b == c))) :=
  ok_pure (by simp [hop]) fun I W a _ _ hr => by
    have h1 : a.eval x = .bool b := hr.get (by simp [hop, Op.operands]) hx
    have h2 : a.eval y = .bool c := hr.get (by simp [hop, Op.operands]) hy
    refine ⟨.bool (!(b == c)), ?_, rfl⟩
    have e := run_equal_bool W b c hty
    have e2 : (binOp .neq t (.bool b) (.bool c)).run P W = .ok (.bool (!(b == c))) W := by
      show ((do pure (.bool (!(← Op.equal t (.bool b) (.bool c))))) : Sem Value).run P W = _
      simp [e]
    simp [execOp, hop, h1, h2, eqGuard, e2]
theorem ok_eql_nil {t u e st : TypeId} [IsSl P t e st] {x y : Operand} {α : Type} {n : Nat} {f : α → List SV} {l : List α} (hop : o.op = .binOp .eql t x y u) (hx : opE g x = some (slS n f l)) (hy : opE g y = some (eqS (.slice none 0 0))) : OpOK P G H o g anyBool :=
  ok_pure (by simp [hop]) fun I W a _ _ hr => by
    obtain ⟨ad, cap, h1, _⟩ := hr.get (by simp [hop, Op.operands]) hx
    have h2 : a.eval y = .slice none 0 0 := hr.get (by simp [hop, Op.operands]) hy
    refine ⟨.bool ad.isNone, ?_, _, rfl⟩
    have e := run_equal_slice_nil (w := W) t _ ad l.length cap (IsSl.u (P := P) (t := t))
    have e2 : (binOp .eql t (.slice ad l.length cap) (.slice none 0 0)).run P W = .ok (.bool ad.isNone) W := by
      show ((do pure (.bool (← Op.equal t (.slice ad l.length cap) (.slice none 0 0)))) : Sem Value).run P W = _
      simp [e]
    simp [execOp, hop, h1, h2, eqGuard, e2]
theorem ok_not {t : TypeId} {x : Operand} {b : Bool} (hop : o.op = .unOp .not t x) (hx : opE g x = some (boolS b)) : OpOK P G H o g (boolS (!b)) :=
  ok_pure (by simp [hop]) fun I W a _ _ hr => by
    have h1 : a.eval x = .bool b := hr.get (by simp [hop, Op.operands]) hx
    exact ⟨.bool (!b), by simp [execOp, hop, h1, Op.unary], rfl⟩
theorem ok_not_any {t : TypeId} {x : Operand} (hop : o.op = .unOp .not t x) (hx : opE g x = some anyBool) : OpOK P G H o g anyBool :=
  ok_pure (by simp [hop]) fun I W a _ _ hr => by
    obtain ⟨b, h1⟩ := hr.get (by simp [hop, Op.operands]) hx
    exact ⟨.bool (!b), by simp [execOp, hop, h1, Op.unary], _, rfl⟩
theorem ok_neg {t : TypeId} {x : Operand} {k : IntKind} {m : Int} (hop : o.op = .unOp .neg t x) (hx : opE g x = some (intS k m)) : OpOK P G H o g (intS k (k.wrap (0 - m))) :=
  ok_pure (by simp [hop]) fun I W a _ _ hr => by
    have h1 : a.eval x = .int k m := hr.get (by simp [hop, Op.operands]) hx
    exact ⟨.int k (k.wrap (0 - m)), by simp [execOp, hop, h1, Op.unary, Op.intArith], rfl⟩
theorem ok_convert {src dst : TypeId} [HasTy P src] {k' : IntKind} [IsInt P dst k'] {x : Operand} {k : IntKind} {m : Int} (hop : o.op = .convert src dst x) (hx : opE g x = some (intS k m)) : OpOK P G H o g (intS k' (k'.wrap m)) :=
  ok_pure (by simp [hop]) fun I W a _ _ hr => by
    have h1 : a.eval x = .int k m := hr.get (by simp [hop, Op.operands]) hx
    refine ⟨.int k' (k'.wrap m), ?_, rfl⟩
    have hk : P.intKind dst = k' := by have := IsInt.h (P := P) (t := dst) (k := k'); simp [Program.intKind, this]
    have := run_convert_int (P := P) W src dst k m (HasTy.h) (by rw [hk]; exact IsInt.h)
    rw [hk] at this
    simp [execOp, hop, h1, this]
theorem ok_conv {src dst : TypeId} [HasTy P src] {k' : IntKind} [IsInt P dst k'] {x : Operand} {k : IntKind} {m z : Int} (hop : o.op = .convert src dst x) (hx : opE g x = some (intS k m)) (hz : k'.wrap m = z) : OpOK P G H o g (intS k' z) := by
  have := ok_convert (P := P) (G := G) (H := H) (dst := dst) hop hx; rwa [hz] at this
end basic
end Go.Sv
