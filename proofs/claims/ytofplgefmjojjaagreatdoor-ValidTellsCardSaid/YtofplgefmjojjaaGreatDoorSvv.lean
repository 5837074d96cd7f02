/- More rules: arrays and strings read at a place, global tables, a closure that holds itself, Add64. -/
import Derived.Test.YtofplgefmjojjaaGreatDoorSvs
import Derived.Laws.Externs
namespace Go.Sv
open Go Go.RowKit
class IsArr (P : Program) (t : TypeId) (n st : outParam Nat) : Prop where
 h : ∃ e, P.underlying t = some (.array n e) ∧ (P.info? e).map (·.size) = some st
class IsStr (P : Program) (t : TypeId) : Prop where
 h : P.underlying t = some .string
section
variable {P : Program} {G : Imm} {E : Env} {r : Option Nat} {gd : Nat → Option Nat} {p : Bool} {o : Oper} {ops : List Oper} {K : St → Prop} {H : HL} {g : List (Nat × SV)} {S : St}
theorem ok_indexArr {t n st : Nat} [ha : IsArr P t n st] {x ix : Operand} {b q : Nat} {k : IntKind} {i : Nat} (hop : o.op = .indexAddr t x ix) (hx : opE g x = some (eqS (.pointer (some ⟨b, 0, none⟩)))) (hi : opE g ix = some (intS k i)) (h1 : i < n) (hq : i * st = q) :
  OpOK P G H o g (eqS (.pointer (some ⟨b, q, none⟩))) :=
 ok_pure (by simp [hop]) fun I W a _ _ hr => by
  have hv : a.eval x = _ := hr.get (by simp [hop, Op.operands]) hx
  have hvi : a.eval ix = .int k i := hr.get (by simp [hop, Op.operands]) hi
  obtain ⟨e, hu, hs⟩ := ha.h
  obtain ⟨j, hj, hjs⟩ := Option.map_eq_some_iff.1 hs
  have h2 : (sizeOf e).run P W = .ok st W := by simp [sizeOf, typeInfo, hj, hjs]
  refine ⟨.pointer (some ⟨b, q, none⟩), ?_, rfl⟩
  have hin : 0 ≤ (i : Int) ∧ (i : Int) < n := by omega
  have : (Instr.indexAt t (.pointer (some ⟨b, 0, none⟩)) (.int k i)).run P W = .ok (.pointer (some ⟨b, q, none⟩)) W := by
   simp [Instr.indexAt, run_underlying hu, Instr.sureAddr, asIntOf, hin, h2, Addr.add, hq, h1]
   exact fun h => h.symm
  simp [execOp, hop, hv, hvi, this]
theorem ok_load_glob {t : TypeId} [IsScalar P t] {x : Operand} {b off : Nat} {c : Array Value} {v : Value} (hop : o.op = .load t x) (hx : opE g x = some (eqS (.pointer (some ⟨b, off, none⟩)))) (hG : G b = some c) (hc : c[off]? = some v) : OpOK P G H o g (eqS v) :=
 ok_pure (by simp [hop]) fun I W a hm _ hr => by
  have hv : a.eval x = _ := hr.get (by simp [hop, Op.operands]) hx
  obtain ⟨e, f, hh⟩ := hm.mem b c (hm.glob b c hG)
  refine ⟨v, ?_, rfl⟩
  have := run_loadVar_scalar (P := P) (t := t) (W := W) (b := b) (off := off) (x := v) (by rw [cell_of_heap hh]; exact hc)
  simp [execOp, hop, hv, Instr.loadAt, Instr.sureAddr, this]
theorem ok_indexStr {t : TypeId} [hs : IsStr P t] {s : ByteArray} {x ix : Operand} {k : IntKind} {i : Nat} (hop : o.op = .index t x ix) (hx : opE g x = some (eqS (.string s))) (hi : opE g ix = some (intS k i)) (h1 : i < s.size) :
  OpOK P G H o g (intS .u8 ((s[i]'h1).toNat : Nat)) :=
 ok_pure (by simp [hop]) fun I W a _ _ hr => by
  have hv : a.eval x = _ := hr.get (by simp [hop, Op.operands]) hx
  have hvi : a.eval ix = .int k i := hr.get (by simp [hop, Op.operands]) hi
  refine ⟨_, ?_, rfl⟩
  have := run_index_string (P := P) W t s k i hs.h
  rw [dif_pos ⟨by omega, by omega⟩] at this
  simp only [Int.toNat_natCast] at this
  simp [execOp, hop, hv, hvi, this]
def mulP (f : FuncId) : SV :=
 ⟨fun I v => ∃ b c, v = .pointer (some ⟨b, 0, none⟩) ∧ I b = some c ∧ c[0]? = some (.func (.func f) #[] #[.pointer (some ⟨b, 0, none⟩)]),
  fun _ _ _ hl ⟨b, c, hv, hI, hc⟩ => ⟨b, c, hv, hl b c hI, hc⟩⟩
theorem ok_load_self {t : TypeId} [IsScalar P t] {x : Operand} {f : FuncId} (hop : o.op = .load t x) (hx : opE g x = some (mulP f)) : OpOK P G H o g (fnS f [mulP f]) :=
 ok_pure (by simp [hop]) fun I W a hm _ hr => by
  obtain ⟨b, c, hv, hI, hc⟩ := hr.get (by simp [hop, Op.operands]) hx
  obtain ⟨e, fr, hh⟩ := hm.mem b c hI
  refine ⟨_, ?_, [.pointer (some ⟨b, 0, none⟩)], rfl, dens_cons ⟨b, c, rfl, hI, hc⟩ dens_nil⟩
  have := run_loadVar_scalar (P := P) (t := t) (W := W) (b := b) (off := 0) (x := .func (.func f) #[] #[.pointer (some ⟨b, 0, none⟩)]) (by rw [cell_of_heap hh]; exact hc)
  simp [execOp, hop, hv, Instr.loadAt, Instr.sureAddr, this]
theorem ghost_self (j t : Nat) {b e k : Nat} {f : FuncId} (hH : S.h[j]? = some ⟨some b, e, [fnS f [eqS (.pointer (some ⟨b, 0, none⟩))]], k⟩) (ht : look t S.g = some (eqS (.pointer (some ⟨b, 0, none⟩)))) :
  Ghost G E r S ⟨S.n, (t, mulP f) :: S.g, putAt S.h j [], S.d, S.i⟩ := by
 intro I F a W hs
 obtain ⟨I', h1, h2, h3, h4⟩ := freeze_at hH hs
 have e : putAt S.h j [] = S.h.take j ++ S.h.drop (j + 1) := by rw [putAt_eq hH]; simp
 rw [e]
 refine ⟨I', Sat.retype h1 (s0 := eqS (.pointer (some ⟨b, 0, none⟩))) ht fun v hv => ?_, h2⟩
 obtain ⟨c, hI, hc⟩ := h4
 obtain ⟨x, hx, ⟨xs, rfl, hd⟩, _⟩ := hc 0 _ rfl
 obtain ⟨y, rr, rfl, hy, hr⟩ := dens_cons_inv hd
 cases dens_nil_inv hr
 cases hy
 exact ⟨b, c, hv, hI, by simpa using hx⟩
theorem ok_add64 {f : FuncId} {fn : Func} {x y z : Operand} {ts : Array TypeId} {m n c : Nat} (hf : P.funcs[f]? = some fn) (hname : (fn.name == "runtime.NumGoroutine") = false) (hb : fn.body.isNone = true) (hn : Extern.findNext fn = none) (he : Extern.find fn = some add64Entry)
  (hop : o.op = .call { callee := .value (.func f), args := #[x, y, z], argTypes := ts }) (hx : opE g x = some (intS .u64 m)) (hy : opE g y = some (intS .u64 n)) (hz : opE g z = some (intS .u64 c)) (hc : c ≤ 1) :
  OpOK P G H o g (tupS [intS .u64 ((m + n + c) % 18446744073709551616 : Nat), intS .u64 ((m + n + c) / 18446744073709551616 : Nat)]) :=
 ok_pure (by simp [hop]) fun I W a _ _ hr => by
  have hvx : a.eval x = _ := hr.get (by simp [hop, Op.operands, Call.operands]) hx
  have hvy : a.eval y = _ := hr.get (by simp [hop, Op.operands, Call.operands]) hy
  have hvz : a.eval z = _ := hr.get (by simp [hop, Op.operands, Call.operands]) hz
  refine ⟨_, ?_, _, rfl, dens_cons rfl (dens_cons rfl dens_nil)⟩
  have h1 := run_callFunc_extern hf hname hb hn he #[.int .u64 m, .int .u64 n, .int .u64 c] W
  rw [run_add64 m n c (by omega) (by omega) (by omega) (by omega)] at h1
  have hfv : a.eval (.func f) = .func (.func f) #[] #[] := rfl
  simp only [execOp, hop, resolve, hfv, Deferred.ofValue, Sem.run_bind, Sem.run_pure, Result.andThen_ok, invoke, Array.empty_append, List.map_toArray, List.map_cons, List.map_nil, hvx, hvy, hvz]
  simpa using h1
end
end Go.Sv
