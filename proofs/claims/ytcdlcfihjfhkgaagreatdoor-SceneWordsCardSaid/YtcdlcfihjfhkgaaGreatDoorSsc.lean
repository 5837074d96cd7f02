/- Texts: what the program calls of the library: CutPrefix, TrimLeft, Repeat, FormatUint. By the kit's contracts. -/
import Derived.Test.YtcdlcfihjfhkgaaGreatDoorSsb
import Derived.Test.YtcdlcfihjfhkgaaGreatDoorSh
import Derived.Test.YtcdlcfihjfhkgaaGreatDoorSnp
import Derived.Lib.LaidTab
import Derived.Lib.ItoaMem
namespace Go.Sv
open Go Go.RowKit
theorem ok_slice_arr {P : Program} {G : Imm} {H : HL} {o : Oper} {g : List (Nat × SV)} {t n st : Nat} [ha : IsArr P t n st] {x : Operand} {high : Option Operand} {b hi : Nat} {z : Operand} {k : IntKind} (hop : o.op = .slice t x none high none) (hx : opE g x = some (eqS (.pointer (some ⟨b, 0, none⟩)))) (hh : high = some z) (hz : opE g z = some (intS k hi)) (h2 : hi ≤ n) : OpOK P G H o g (eqS (.slice (some ⟨b, 0, none⟩) hi n)) := by
  subst hh
  refine ok_pure (by simp [hop]) fun I W a hm hh hr => ?_
  have hvx : a.eval x = .pointer (some ⟨b, 0, none⟩) := hr.get (by simp [hop, Op.operands]) hx
  have hvz : a.eval z = .int k hi := hr.get (by simp [hop, Op.operands]) hz
  obtain ⟨e, hu, hi'⟩ := ha.h
  refine ⟨_, ?_, rfl⟩
  obtain ⟨i, hi1, his⟩ := Option.map_eq_some_iff.1 hi'
  simp [execOp, hop, hvx, hvz, Instr.sliceAt, Instr.sureAddr, run_underlying hu, Instr.sliceBounds, Instr.sliceBound, asIntOf, h2, sizeOf, typeInfo, hi1, Addr.add_lit]
theorem dens_one {I : Imm} {s : SV} {vs : List Value} (h : dens I [s] vs) : ∃ x, vs = [x] ∧ s.den I x := by
  obtain ⟨x, r, rfl, hx, hr⟩ := dens_cons_inv h
  rw [dens_nil_inv hr]; exact ⟨x, rfl, hx⟩
theorem dens_two {I : Imm} {s t : SV} {vs : List Value} (h : dens I [s, t] vs) : ∃ x y, vs = [x, y] ∧ s.den I x ∧ t.den I y := by
  obtain ⟨x, r, rfl, hx, hr⟩ := dens_cons_inv h
  obtain ⟨y, rfl, hy⟩ := dens_one hr
  exact ⟨x, y, rfl, hx, hy⟩
end Go.Sv
namespace Go.Proofs
open Go Go.Sv Num
variable {G : Imm}
class Tab10 (G : Imm) : Prop where
  h : G 1 = some (Lib.pow10Tab.map fun z => Value.int .u64 z).toArray
theorem tab10 [Tab10 G] {I : Imm} {W : World} (h : Sv.Holds G I W) : Lib.TabIs Tryz.prog W "internal/strconv.uint64pow10" .u64 Lib.pow10Tab := by
  have g1 : Tryz.prog.globalNamed "internal/strconv.uint64pow10" = some 1 := by kernel_rfl
  obtain ⟨e, f, hw⟩ := h.mem _ _ (h.glob _ _ Tab10.h)
  simp [Lib.TabIs, World.var?, g1, hw]
theorem cutPrefix_spec {l m : List UInt8} : PSpec Tryz.prog G 94 [strS l, strS m] (tupS [strS (Lib.trimPrefix l m), boolS (Lib.hasPrefix l m)]) :=
  pspec_below (Go.Proofs.enters_of Tryz.func94 rfl rfl) fun I W vs h1 h2 => by
    obtain ⟨x, y, rfl, hx, hy⟩ := dens_two h2
    rw [show x = .string ⟨l.toArray⟩ from hx, show y = .string ⟨m.toArray⟩ from hy]
    exact (Tryz.strings_CutPrefix ⟨l.toArray⟩ ⟨m.toArray⟩ W).mono fun e W' ⟨he, hw⟩ => ⟨_, he, fun J _ => ⟨_, rfl, dens_cons rfl (dens_cons rfl dens_nil)⟩, by rw [hw]; exact Go.RowKit.Below.refl _ _⟩
theorem trimLeft_spec {l : List UInt8} {c : UInt8} (hc : c.toNat < 128) : PSpec Tryz.prog G 107 [strS l, strS [c]] (strS (l.dropWhile (· == c))) :=
  pspec_below (Go.Proofs.enters_of Tryz.func107 rfl rfl) fun I W vs h1 h2 => by
    obtain ⟨x, y, rfl, hx, hy⟩ := dens_two h2
    rw [show x = .string ⟨l.toArray⟩ from hx, show y = .string ⟨#[c]⟩ from hy]
    exact (Tryz.strings_TrimLeft_one ⟨l.toArray⟩ c hc W).mono fun e W' ⟨he, hw⟩ => ⟨_, he, fun J _ => rfl, by rw [hw]; exact Go.RowKit.Below.refl _ _⟩
theorem repeat_spec {l : List UInt8} {c : Nat} (hc : c ≤ 9223372036854775807) (hl : l.length * c ≤ 140737488355328) : PSpec Tryz.prog G 106 [strS l, intS .i64 c] (strS (Lib.repeatL l c)) :=
  pspec_below (Go.Proofs.enters_of Tryz.func106 rfl rfl) fun I W vs h1 h2 => by
    obtain ⟨x, y, rfl, hx, hy⟩ := dens_two h2
    rw [show x = .string ⟨l.toArray⟩ from hx, show y = .int .i64 c from hy]
    exact (Tryz.strings_Repeat ⟨l.toArray⟩ c W hc (by rw [mk_size]; exact hl)).mono fun e W' ⟨he, hw⟩ => ⟨_, he, fun J _ => rfl, hw⟩
theorem smallS_spec {u : Nat} (h : u < 100) : PSpec Tryz.prog G 169 [intS .i64 u] (strS (Lib.decDigits u)) :=
  pspec_below (Go.Proofs.enters_of Tryz.func169 rfl rfl) fun I W vs h1 h2 => by
    obtain ⟨x, rfl, hx⟩ := dens_one h2
    rw [show x = .int .i64 u from hx]
    exact (Tryz.internal_strconv_small u h W).mono fun e W' ⟨he, hw⟩ => ⟨_, he, fun J _ => rfl, by rw [hw]; exact Go.RowKit.Below.refl _ _⟩
theorem numDigits_spec [Tab10 G] {u : Nat} (h1 : 1 ≤ u) (h2 : u < 18446744073709551616) : PSpec Tryz.prog G 170 [intS .u64 u] (intS .i64 (Lib.nDigits u)) :=
  pspec_below (Go.Proofs.enters_of Tryz.func170 rfl rfl) fun I W vs h3 h4 => by
    obtain ⟨x, rfl, hx⟩ := dens_one h4
    rw [show x = .int .u64 u from hx]
    exact (Tryz.internal_strconv_numDigits u h1 h2 W (tab10 h3)).mono fun e W' ⟨he, hw⟩ => ⟨_, he, fun J _ => rfl, by rw [hw]; exact Go.RowKit.Below.refl _ _⟩
theorem nDigits_le {u : Nat} (h1 : 1 ≤ u) (h2 : u < 18446744073709551616) : Lib.nDigits u ≤ 20 := by
  obtain ⟨h3, h4⟩ := Lib.numDigits_eq u h1 h2
  split at h3 <;> omega
theorem zs24 {i : Nat} (h : i < 24) : ((List.replicate 24 (Value.int .u8 0)).map eqS)[i]? = some (intS .u8 0) := by rw [List.map_replicate, List.getElem?_replicate, if_pos h]
theorem flat_u8 {l : List UInt8} {rest : List SV} {i : Nat} (h : i < l.length) : (l.flatMap u8S ++ rest)[0 + i]? = some (intS .u8 ((l.getD i 0).toNat : Int)) := by
  induction l generalizing i with
  | nil => simp at h
  | cons x l ih =>
    cases i with
    | zero => rfl
    | succ i =>
      have := ih (i := i) (by simp at h; omega)
      rw [Nat.zero_add] at this ⊢
      simpa using this
theorem fmt10_spec {u b e cp k : Nat} {cs : List SV} (hu : u < 18446744073709551616) (hn : Lib.nDigits u ≤ cs.length) (hn2 : Lib.nDigits u ≤ 20) (hz : ∀ i, i < Lib.nDigits u → cs[i]? = some (intS .u8 0)) :
    CallSpec Tryz.prog G 171 [eqS (.slice (some ⟨b, 0, none⟩) (Lib.nDigits u) cp), intS .u64 u] [⟨some b, e, cs, k⟩] (fun s H' => s = tupS [] ∧ H' = [⟨some b, e, (Lib.decDigits u).flatMap u8S ++ cs.drop (Lib.nDigits u), k⟩]) := by
  refine ⟨Go.Proofs.enters_of Tryz.func171 rfl rfl, fun I W vs h1 h2 h3 => ?_⟩
  obtain ⟨x, y, rfl, hx, hy⟩ := dens_two h3
  rw [show x = .slice (some ⟨b, 0, none⟩) (Lib.nDigits u) cp from hx, show y = .int .u64 u from hy]
  obtain ⟨g1, c, g2, g3, g4, g5⟩ := (h2.mem _ (List.mem_singleton.2 rfl)).some rfl
  simp only at g2 g3 g4 g5
  have hget : ∀ (i : Nat) (s : SV), cs[i]? = some s → ∃ x, c[i]? = some x ∧ s.den I x ∧ x.oneCell' = true := fun i s hi => by
    obtain ⟨x, hx, hd⟩ := g5.get hi
    have hlt := lt_of_get hi
    have := g4 x (List.mem_of_getElem? hx)
    rw [List.getElem?_take_of_lt hlt] at hx
    exact ⟨x, by simpa using hx, hd, this⟩
  have hH : Go.Sort.Holds (fun (b : UInt8) => Value.int .u8 (b.toNat : Int)) W b 0 (Array.replicate (Lib.nDigits u) (0 : UInt8)) := fun j hj => by
    rw [Array.size_replicate] at hj
    obtain ⟨x, hx, hd, _⟩ := hget j _ (hz j hj)
    refine ⟨?_, by simp [World.frozen?, g2]⟩
    rw [cell_of_heap g2, Nat.zero_add, hx, show x = .int .u8 0 from hd]
    have : (Array.replicate (Lib.nDigits u) (0 : UInt8))[j]! = 0 := by simp [hj]
    rw [this]; rfl
  have hgo := Tryz.internal_strconv_formatBase10 b 0 cp u (Array.replicate (Lib.nDigits u) (0 : UInt8)) W hH (by rw [Array.size_replicate]; exact Lib.lt_pow_nDigits u) hu (by rw [Array.size_replicate]; omega)
  rw [Array.size_replicate] at hgo
  refine hgo.mono ?_
  rintro ed W' ⟨rfl, m, v', dk, rfl, hinv⟩
  have hdk : dk.size = Lib.nDigits u := hinv.size
  have hb : ((Go.Sort.putRow (fun (b : UInt8) => Value.int .u8 (b.toNat : Int)) W b 0 dk).drewN m).heap[b]? = some (.cells (Go.Sort.putCells (fun (b : UInt8) => Value.int .u8 (b.toNat : Int)) 0 dk c) e (0, 0)) := by
    show (W.heap.modify b _)[b]? = _
    rw [Array.getElem?_modify]
    simp [g2, Go.Sort.onCells]
  have hsz : (Go.Sort.putCells (fun (b : UInt8) => Value.int .u8 (b.toNat : Int)) 0 dk c).size = c.size := by simp [Go.Sort.putCells]
  obtain ⟨hm', hf'⟩ := fram_put (W' := (Go.Sort.putRow (fun (b : UInt8) => Value.int .u8 (b.toNat : Int)) W b 0 dk).drewN m) h1 g1 rfl rfl rfl (by show (W.heap.modify b _).size = _; simp) (fun k hk => by
    show (W.heap.modify b _)[k]? = _
    rw [Array.getElem?_modify, if_neg (fun e => hk e.symm)])
  have hl1 : ((Lib.decDigits u).flatMap u8S).length = Lib.nDigits u := by
    rw [← Lib.decDigits_length]
    generalize Lib.decDigits u = l
    induction l with
    | nil => rfl
    | cons x l ih => rw [List.flatMap_cons, List.length_append, ih]; show 1 + l.length = l.length + 1; omega
  have hfm : ∀ i, i < Lib.nDigits u → ((Lib.decDigits u).flatMap u8S)[i]? = some (intS .u8 (dk[i]!.toNat : Int)) := fun i hi => by
    have hi' : i < (Lib.decDigits u).length := by rw [Lib.decDigits_length]; exact hi
    rw [← Lib.row_is_numeral hinv i hi', List.flatMap_def]
    have := flatten_at (st := 1) (css := (Lib.decDigits u).map u8S) (by simp) (i := i) (j := 0) (c := u8S (Lib.decDigits u)[i]) (x := intS .u8 ((Lib.decDigits u)[i].toNat : Int)) (by simp [hi']) rfl
    simpa using this
  refine ⟨_, I, _, _, rfl, ⟨rfl, rfl⟩, ⟨[], rfl, dens_nil⟩, hm', ⟨by simp [bs], fun p hp => ?_⟩, hf'.weaken (fun k hk => by simp [bs]; exact hk) fun k hk => .inl (by simpa [bs] using hk)⟩
  rw [List.mem_singleton.1 hp]
  have hlen : ((Lib.decDigits u).flatMap u8S ++ cs.drop (Lib.nDigits u)).length = cs.length := by rw [List.length_append, hl1, List.length_drop]; omega
  have hat : ∀ i x, ((Go.Sort.putCells (fun (b : UInt8) => Value.int .u8 (b.toNat : Int)) 0 dk c).toList.take cs.length)[i]? = some x → (i < Lib.nDigits u ∧ x = .int .u8 (dk[i]!.toNat : Int)) ∨ (¬ i < Lib.nDigits u ∧ i < cs.length ∧ c[i]? = some x) := fun i x hx => by
    have hi : i < cs.length := by have := lt_of_get hx; simp at this; omega
    have hic : i < c.size := by omega
    rw [List.getElem?_take_of_lt hi] at hx
    simp only [Go.Sort.putCells, Array.getElem?_toList, Array.getElem?_mapIdx, Array.getElem?_eq_getElem hic, Option.map_some, Option.some.injEq] at hx
    rcases Nat.lt_or_ge i (Lib.nDigits u) with h7 | h7
    · rw [if_pos ⟨by omega, by omega⟩] at hx
      exact .inl ⟨h7, hx.symm⟩
    · rw [if_neg (by omega)] at hx
      exact .inr ⟨by omega, hi, by rw [Array.getElem?_eq_getElem hic, hx]⟩
  refine .of_some rfl ⟨g1, _, hb, ?_, ?_, ?_⟩
  · simp only; rw [hsz, hlen]; exact g3
  · simp only; rw [hlen]
    intro x hx
    obtain ⟨i, hi⟩ := List.getElem?_of_mem hx
    rcases hat i x hi with ⟨_, rfl⟩ | ⟨_, h8, h9⟩
    · rfl
    · exact g4 x (List.mem_of_getElem? (i := i) (by rw [List.getElem?_take_of_lt h8]; simpa using h9))
  · simp only; rw [hlen]
    refine ⟨by rw [hlen, List.length_take]; simp only [Array.length_toList]; rw [hsz]; omega, fun i s x hs hx => ?_⟩
    rcases hat i x hx with ⟨h7, rfl⟩ | ⟨h7, h8, h9⟩
    · rw [List.getElem?_append_left (by rw [hl1]; exact h7), hfm i h7] at hs
      cases hs; rfl
    · rw [List.getElem?_append_right (by rw [hl1]; omega), hl1, List.getElem?_drop, show Lib.nDigits u + (i - Lib.nDigits u) = i by omega] at hs
      obtain ⟨x', hx', hd, _⟩ := hget i s hs
      rw [h9] at hx'; cases hx'; exact hd
theorem ifmt_spec [Tab10 G] {u : Nat} (hu : u < 18446744073709551616) : PSpec Tryz.prog G 137 [intS .u64 u, intS .i64 10] (strS (Lib.decDigits u)) := by
  refine fn_spec Tryz.func137 rfl rfl rfl ?_
  refine T_regionS ?_
  refine Run.one (ok_assign rfl rfl) rfl rfl rfl ?_
  refine Run.nil ?_
  refine T_seq ?_
  refine T_regionS ?_
  refine Run.one (ok_move rfl rfl) rfl rfl rfl ?_
  refine Run.one (ok_cmp rfl rfl rfl rfl) rfl rfl rfl ?_
  refine Run.nil ?_
  refine T_condT rfl rfl ?_
  refine T_seq ?_
  refine T_regionS ?_
  refine Run.one (ok_move rfl rfl) rfl rfl rfl ?_
  refine Run.one (ok_cmp rfl rfl rfl rfl) rfl rfl rfl ?_
  refine Run.nil ?_
  refine T_cond rfl rfl (fun h12 => ?_) (fun h12 => ?_)
  · have k12 := of_decide_eq_true h12
    refine T_regionS ?_
    refine Run.one (ok_move rfl rfl) rfl rfl rfl ?_
    refine Run.one (ok_conv rfl rfl (wrap_i64 (by omega) (by omega))) rfl rfl rfl ?_
    refine Run.one (ok_call rfl rfl (smallS_spec (by omega))) rfl rfl rfl ?_
    refine Run.one (ok_assign rfl rfl) rfl rfl rfl ?_
    refine Run.nil ?_
    refine T_ret ?_
    exact ⟨_, [], .one (.tmp rfl), List.nil_sublist _, rfl, rfl⟩
  · have k12 := of_decide_eq_false h12
    have hn := nDigits_le (u := u) (by omega) hu
    refine T_skip ?_
    refine T_regionS ?_
    refine Run.alloc rfl rfl rfl rfl rfl fun b5 => ?_
    refine Run.nil ?_
    refine T_regionS ?_
    refine Run.one (ok_move rfl rfl) rfl rfl rfl ?_
    refine Run.one (ok_call rfl rfl (numDigits_spec (by omega) hu)) rfl rfl rfl ?_
    refine Run.one (ok_assign rfl rfl) rfl rfl rfl ?_
    refine Run.nil ?_
    refine T_regionS ?_
    refine Run.one (ok_move rfl rfl) rfl rfl rfl ?_
    refine Run.one (ok_slice_arr rfl rfl rfl rfl (by omega)) rfl rfl rfl ?_
    refine Run.one (ok_move rfl rfl) rfl rfl rfl ?_
    refine Run.call1 0 rfl rfl rfl rfl (fmt10_spec hu (show _ ≤ 24 by omega) hn (fun i hi => zs24 (by omega))) rfl rfl rfl ?_
    rintro s1 H1 ⟨rfl, rfl⟩
    refine Run.nil ?_
    refine T_regionS ?_
    refine Run.one (ok_move rfl rfl) rfl rfl rfl ?_
    refine Run.one (ok_slice_arr rfl rfl rfl rfl (by omega)) rfl rfl rfl ?_
    refine Run.one (ok_str_own 0 rfl rfl rfl (Lib.decDigits_length u) (fun i hi => flat_u8 (by rw [Lib.decDigits_length]; exact hi))) rfl rfl rfl ?_
    refine Run.one (ok_assign rfl rfl) rfl rfl rfl ?_
    refine Run.nil ?_
    refine T_ret ?_
    exact ⟨_, [], .one (.tmp rfl), List.nil_sublist _, rfl, rfl⟩
theorem fmtU_spec [Tab10 G] {u : Nat} (hu : u < 18446744073709551616) : PSpec Tryz.prog G 105 [intS .u64 u, intS .i64 10] (strS (Lib.decDigits u)) := by
  refine fn_spec Tryz.func105 rfl rfl rfl ?_
  refine T_regionS ?_
  refine Run.one (ok_assign rfl rfl) rfl rfl rfl ?_
  refine Run.nil ?_
  refine T_regionS ?_
  iterate 2 refine Run.one (ok_move rfl rfl) rfl rfl rfl ?_
  refine Run.one (ok_call rfl rfl (ifmt_spec hu)) rfl rfl rfl ?_
  refine Run.one (ok_assign rfl rfl) rfl rfl rfl ?_
  refine Run.nil ?_
  refine T_ret ?_
  exact ⟨_, [], .one (.tmp rfl), List.nil_sublist _, rfl, rfl⟩
end Go.Proofs
