/- Rationals: straitref07. -/
import Derived.Test.YtcdlcfihjfhkgaaGreatDoorSns
import Derived.Test.YtcdlcfihjfhkgaaGreatDoorSv1
namespace Go.Proofs
open Go Go.Sv Num
variable {G : Imm}
theorem inv_mk (q : Rat) : q⁻¹ = mkRat (sgn (decide (q.num < 0)) q.den) q.num.natAbs := by
  rw [Rat.inv_def]
  obtain ⟨n, hn⟩ : ∃ n, n = q.num := ⟨_, rfl⟩
  rw [← hn]
  rcases Int.lt_or_le n 0 with h | h
  · obtain ⟨m, rfl⟩ : ∃ m : Nat, n = -(m : Int) := ⟨n.natAbs, by omega⟩
    rw [Rat.divInt_neg', Rat.divInt_ofNat, decide_eq_true h, Int.natAbs_neg, Int.natAbs_natCast]; rfl
  · obtain ⟨m, rfl⟩ : ∃ m : Nat, n = (m : Int) := ⟨n.natAbs, by omega⟩
    rw [Rat.divInt_ofNat, decide_eq_false (by omega), Int.natAbs_natCast]; rfl
theorem quo_mk (p q : Rat) : mkRat (p.num * sgn (decide (q.num < 0)) q.den) (p.den * q.num.natAbs) = p / q := by
  rw [Rat.div_def, inv_mk q, ← Rat.mkRat_mul_mkRat, Rat.mkRat_self]
instance bq_div {p q : Rat} {k j : Nat} [hp : Bq p k] [hq : Bq q j] : Bq (p / q) (k + j) := by
  rw [← quo_mk]
  exact bq_mkRat (by rw [Int.natAbs_mul, sgn_natAbs, Nat.pow_add]; exact Nat.mul_lt_mul'' hp.num hq.den) (by rw [Nat.pow_add]; exact Nat.mul_lt_mul'' hp.den hq.num) (by have := hp.pos; omega)
theorem IsQ.z {b : Bool} {l d : List Nat} {q : Rat} {k : Nat} (h : IsQ b l d q k) : IsZ b l (sgn b (Num.val l)) k := ⟨h.lim, rfl, h.len⟩
theorem rqOf_spec {n : Int} {q : Rat} (h1 : -9223372036854775808 ≤ n) (h2 : n ≤ 9223372036854775807) (hq : (n : Rat) = q := by rfl) : PSpec Tryz.prog G 28 [intS .i64 n] (aggS (canQ q)) := by
  refine fn_spec Tryz.func28 rfl rfl rfl ?_
  refine T_regionS ?_
  refine Run.alloc rfl rfl rfl rfl rfl fun b2 => ?_
  refine Run.nil ?_
  refine T_regionS ?_
  refine Run.one (ok_move rfl rfl) rfl rfl rfl ?_
  refine Run.one (ok_call rfl rfl (rzOf_spec h1 h2)) rfl rfl rfl ?_
  refine Run.one (ok_buildNat [1] rfl rfl (by decide) rfl (by simp) rfl rfl rfl) rfl rfl rfl ?_
  refine Run.one (ok_build rfl rfl rfl) rfl rfl rfl ?_
  refine Run.store 0 rfl rfl rfl rfl rfl rfl rfl rfl rfl ?_
  refine Run.nil ?_
  refine T_ret ?_
  exact ⟨_, [], .one (.agg 0 inferInstance rfl rfl rfl rfl), List.nil_sublist _, by rw [← hq]; show _ = aggS [boolS (decide (n < 0)), natS (dig n.natAbs), natS (dig 1)]; rw [dig_one]; rfl, rfl⟩
theorem rnew_spec {b : Bool} {l d : List Nat} {z : Int} {n k j : Nat} [h : IsZ b l z k] [hd : IsNat d n] [hk : Sz d j] (hs : 32 * (k + j) + 20000 ≤ 65536 := by decide) : PSpec Tryz.prog G 26 [aggS [boolS b, natS l], natS d] (tupS [aggS (canQ (mkRat z n)), intS .i64 (if n = 0 then 30 else 0)]) := by
  have hlen := h.len
  have hlend := hk.h
  have hb := h.bz.len
  refine fn_spec Tryz.func26 rfl rfl rfl ?_
  refine T_regionS ?_
  refine Run.box rfl rfl rfl rfl rfl rfl fun b2 => ?_
  refine Run.alloc rfl rfl rfl rfl rfl fun b4 => ?_
  refine Run.one (ok_assign rfl rfl) rfl rfl rfl ?_
  refine Run.nil ?_
  refine T_seq ?_
  refine T_regionS ?_
  refine Run.one (ok_move rfl rfl) rfl rfl rfl ?_
  refine Run.one (ok_call rfl rfl (rtrim_spec (by unfold cap; omega))) rfl rfl rfl ?_
  refine Run.one (ok_len rfl rfl) rfl rfl rfl ?_
  refine Run.one (ok_cmp rfl rfl rfl rfl) rfl rfl rfl ?_
  refine Run.nil ?_
  refine T_cond rfl rfl (fun h21 => ?_) (fun h21 => ?_)
  · have k21 := beq_iff_eq.1 h21
    have hn0 : n = 0 := dig_len_zero.1 (by omega)
    refine T_regionS ?_
    refine Run.one (ok_call rfl rfl (rqOf_spec (n := 0) (q := mkRat z n) (by decide) (by decide) (by rw [hn0, Rat.mkRat_zero]; rfl))) rfl rfl rfl ?_
    refine Run.store 0 rfl rfl rfl rfl rfl rfl rfl rfl rfl ?_
    refine Run.one (ok_assign rfl rfl) rfl rfl rfl ?_
    refine Run.nil ?_
    refine T_ret ?_
    exact ⟨_, [], .many (.cons (.agg 0 inferInstance rfl rfl rfl rfl) (.cons (.tmp rfl) (.nil))), List.nil_sublist _, by rw [if_pos hn0]; rfl, rfl⟩
  · have k21 := beq_eq_false_iff_ne.1 h21
    have hn0 : n ≠ 0 := fun h0 => k21 (by rw [h0, dig_zero]; rfl)
    have hnp := Nat.pos_of_ne_zero hn0
    obtain ⟨x, hx⟩ : ∃ x, x = z.natAbs := ⟨_, rfl⟩
    obtain ⟨g, hg⟩ : ∃ g, g = Nat.gcd x n := ⟨_, rfl⟩
    have hg0 : 0 < g := by rw [hg]; exact Nat.gcd_pos_of_pos_right _ hnp
    have hqn := mkRat_num (b := decide (z < 0)) (a := z.natAbs) hn0
    have hqd := mkRat_den (b := decide (z < 0)) (a := z.natAbs) hn0
    rw [sgn_self, ← hx, ← hg] at hqn hqd
    obtain ⟨q, hq⟩ : ∃ q, q = mkRat z n := ⟨_, rfl⟩
    rw [← hq] at hqn hqd ⊢
    have hxg : x / g ≤ x := Nat.div_le_self _ _
    have hng : n / g ≤ n := Nat.div_le_self _ _
    have hxl : x < 4294967296 ^ k := by rw [hx]; exact h.bz.h
    have i1 : IsZ (decide (z < 0)) (dig (x / g)) q.num k := ⟨lim_dig _, by rw [val_dig, hqn], dig_length_le (Nat.lt_of_le_of_lt hxg hxl)⟩
    refine T_skip ?_
    refine T_regionS ?_
    refine Run.one (ok_load_own_agg 1 rfl rfl rfl rfl rfl) rfl rfl rfl ?_
    refine Run.one (ok_call rfl rfl (rznorm_spec (by unfold cap; omega))) rfl rfl rfl ?_
    refine Run.store 1 rfl rfl rfl rfl rfl rfl rfl rfl rfl ?_
    refine Run.nil ?_
    refine T_regionS ?_
    refine Run.one (ok_fieldAddr_eq rfl rfl rfl) rfl rfl rfl ?_
    refine Run.one (ok_load_own 1 rfl rfl rfl rfl) rfl rfl rfl ?_
    refine Run.one (ok_call rfl rfl (rsmall_spec (by unfold cap; omega))) rfl rfl rfl ?_
    refine Run.one (ok_move rfl rfl) rfl rfl rfl ?_
    iterate 2 refine Run.one (ok_extract rfl rfl rfl) rfl rfl rfl ?_
    iterate 2 refine Run.one (ok_assign rfl rfl) rfl rfl rfl ?_
    refine Run.nil ?_
    refine T_regionS ?_
    refine Run.one (ok_move rfl rfl) rfl rfl rfl ?_
    refine Run.one (ok_call rfl rfl (rsmall_spec (by unfold cap; omega))) rfl rfl rfl ?_
    refine Run.one (ok_move rfl rfl) rfl rfl rfl ?_
    iterate 2 refine Run.one (ok_extract rfl rfl rfl) rfl rfl rfl ?_
    iterate 2 refine Run.one (ok_assign rfl rfl) rfl rfl rfl ?_
    refine Run.nil ?_
    refine T_seqQ (K := fun S1 => Ent S1 (⟨82, [(5, intS .i64 0), (4, eqS (.pointer (some ⟨b4, 0, none⟩))), (2, eqS (.pointer (some ⟨b2, 0, none⟩))), (1, natS d)], [⟨some b4, 27, [eqS (.bool false), eqS (.slice none 0 0), eqS (.slice none 0 0)], 0⟩, ⟨some b2, 25, canI z, 0⟩], [], (0, false)⟩)) ?_ ?_
    · refine T_regionS ?_
      refine Run.oneB (ok_move rfl rfl) rfl rfl rfl (fun h6_0 => ?_) (fun h6_0 => ?_)
      · refine Run.one (ok_move rfl rfl) rfl rfl rfl ?_
        refine Run.one (ok_move rfl rfl) (gB rfl rfl rfl rfl) rfl rfl ?_
        refine Run.one (ok_pick rfl rfl rfl) rfl rfl rfl ?_
        refine Run.nil ?_
        refine T_cond rfl rfl (fun h39 => ?_) (fun h39 => ?_)
        · have hx64 : x < 18446744073709551616 := by rw [hx]; exact of_decide_eq_true h6_0
          have hn64 : n < 18446744073709551616 := of_decide_eq_true h39
          refine T_regionS ?_
          refine Run.one ((ok_move rfl rfl).sub (int_eq (n := ((x : Nat) : Int)) (by rw [← hx, if_pos hx64]))) rfl rfl rfl ?_
          refine Run.one ((ok_move rfl rfl).sub (int_eq (n := ((n : Nat) : Int)) (if_pos hn64))) rfl rfl rfl ?_
          refine Run.one ((ok_call rfl rfl (rplain_spec hx64 hn64)).sub (int_eq (n := ((g : Nat) : Int)) (by rw [hg]))) rfl rfl rfl ?_
          refine Run.one (ok_assign rfl rfl) rfl rfl rfl ?_
          refine Run.nil ?_
          refine T_drawS 13 (by kernel_rfl) ?_
          refine Run.one (ok_fieldAddr_eq rfl rfl rfl) rfl rfl rfl ?_
          refine Run.one (ok_load_own 1 rfl rfl rfl rfl) rfl rfl rfl ?_
          refine Run.one ((ok_move rfl rfl).sub (int_eq (n := ((x : Nat) : Int)) (by rw [← hx, if_pos hx64]))) rfl rfl rfl ?_
          refine Run.one (ok_move rfl rfl) rfl rfl rfl ?_
          refine Run.one ((ok_quo rfl rfl rfl (by omega) (by omega) (by have := Nat.div_le_self x g; rw [← Int.natCast_ediv]; exact wrap_u64 (Int.natCast_nonneg _) (by omega))).sub (int_eq (n := ((x / g : Nat) : Int)) (Int.natCast_ediv _ _).symm)) rfl rfl rfl ?_
          refine Run.one (ok_call rfl rfl (rof_spec (by omega))) rfl rfl rfl ?_
          refine Run.one (ok_build rfl rfl rfl) rfl rfl rfl ?_
          refine Run.one (ok_call rfl rfl (rznorm_spec (by unfold cap; omega))) rfl rfl rfl ?_
          refine Run.one ((ok_move rfl rfl).sub (int_eq (n := ((n : Nat) : Int)) (if_pos hn64))) rfl rfl rfl ?_
          refine Run.one (ok_move rfl rfl) rfl rfl rfl ?_
          refine Run.one ((ok_quo rfl rfl rfl (by omega) (by omega) (by have := Nat.div_le_self n g; rw [← Int.natCast_ediv]; exact wrap_u64 (Int.natCast_nonneg _) (by omega))).sub (int_eq (n := ((n / g : Nat) : Int)) (Int.natCast_ediv _ _).symm)) rfl rfl rfl ?_
          refine Run.one (ok_call rfl rfl (rof_spec (by omega))) rfl rfl rfl ?_
          refine Run.one (ok_build rfl rfl rfl) rfl rfl rfl ?_
          refine Run.nil ?_
          refine Run.store 0 rfl rfl rfl rfl rfl rfl rfl rfl rfl ?_
          refine Run.one (ok_assign rfl rfl) rfl rfl rfl ?_
          refine Run.nil ?_
          refine T_ret ?_
          exact ⟨_, [], .many (.cons (.agg 0 inferInstance rfl rfl rfl rfl) (.cons (.tmp rfl) (.nil))), List.nil_sublist _, by rw [if_neg hn0, ← hqd]; rfl, rfl⟩
        · refine T_skip ?_
          exact ent_h (subG_cons rfl (subG_cons rfl (subG_cons rfl (subG_cons rfl (trivial))))) rfl
      · refine Run.one (ok_move rfl rfl) rfl rfl rfl ?_
        refine Run.no (gB rfl rfl rfl rfl) rfl rfl ?_
        refine Run.one (ok_pick rfl rfl rfl) rfl rfl rfl ?_
        refine Run.nil ?_
        refine T_condF rfl rfl ?_
        refine T_skip ?_
        exact ent_h (subG_cons rfl (subG_cons rfl (subG_cons rfl (subG_cons rfl (trivial))))) rfl
    · intro S1 hS1
      refine T_pre hS1 ?_
      refine T_regionS ?_
      refine Run.one (ok_fieldAddr_eq rfl rfl rfl) rfl rfl rfl ?_
      refine Run.one (ok_load_own 1 rfl rfl rfl rfl) rfl rfl rfl ?_
      refine Run.one (ok_move rfl rfl) rfl rfl rfl ?_
      refine Run.one ((ok_call rfl rfl (rgcd_spec (by omega))).sub (show ∀ I v, (natS (dig (Nat.gcd z.natAbs n))).den I v → (natS (dig g)).den I v from fun I v h => by rw [← hx, ← hg] at h; exact h)) rfl rfl rfl ?_
      have hgl : (dig g).length ≤ j := dig_length_le (Nat.lt_of_le_of_lt (by rw [hg]; exact Nat.gcd_le_right _ hnp) (by have h1 := val_lt hd.lim; rw [hd.val] at h1; exact Nat.lt_of_lt_of_le h1 (Nat.pow_le_pow_right (by decide) hlend)))
      refine Run.one (ok_assign rfl rfl) rfl rfl rfl ?_
      refine Run.nil ?_
      refine T_regionS ?_
      refine Run.one (ok_fieldAddr_eq rfl rfl rfl) rfl rfl rfl ?_
      refine Run.one (ok_load_own 1 rfl rfl rfl rfl) rfl rfl rfl ?_
      refine Run.one (ok_move rfl rfl) rfl rfl rfl ?_
      refine Run.one (ok_call rfl rfl (rdiv_spec (by unfold cap; omega) (by unfold cap; omega))) rfl rfl rfl ?_
      refine Run.one (ok_move rfl rfl) rfl rfl rfl ?_
      refine Run.one ((ok_extract rfl rfl rfl).sub (show ∀ I v, (natS (dig (z.natAbs / g))).den I v → (natS (dig (x / g))).den I v from fun I v h => by rw [← hx] at h; exact h)) rfl rfl rfl ?_
      iterate 2 refine Run.one (ok_extract rfl rfl rfl) rfl rfl rfl ?_
      iterate 3 refine Run.one (ok_assign rfl rfl) rfl rfl rfl ?_
      refine Run.nil ?_
      refine T_regionS ?_
      iterate 2 refine Run.one (ok_move rfl rfl) rfl rfl rfl ?_
      refine Run.one (ok_call rfl rfl (rdiv_spec (by unfold cap; omega) (by unfold cap; omega))) rfl rfl rfl ?_
      refine Run.one (ok_move rfl rfl) rfl rfl rfl ?_
      iterate 3 refine Run.one (ok_extract rfl rfl rfl) rfl rfl rfl ?_
      iterate 3 refine Run.one (ok_assign rfl rfl) rfl rfl rfl ?_
      refine Run.nil ?_
      refine T_regionS ?_
      refine Run.one (ok_fieldAddr_eq rfl rfl rfl) rfl rfl rfl ?_
      refine Run.one (ok_load_own 1 rfl rfl rfl rfl) rfl rfl rfl ?_
      refine Run.one (ok_move rfl rfl) rfl rfl rfl ?_
      refine Run.one (ok_build rfl rfl rfl) rfl rfl rfl ?_
      refine Run.one (ok_call rfl rfl (rznorm_spec (by unfold cap; omega))) rfl rfl rfl ?_
      refine Run.one (ok_move rfl rfl) rfl rfl rfl ?_
      refine Run.one (ok_build rfl rfl rfl) rfl rfl rfl ?_
      refine Run.store 0 rfl rfl rfl rfl rfl rfl rfl rfl rfl ?_
      refine Run.one (ok_assign rfl rfl) rfl rfl rfl ?_
      refine Run.nil ?_
      refine T_ret ?_
      exact ⟨_, [], .many (.cons (.agg 0 inferInstance rfl rfl rfl rfl) (.cons (.tmp rfl) (.nil))), List.nil_sublist _, by rw [if_neg hn0, ← hqd]; rfl, rfl⟩
theorem rnewq_spec {b : Bool} {l d : List Nat} {q : Rat} {k : Nat} [h : IsQ b l d q k] (hs : 64 * k + 20000 ≤ 65536 := by decide) : PSpec Tryz.prog G 26 [aggS [boolS b, natS l], natS d] (tupS [aggS (canQ q), intS .i64 (if val d = 0 then 30 else 0)]) := by
  have i1 := h.z
  have i2 : IsNat d (val d) := isNat_of h.limd
  have i3 : Sz d k := ⟨h.lend⟩
  have := rnew_spec (G := G) (b := b) (l := l) (d := d) (z := sgn b (val l)) (n := val d) (k := k) (j := k) (by omega)
  rw [h.val] at this; exact this
theorem rqNorm_spec {b : Bool} {l d : List Nat} {q : Rat} {k : Nat} [h : IsQ b l d q k] (hs : 64 * k + 20000 ≤ 65536 := by decide) : PSpec Tryz.prog G 21 [aggS [boolS b, natS l, natS d]] (aggS (canQ q)) := by
  refine fn_spec Tryz.func21 rfl rfl rfl ?_
  refine T_regionS ?_
  refine Run.one (ok_box rfl rfl) rfl rfl rfl ?_
  refine Run.alloc rfl rfl rfl rfl rfl fun b2 => ?_
  refine Run.nil ?_
  refine T_regionS ?_
  refine Run.one (ok_fieldAddr rfl rfl rfl) rfl rfl rfl ?_
  refine Run.one (ok_load_agg rfl rfl rfl rfl) rfl rfl rfl ?_
  refine Run.one (ok_fieldAddr rfl rfl rfl) rfl rfl rfl ?_
  refine Run.one (ok_load rfl rfl) rfl rfl rfl ?_
  refine Run.one (ok_call rfl rfl (rnewq_spec hs)) rfl rfl rfl ?_
  refine Run.one (ok_move rfl rfl) rfl rfl rfl ?_
  iterate 2 refine Run.one (ok_extract rfl rfl rfl) rfl rfl rfl ?_
  refine Run.alloc rfl rfl rfl rfl rfl fun b3 => ?_
  refine Run.store 0 rfl rfl rfl rfl rfl rfl rfl rfl rfl ?_
  refine Run.one (ok_assign rfl rfl) rfl rfl rfl ?_
  refine Run.nil ?_
  refine T_regionS ?_
  refine Run.one (ok_load_own_agg 0 rfl rfl rfl rfl rfl) rfl rfl rfl ?_
  refine Run.store 1 rfl rfl rfl rfl rfl rfl rfl rfl rfl ?_
  refine Run.nil ?_
  refine T_ret ?_
  exact ⟨_, [], .one (.agg 1 inferInstance rfl rfl rfl rfl), List.nil_sublist _, rfl, rfl⟩
end Go.Proofs
/- Points: vec, straitref08. -/
namespace Go.Proofs
open Go Go.Sv Num
variable {G : Imm}
theorem ok_max4 {P : Program} {G : Imm} {H : HL} {o : Oper} {g : List (Nat × SV)} {x y z w : Operand} {ts : Array TypeId} {k : IntKind} {m n p q : Int} (hop : o.op = .call { callee := .builtin .max, args := #[x, y, z, w], argTypes := ts }) (hx : opE g x = some (intS k m)) (hy : opE g y = some (intS k n)) (hz : opE g z = some (intS k p)) (hw : opE g w = some (intS k q)) : OpOK P G H o g (intS k (max (max (max m n) p) q)) :=
  ok_pure (by simp [hop]) fun I W a _ _ hr => by
    have h1 : a.eval x = .int k m := hr.get (by simp [hop, Op.operands, Call.operands]) hx
    have h2 : a.eval y = .int k n := hr.get (by simp [hop, Op.operands, Call.operands]) hy
    have h3 : a.eval z = .int k p := hr.get (by simp [hop, Op.operands, Call.operands]) hz
    have h4 : a.eval w = .int k q := hr.get (by simp [hop, Op.operands, Call.operands]) hw
    refine ⟨_, ?_, rfl⟩
    have e : ∀ u v : Int, (if v > u then v else u) = max u v := fun u v => by rw [Int.max_def]; split <;> split <;> omega
    simp [execOp, hop, resolve, invoke, builtin, Builtin.max_, Builtin.max2, h1, h2, h3, h4, e]
abbrev canP (x y : Rat) : List SV := [boolS (decide (x.num < 0)), natS (dig x.num.natAbs), natS (dig x.den), boolS (decide (y.num < 0)), natS (dig y.num.natAbs), natS (dig y.den)]
def dist (x y : Rat) : Rat := if x < y then y - x else x - y
instance bq_dist {p q : Rat} {k j : Nat} [hp : Bq p k] [hq : Bq q j] : Bq (dist p q) (k + j + 1) := by
  unfold dist; split
  · rw [Nat.add_comm k j]; exact bq_sub
  · exact bq_sub
abbrev pc (p : (Bool × List Nat × List Nat) × (Bool × List Nat × List Nat)) : List SV := [boolS p.1.1, natS p.1.2.1, natS p.1.2.2, boolS p.2.1, natS p.2.2.1, natS p.2.2.2]
abbrev pcan (p : Rat × Rat) : List SV := canP p.1 p.2
def pv (p : (Bool × List Nat × List Nat) × (Bool × List Nat × List Nat)) : Rat × Rat := (qv p.1, qv p.2)
abbrev PtOk (k : Nat) (p : (Bool × List Nat × List Nat) × (Bool × List Nat × List Nat)) : Prop := (Lim p.1.2.1 ∧ Lim p.1.2.2 ∧ p.1.2.1.length ≤ k ∧ p.1.2.2.length ≤ k) ∧ Lim p.2.2.1 ∧ Lim p.2.2.2 ∧ p.2.2.1.length ≤ k ∧ p.2.2.2.length ≤ k
theorem isQ_lim {b : Bool} {l d : List Nat} {k : Nat} (h : Lim l ∧ Lim d ∧ l.length ≤ k ∧ d.length ≤ k) (hk : 0 < k) : IsQ b l d (qv (b, l, d)) k := ⟨h.1, h.2.1, rfl, h.2.2.1, h.2.2.2, hk⟩
theorem flat_pcan : ∀ l : List (Rat × Rat), (l.flatMap pcan).length = l.length * 6
  | [] => rfl
  | x :: l => by rw [List.flatMap_cons, List.length_append, flat_pcan l]; show 6 + l.length * 6 = (l.length + 1) * 6; omega
theorem vNorm_spec [Tab G] {xs : List ((Bool × List Nat × List Nat) × (Bool × List Nat × List Nat))} {k : Nat} (hk : 0 < k) (hl : ∀ p ∈ xs, PtOk k p) (hs : 2 * k + 11000 ≤ cap) (hxl : xs.length ≤ cap) : PSpec Tryz.prog G 88 [slS 6 pc xs] (slS 6 pcan (xs.map pv)) := by
  unfold cap at hxl
  refine fn_spec Tryz.func88 rfl rfl rfl ?_
  refine T_regionS ?_
  refine Run.one (ok_assign rfl rfl) rfl rfl rfl ?_
  refine Run.nil ?_
  refine T_seq ?_
  refine T_regionS ?_
  refine Run.one (ok_move rfl rfl) rfl rfl rfl ?_
  refine Run.one (ok_len rfl rfl) rfl rfl rfl ?_
  refine Run.one (ok_move rfl rfl) rfl rfl rfl ?_
  refine Run.nil ?_
  refine T_block ?_
  refine T_ghost (ghost_row 68 6) ?_
  refine T_loop2 (fun (i : Nat) (q : Option (Nat × Nat)) => ⟨_, [(7, intS .i64 (i : Nat)), (6, intS .i64 xs.length), (5, slS 6 pc xs), (2, eqS (rowV q i))], [rowE q 68 6 i (((xs.take i).map pv).flatMap pcan)], [], (0, false)⟩)
      (fun i q => i ≤ xs.length ∧ rowOk q i) (fun i q => xs.length - i)
      0 none ⟨Nat.zero_le _, rfl⟩ (ent_h (subG_cons rfl (subG_cons rfl (subG_cons rfl (subG_cons rfl (trivial))))) rfl) ?_
  rintro i q ⟨hi, hq⟩
  refine T_regionS ?_
  refine Run.one (ok_cmp rfl rfl rfl rfl) rfl rfl rfl ?_
  refine Run.nil ?_
  refine T_seq ?_
  refine T_cond rfl rfl (fun h8 => ?_) (fun h8 => ?_)
  · have k8 := of_decide_eq_true h8
    obtain ⟨⟨⟨b, l, d⟩, ⟨c, m, e⟩⟩, hp⟩ : ∃ p, xs[i]? = some p := ⟨_, List.getElem?_eq_getElem (by omega)⟩
    have hpm := hl _ (List.mem_of_getElem? hp)
    have i1 : IsQ b l d (qv (b, l, d)) k := isQ_lim hpm.1 hk
    have i2 : IsQ c m e (qv (c, m, e)) k := isQ_lim hpm.2 hk
    have htk : (xs.take (i + 1)).map pv = (xs.take i).map pv ++ [(qv (b, l, d), qv (c, m, e))] := by rw [List.take_add_one, hp]; simp [pv]
    refine T_skip ?_
    refine T_seq ?_
    refine T_block ?_
    refine T_regionS ?_
    refine Run.one (ok_indexAddr rfl rfl rfl (by omega) (y := ((b, l, d), (c, m, e))) (hp)) rfl rfl rfl ?_
    refine Run.one ((show OpOK _ _ _ _ _ (aggS [boolS b, natS l, natS d, boolS c, natS m, natS e]) from ok_load_agg rfl rfl rfl rfl)) rfl rfl rfl ?_
    refine Run.alloc rfl rfl rfl rfl rfl fun b4 => ?_
    refine Run.store 0 rfl rfl rfl rfl rfl rfl rfl rfl rfl ?_
    refine Run.nil ?_
    refine T_draw 9 (by kernel_rfl) ?_
    refine Run.one (ok_move rfl rfl) rfl rfl rfl ?_
    refine Run.one (ok_fieldAddr_eq rfl rfl rfl) rfl rfl rfl ?_
    refine Run.one (ok_load_own_agg 0 rfl rfl rfl rfl rfl) rfl rfl rfl ?_
    refine Run.one (ok_call rfl rfl (qNorm_spec hs)) rfl rfl rfl ?_
    refine Run.one (ok_fieldAddr_eq rfl rfl rfl) rfl rfl rfl ?_
    refine Run.one (ok_load_own_agg 0 rfl rfl rfl rfl rfl) rfl rfl rfl ?_
    refine Run.one (ok_call rfl rfl (qNorm_spec hs)) rfl rfl rfl ?_
    refine Run.one (ok_build rfl rfl rfl) rfl rfl rfl ?_
    refine Run.one (ok_buildSlice rfl rfl (by decide) rfl (by simp) rfl rfl) rfl rfl rfl ?_
    refine Run.nil ?_
    refine Run.append 1 rfl rfl rfl rfl rfl rfl rfl rfl hq (by rw [flat_pcan]; simp; omega) (fun z hz => by rw [List.mem_singleton.1 hz]; rfl) (by unfold big; simp; omega) (by unfold big; simp; omega) fun q20 hq20 => ?_
    refine Run.one (ok_assign rfl rfl) rfl rfl rfl ?_
    refine Run.nil ?_
    refine T_ghost (ghost_drop (List.sublist_cons_self _ _)) ?_
    refine T_region ?_
    refine Run.one (ok_ari (z := ((i + 1 : Nat) : Int)) rfl rfl rfl (congrArg some (by omega)) (wrap_i64 (by omega) (by omega))) rfl rfl rfl ?_
    refine Run.one (ok_move rfl rfl) rfl rfl rfl ?_
    refine Run.nil ?_
    exact ⟨i + 1, q20, ⟨by omega, hq20⟩, by omega, ent_h (subG_cons rfl (subG_cons rfl (subG_cons rfl (subG_cons rfl (trivial))))) (by rw [htk, List.flatMap_append]; rfl)⟩
  · have k8 := of_decide_eq_false h8
    have hie : i = xs.length := by omega
    subst hie
    refine T_exit ?_
    refine T_ghost (ghost_sl 0 2 rfl rfl hq (l := (xs.take xs.length).map pv) (f := pcan) (by simp) rfl (fun _ _ => rfl) (by unfold big; omega)) ?_
    refine T_regionS ?_
    refine Run.one (ok_move rfl rfl) rfl rfl rfl ?_
    refine Run.one (ok_assign rfl rfl) rfl rfl rfl ?_
    refine Run.nil ?_
    refine T_ret ?_
    exact ⟨_, [], .one (.tmp rfl), List.nil_sublist _, by rw [List.take_length], rfl⟩
end Go.Proofs
