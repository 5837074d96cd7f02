/- Contracts of the functions of straitref01. -/
import Derived.Test.YtijnlobgmfmhjaaGreatDoorSnd
namespace Go.Proofs
open Go Go.Sv Num
variable {G : Imm}
theorem drop_val (l : List Nat) (k : Nat) : val (l.drop k) = limb l k + 4294967296 * val (l.drop (k + 1)) := by
  by_cases h : k < l.length
  · rw [List.drop_eq_getElem_cons h]
    have : limb l k = l[k] := by simp [limb, List.getD_eq_getElem?_getD, h]
    simp only [val, this]
  · rw [List.drop_eq_nil_of_le (by omega), List.drop_eq_nil_of_le (by omega), limb_out (by omega)]; rfl
theorem low_split (l : List Nat) (k : Nat) : val l = low l k + 4294967296 ^ k * val (l.drop k) := by
  induction k with
  | zero => rw [low_zero, Nat.pow_zero, Nat.one_mul, Nat.zero_add, List.drop_zero]
  | succ k ih => rw [ih, low_succ, pow_split, drop_val, Nat.mul_add, Nat.mul_assoc, Nat.add_assoc]
theorem low_of_lt {l : List Nat} {k : Nat} (h : val l < 4294967296 ^ k) : low l k = val l := by
  have := low_split l k
  rcases Nat.eq_zero_or_pos (val (l.drop k)) with h0 | h0
  · rw [h0] at this; simpa using this.symm
  · have := Nat.le_mul_of_pos_right (4294967296 ^ k) h0; omega
theorem rsb_step {p v o x y a b : Nat} (hx : x < 4294967296) (hy : y < 4294967296) (ho : o ≤ 1) (h : a + p * o = v + b) :
    a + p * x + p * 4294967296 * (1 - (x + 4294967296 - y - o) / 4294967296) = v + p * ((x + 4294967296 - y - o) % 4294967296) + (b + p * y) := by
  have e : x + 4294967296 * (1 - (x + 4294967296 - y - o) / 4294967296) = (x + 4294967296 - y - o) % 4294967296 + y + o := by omega
  have e2 := congrArg (p * ·) e
  simp only [Nat.mul_add, ← Nat.mul_assoc] at e2
  omega
theorem list_eq_of {a b : List Nat} (hl : a.length = b.length) (h : ∀ j, j < a.length → limb a j = limb b j) : a = b := by
  refine List.ext_getElem? fun i => ?_
  by_cases hi : i < a.length
  · rw [limb_get hi, limb_get (by omega), h i hi]
  · rw [List.getElem?_eq_none (by omega), List.getElem?_eq_none (by omega)]
theorem bd_sum {m n k l : Nat} (h : m < 4294967296 ^ k) (h' : n < 4294967296 ^ l) : m + n < 4294967296 ^ (k + l + 1) := (bd_add (h := ⟨h⟩) (h' := ⟨h'⟩)).h
theorem rtrim_spec {l : List Nat} {n : Nat} [hn : IsNat l n] (hk : l.length ≤ cap := by exact Sz.le (by decide)) : PSpec Tryz.prog G 32 [natS l] (natS (dig n)) := by
  unfold cap at hk
  refine fn_spec Tryz.func32 rfl rfl rfl ?_
  refine T_regionS ?_
  refine Run.one (ok_assign rfl rfl) rfl rfl rfl ?_
  refine Run.nil ?_
  refine T_regionS ?_
  refine Run.one (ok_move rfl rfl) rfl rfl rfl ?_
  refine Run.one (ok_len rfl rfl) rfl rfl rfl ?_
  refine Run.one (ok_assign rfl rfl) rfl rfl rfl ?_
  refine Run.nil ?_
  refine T_seq ?_
  refine T_block ?_
  refine T_loop (γ := Nat) (fun g => ⟨_, [(3, intS .i64 g), (0, natS l)], [], [], (0, false)⟩) (fun g => g ≤ l.length ∧ ∀ i, g ≤ i → limb l i = 0) (fun g => g) l.length ⟨Nat.le_refl _, fun i h => limb_out h⟩ (ent_g (subG_cons rfl (subG_cons rfl trivial))) ?_
  rintro g ⟨hg, hz⟩
  have fin : (g = 0 ∨ limb l (g - 1) ≠ 0) → l.take g = dig n := fun h => by rw [← hn.val]; exact trim_take hn.lim hg hz h
  refine T_seq ?_
  refine T_regionS ?_
  refine Run.one (ok_move rfl rfl) rfl rfl rfl ?_
  refine Run.oneB (ok_cmp rfl rfl rfl rfl) rfl rfl rfl (fun h2_1 => ?_) (fun h2_1 => ?_)
  · have k2_1 := of_decide_eq_true h2_1
    refine Run.one (ok_move rfl rfl) rfl rfl rfl ?_
    refine Run.one (ok_move rfl rfl) ⟨_, _, rfl, rfl, rfl⟩ rfl rfl ?_
    refine Run.one (ok_move rfl rfl) ⟨_, _, rfl, rfl, rfl⟩ rfl rfl ?_
    refine Run.one (ok_ari (z := ((g - 1 : Nat) : Int)) rfl rfl rfl (congrArg some (by omega)) (wrap_i64 (by omega) (by omega))) ⟨_, _, rfl, rfl, rfl⟩ rfl rfl ?_
    refine Run.one (ok_indexAddr rfl rfl rfl (by omega) (y := limb l (g - 1)) (limb_get (by omega))) ⟨_, _, rfl, rfl, rfl⟩ rfl rfl ?_
    refine Run.one (ok_load rfl rfl) ⟨_, _, rfl, rfl, rfl⟩ rfl rfl ?_
    refine Run.one (ok_cmp rfl rfl rfl rfl) ⟨_, _, rfl, rfl, rfl⟩ rfl rfl ?_
    refine Run.one (ok_pick rfl rfl rfl) rfl rfl rfl ?_
    refine Run.nil ?_
    refine T_cond rfl rfl (fun h15 => ?_) (fun h15 => ?_)
    · have k15 := beq_iff_eq.1 h15
      refine T_skip ?_
      refine T_block ?_
      refine T_region ?_
      refine Run.one (ok_move rfl rfl) rfl rfl rfl ?_
      refine Run.one (ok_ari (z := ((g - 1 : Nat) : Int)) rfl rfl rfl (congrArg some (by omega)) (wrap_i64 (by omega) (by omega))) rfl rfl rfl ?_
      refine Run.one (ok_assign rfl rfl) rfl rfl rfl ?_
      refine Run.nil ?_
      exact ⟨g - 1, ⟨by omega, fun i hi => by by_cases h : g ≤ i; exact hz i h; rw [show i = g - 1 by omega]; omega⟩, by omega, ent_g (subG_cons rfl (subG_cons rfl trivial))⟩
    · have k15 := beq_eq_false_iff_ne.1 h15
      refine T_exit ?_
      refine T_regionS ?_
      refine Run.buildRow rfl rfl rfl rfl rfl rfl (by decide) rfl (.inl rfl) rfl rfl fun b18 hb18 => ?_
      refine Run.one (ok_move rfl rfl) rfl rfl rfl ?_
      refine Run.one (ok_move rfl rfl) rfl rfl rfl ?_
      refine Run.one (ok_slice (lo := 0) (hi := g) (m := g) rfl rfl (.inl ⟨rfl, rfl⟩) (.inr ⟨_, _, rfl, rfl⟩) (.inl rfl) (by omega) hg) rfl rfl rfl ?_
      refine Run.append 0 rfl rfl rfl rfl rfl rfl rfl rfl hb18 rfl flat_u32 (by unfold big; simp; omega) (by unfold big; simp; omega) fun q22 hq22 => ?_
      refine Run.ghost _ rfl (ghost_sl 0 22 rfl rfl hq22 (l := l.take g) (f := u32S) (by simp) rfl flat_u32 (by unfold big; simp; omega)) ?_
      refine Run.one (ok_assign rfl rfl) rfl rfl rfl ?_
      refine Run.nil ?_
      refine T_ret ?_
      exact ⟨_, [], .one (.tmp rfl), List.nil_sublist _, congrArg natS (fin (.inr (by omega))), rfl⟩
  · have k2_1 := of_decide_eq_false h2_1
    refine Run.one (ok_move rfl rfl) rfl rfl rfl ?_
    refine Run.no ⟨_, _, rfl, rfl, rfl⟩ rfl rfl ?_
    refine Run.no ⟨_, _, rfl, rfl, rfl⟩ rfl rfl ?_
    refine Run.no ⟨_, _, rfl, rfl, rfl⟩ rfl rfl ?_
    refine Run.no ⟨_, _, rfl, rfl, rfl⟩ rfl rfl ?_
    refine Run.no ⟨_, _, rfl, rfl, rfl⟩ rfl rfl ?_
    refine Run.no ⟨_, _, rfl, rfl, rfl⟩ rfl rfl ?_
    refine Run.one (ok_pick rfl rfl rfl) rfl rfl rfl ?_
    refine Run.nil ?_
    refine T_condF rfl rfl ?_
    refine T_exit ?_
    refine T_regionS ?_
    refine Run.buildRow rfl rfl rfl rfl rfl rfl (by decide) rfl (.inl rfl) rfl rfl fun b18 hb18 => ?_
    refine Run.one (ok_move rfl rfl) rfl rfl rfl ?_
    refine Run.one (ok_move rfl rfl) rfl rfl rfl ?_
    refine Run.one (ok_slice (lo := 0) (hi := g) (m := g) rfl rfl (.inl ⟨rfl, rfl⟩) (.inr ⟨_, _, rfl, rfl⟩) (.inl rfl) (by omega) hg) rfl rfl rfl ?_
    refine Run.append 0 rfl rfl rfl rfl rfl rfl rfl rfl hb18 rfl flat_u32 (by unfold big; simp; omega) (by unfold big; simp; omega) fun q22 hq22 => ?_
    refine Run.ghost _ rfl (ghost_sl 0 22 rfl rfl hq22 (l := l.take g) (f := u32S) (by simp) rfl flat_u32 (by unfold big; simp; omega)) ?_
    refine Run.one (ok_assign rfl rfl) rfl rfl rfl ?_
    refine Run.nil ?_
    refine T_ret ?_
    exact ⟨_, [], .one (.tmp rfl), List.nil_sublist _, congrArg natS (fin (.inl (by omega))), rfl⟩
theorem rlimb_spec {l : List Nat} {i : Nat} (hl : Lim l) : PSpec Tryz.prog G 103 [natS l, intS .i64 i] (intS .u64 (limb l i)) := by
  refine fn_spec Tryz.func103 rfl rfl rfl ?_
  refine T_regionS ?_
  refine Run.one (ok_assign rfl rfl) rfl rfl rfl ?_
  refine Run.nil ?_
  refine T_seq ?_
  refine T_regionS ?_
  refine Run.one (ok_move rfl rfl) rfl rfl rfl ?_
  refine Run.one (ok_move rfl rfl) rfl rfl rfl ?_
  refine Run.one (ok_len rfl rfl) rfl rfl rfl ?_
  refine Run.one (ok_cmp rfl rfl rfl rfl) rfl rfl rfl ?_
  refine Run.nil ?_
  refine T_cond rfl rfl (fun h8 => ?_) (fun h8 => ?_)
  · have k8 := of_decide_eq_true h8
    refine T_regionS ?_
    refine Run.one (ok_assign rfl rfl) rfl rfl rfl ?_
    refine Run.nil ?_
    refine T_ret ?_
    exact ⟨_, [], .one (.tmp rfl), List.nil_sublist _, by rw [limb_out (by omega)]; rfl, rfl⟩
  · have k8 := of_decide_eq_false h8
    refine T_skip ?_
    refine T_regionS ?_
    have hlt := limb_lt hl i
    refine Run.one (ok_move rfl rfl) rfl rfl rfl ?_
    refine Run.one (ok_move rfl rfl) rfl rfl rfl ?_
    refine Run.one (ok_indexAddr rfl rfl rfl (by omega) (y := limb l i) (limb_get (by omega))) rfl rfl rfl ?_
    refine Run.one (ok_load rfl rfl) rfl rfl rfl ?_
    refine Run.one (ok_conv rfl rfl (wrap_u64 (by omega) (by omega))) rfl rfl rfl ?_
    refine Run.one (ok_assign rfl rfl) rfl rfl rfl ?_
    refine Run.nil ?_
    refine T_ret ?_
    exact ⟨_, [], .one (.tmp rfl), List.nil_sublist _, rfl, rfl⟩
theorem rcmp_spec {a b : List Nat} {m n : Nat} [hm : IsNat a m] [hn : IsNat b n] : PSpec Tryz.prog G 87 [natS a, natS b] (intS .i64 (tri m n)) := by
  refine fn_spec Tryz.func87 rfl rfl rfl ?_
  refine T_len 0 rfl fun ha => T_len 1 rfl fun hb => ?_
  unfold big at ha hb
  refine T_regionS ?_
  refine Run.one (ok_assign rfl rfl) rfl rfl rfl ?_
  refine Run.nil ?_
  refine T_seq ?_
  refine T_regionS ?_
  refine Run.one (ok_move rfl rfl) rfl rfl rfl ?_
  refine Run.one (ok_len rfl rfl) rfl rfl rfl ?_
  refine Run.one (ok_move rfl rfl) rfl rfl rfl ?_
  refine Run.one (ok_len rfl rfl) rfl rfl rfl ?_
  refine Run.one (ok_max rfl rfl rfl) rfl rfl rfl ?_
  refine Run.one (ok_ari (z := ((max a.length b.length : Nat) : Int) - 1) rfl rfl rfl (congrArg some (by omega)) (wrap_i64 (by omega) (by omega))) rfl rfl rfl ?_
  refine Run.one (ok_assign rfl rfl) rfl rfl rfl ?_
  refine Run.nil ?_
  refine T_block ?_
  refine T_loop (γ := Nat) (fun g => ⟨_, [(5, intS .i64 ((g : Int) - 1)), (4, intS .i64 0), (0, natS a), (1, natS b)], [], [], (0, false)⟩) (fun g => g ≤ max a.length b.length ∧ ∀ j, g ≤ j → j < max a.length b.length → limb a j = limb b j) (fun g => g) (max a.length b.length) ⟨Nat.le_refl _, fun j h1 h2 => by omega⟩ (ent_g (subG_cons rfl (subG_cons rfl (subG_cons rfl (subG_cons rfl trivial))))) ?_
  rintro g ⟨hg, hz⟩
  refine T_seq ?_
  refine T_regionS ?_
  refine Run.one (ok_move rfl rfl) rfl rfl rfl ?_
  refine Run.one (ok_cmp rfl rfl rfl rfl) rfl rfl rfl ?_
  refine Run.nil ?_
  refine T_cond rfl rfl (fun h13 => ?_) (fun h13 => ?_)
  · have k13 := of_decide_eq_true h13
    refine T_skip ?_
    refine T_seq ?_
    refine T_block ?_
    refine T_seq ?_
    refine T_regionS ?_
    refine Run.one (ok_move rfl rfl) rfl rfl rfl ?_
    refine Run.one ((ok_move rfl rfl).sub (int_eq (show (g : Int) - 1 = ((g - 1 : Nat) : Int) by omega))) rfl rfl rfl ?_
    refine Run.one (ok_call rfl rfl (rlimb_spec hm.lim)) rfl rfl rfl ?_
    refine Run.one (ok_move rfl rfl) rfl rfl rfl ?_
    refine Run.one ((ok_move rfl rfl).sub (int_eq (show (g : Int) - 1 = ((g - 1 : Nat) : Int) by omega))) rfl rfl rfl ?_
    refine Run.one (ok_call rfl rfl (rlimb_spec hn.lim)) rfl rfl rfl ?_
    refine Run.one (ok_cmp rfl rfl rfl rfl) rfl rfl rfl ?_
    refine Run.nil ?_
    refine T_cond rfl rfl (fun h22 => ?_) (fun h22 => ?_)
    · have k22 := of_decide_eq_true h22
      refine T_regionS ?_
      refine Run.one (ok_assign rfl rfl) rfl rfl rfl ?_
      refine Run.nil ?_
      refine T_ret ?_
      exact ⟨_, [], .one (.tmp rfl), List.nil_sublist _, by
        have := cmp_at hm.lim (i := g - 1) (n := max a.length b.length) (by omega) (by omega) (by omega) (fun j h1 h2 => hz j (by omega) h2) (by omega)
        rw [hm.val, hn.val] at this
        unfold tri; rw [if_pos this], rfl⟩
    · have k22 := of_decide_eq_false h22
      refine T_skip ?_
      refine T_regionS ?_
      refine Run.one (ok_move rfl rfl) rfl rfl rfl ?_
      refine Run.one ((ok_move rfl rfl).sub (int_eq (show (g : Int) - 1 = ((g - 1 : Nat) : Int) by omega))) rfl rfl rfl ?_
      refine Run.one (ok_call rfl rfl (rlimb_spec hm.lim)) rfl rfl rfl ?_
      refine Run.one (ok_move rfl rfl) rfl rfl rfl ?_
      refine Run.one ((ok_move rfl rfl).sub (int_eq (show (g : Int) - 1 = ((g - 1 : Nat) : Int) by omega))) rfl rfl rfl ?_
      refine Run.one (ok_call rfl rfl (rlimb_spec hn.lim)) rfl rfl rfl ?_
      refine Run.one (ok_cmp rfl rfl rfl rfl) rfl rfl rfl ?_
      refine Run.nil ?_
      refine T_cond rfl rfl (fun h29 => ?_) (fun h29 => ?_)
      · have k29 := of_decide_eq_true h29
        refine T_regionS ?_
        refine Run.one (ok_assign rfl rfl) rfl rfl rfl ?_
        refine Run.nil ?_
        refine T_ret ?_
        exact ⟨_, [], .one (.tmp rfl), List.nil_sublist _, by
          have := cmp_at hn.lim (a := b) (b := a) (i := g - 1) (n := max a.length b.length) (by omega) (by omega) (by omega) (fun j h1 h2 => (hz j (by omega) h2).symm) (by omega)
          rw [hm.val, hn.val] at this
          unfold tri; rw [if_neg (by omega), if_pos this], rfl⟩
      · have k29 := of_decide_eq_false h29
        refine T_skip ?_
        refine T_region ?_
        refine Run.one (ok_move rfl rfl) rfl rfl rfl ?_
        refine Run.one (ok_ari rfl rfl rfl rfl (wrap_i64 (by omega) (by omega))) rfl rfl rfl ?_
        refine Run.one (ok_assign rfl rfl) rfl rfl rfl ?_
        refine Run.nil ?_
        exact ⟨g - 1, ⟨by omega, fun j h1 h2 => by by_cases h : g ≤ j; exact hz j h h2; rw [show j = g - 1 by omega]; omega⟩, by omega, ent_g (subG_as rfl (congrArg (intS .i64) (by omega)) (subG_cons rfl (subG_cons rfl (subG_cons rfl trivial))))⟩
  · have k13 := of_decide_eq_false h13
    refine T_exit ?_
    refine T_regionS ?_
    refine Run.one (ok_assign rfl rfl) rfl rfl rfl ?_
    refine Run.nil ?_
    refine T_ret ?_
    exact ⟨_, [], .one (.tmp rfl), List.nil_sublist _, by
      have := val_eq_of (a := a) (b := b) (n := max a.length b.length) (by omega) (by omega) (fun j h => hz j (by omega) h)
      rw [hm.val, hn.val] at this
      unfold tri; rw [if_neg (by omega), if_neg (by omega)], rfl⟩
theorem rof_spec {n : Nat} (h : n < 18446744073709551616) : PSpec Tryz.prog G 53 [intS .u64 n] (natS (dig n)) := by
  refine fn_spec Tryz.func53 rfl rfl rfl ?_
  refine T_regionS ?_
  refine Run.one (ok_assign rfl rfl) rfl rfl rfl ?_
  refine Run.nil ?_
  refine T_regionS ?_
  refine Run.one (ok_move rfl rfl) rfl rfl rfl ?_
  refine Run.one (ok_conv (z := ((n % 4294967296 : Nat) : Int)) rfl rfl wrap_u32_mod) rfl rfl rfl ?_
  refine Run.one (ok_move rfl rfl) rfl rfl rfl ?_
  refine Run.one (ok_shr rfl rfl rfl (by omega) (by simp [IntKind.bits])) rfl rfl rfl ?_
  refine Run.one (ok_conv (z := ((n / 4294967296 : Nat) : Int)) rfl rfl ((wrap_u32 (by simp; omega) (by simp; omega)).trans (by simp))) rfl rfl rfl ?_
  refine Run.one (ok_buildNat [n % 4294967296, n / 4294967296] rfl rfl (by decide) rfl (by simp) rfl rfl rfl) rfl rfl rfl ?_
  have : IsNat [n % 4294967296, n / 4294967296] n := ⟨lim_cons (by omega) (lim_cons (by omega) lim_nil), by simp [val]; omega⟩
  refine Run.one (ok_call rfl rfl (rtrim_spec (by simp [cap]))) rfl rfl rfl ?_
  refine Run.one (ok_assign rfl rfl) rfl rfl rfl ?_
  refine Run.nil ?_
  refine T_ret ?_
  exact ⟨_, [], .one (.tmp rfl), List.nil_sublist _, rfl, rfl⟩
theorem rtwo_spec {a b : List Nat} {m n : Nat} [hm : IsNat a m] [hn : IsNat b n] (hs : a.length + b.length + 2 ≤ cap := by exact Sz.le3 (by decide)) : PSpec Tryz.prog G 101 [natS a, natS b] (natS (dig (m + n))) := by
  unfold cap at hs
  refine fn_spec Tryz.func101 rfl rfl rfl ?_
  refine T_regionS ?_
  refine Run.one (ok_assign rfl rfl) rfl rfl rfl ?_
  refine Run.nil ?_
  refine T_regionS ?_
  refine Run.ghost _ rfl (ghost_row 65 1) ?_
  refine Run.one (ok_assign rfl rfl) rfl rfl rfl ?_
  refine Run.nil ?_
  refine T_regionS ?_
  refine Run.one (ok_assign rfl rfl) rfl rfl rfl ?_
  refine Run.nil ?_
  refine T_seq ?_
  refine T_regionS ?_
  refine Run.one (ok_assign rfl rfl) rfl rfl rfl ?_
  refine Run.nil ?_
  refine T_block ?_
  refine T_loop4 (fun k q over out => ⟨_, [(7, intS .i64 (k : Nat)), (6, intS .u64 (over : Nat)), (5, eqS (rowV q k)), (0, natS a), (1, natS b)], [rowE q 65 1 k (out.flatMap u32S)], [], (0, false)⟩)
      (fun k q over out => k ≤ max a.length b.length ∧ rowOk q k ∧ over ≤ 1 ∧ Lim out ∧ out.length = k ∧ val out + 4294967296 ^ k * over = low a k + low b k) (fun k q over out => max a.length b.length - k)
      0 none 0 [] ⟨Nat.zero_le _, rfl, by omega, lim_nil, rfl, rfl⟩ (ent_h (subG_cons rfl (subG_cons rfl (subG_cons rfl (subG_cons rfl (subG_cons rfl trivial))))) rfl) ?_
  rintro k q over out ⟨hk, hq, ho, hlo, hln, hval⟩
  have hx := limb_lt hm.lim k
  have hy := limb_lt hn.lim k
  refine T_seq ?_
  refine T_regionS ?_
  refine Run.one (ok_move rfl rfl) rfl rfl rfl ?_
  refine Run.one (ok_move rfl rfl) rfl rfl rfl ?_
  refine Run.one (ok_len rfl rfl) rfl rfl rfl ?_
  refine Run.one (ok_move rfl rfl) rfl rfl rfl ?_
  refine Run.one (ok_len rfl rfl) rfl rfl rfl ?_
  refine Run.one (ok_max rfl rfl rfl) rfl rfl rfl ?_
  refine Run.one (ok_cmp rfl rfl rfl rfl) rfl rfl rfl ?_
  refine Run.nil ?_
  refine T_cond rfl rfl (fun h15 => ?_) (fun h15 => ?_)
  · have k15 := of_decide_eq_true h15
    refine T_skip ?_
    refine T_seq ?_
    refine T_block ?_
    refine T_regionS ?_
    refine Run.one (ok_move rfl rfl) rfl rfl rfl ?_
    refine Run.one (ok_move rfl rfl) rfl rfl rfl ?_
    refine Run.one (ok_call rfl rfl (rlimb_spec hm.lim)) rfl rfl rfl ?_
    refine Run.one (ok_move rfl rfl) rfl rfl rfl ?_
    refine Run.one (ok_move rfl rfl) rfl rfl rfl ?_
    refine Run.one (ok_call rfl rfl (rlimb_spec hn.lim)) rfl rfl rfl ?_
    refine Run.one (ok_ari rfl rfl rfl rfl (wrap_u64 (by omega) (by omega))) rfl rfl rfl ?_
    refine Run.one (ok_move rfl rfl) rfl rfl rfl ?_
    refine Run.one (ok_ari (z := ((over + (limb a k + limb b k) : Nat) : Int)) rfl rfl rfl (congrArg some (by omega)) (wrap_u64 (by omega) (by omega))) rfl rfl rfl ?_
    refine Run.one (ok_assign rfl rfl) rfl rfl rfl ?_
    refine Run.nil ?_
    refine T_regionS ?_
    refine Run.one (ok_move rfl rfl) rfl rfl rfl ?_
    refine Run.one (ok_move rfl rfl) rfl rfl rfl ?_
    refine Run.one (ok_conv (z := (((over + (limb a k + limb b k)) % 4294967296 : Nat) : Int)) rfl rfl wrap_u32_mod) rfl rfl rfl ?_
    refine Run.one (ok_buildNat [(over + (limb a k + limb b k)) % 4294967296] rfl rfl (by decide) rfl (by simp) rfl rfl rfl) rfl rfl rfl ?_
    refine Run.append 0 rfl rfl rfl rfl rfl rfl rfl rfl hq (by rw [flat_u32_length, hln]) flat_u32 (by unfold big; simp; omega) (by unfold big; simp; omega) fun q31 hq31 => ?_
    refine Run.one (ok_assign rfl rfl) rfl rfl rfl ?_
    refine Run.nil ?_
    refine T_region ?_
    refine Run.one (ok_move rfl rfl) rfl rfl rfl ?_
    refine Run.one ((ok_shr rfl rfl rfl (by omega) (by simp [IntKind.bits])).sub (int_eq (shr32 _))) rfl rfl rfl ?_
    refine Run.one (ok_assign rfl rfl) rfl rfl rfl ?_
    refine Run.nil ?_
    refine T_region ?_
    refine Run.one (ok_move rfl rfl) rfl rfl rfl ?_
    refine Run.one (ok_ari rfl rfl rfl rfl (wrap_i64 (by omega) (by omega))) rfl rfl rfl ?_
    refine Run.one (ok_assign rfl rfl) rfl rfl rfl ?_
    refine Run.nil ?_
    refine ⟨k + 1, q31, (over + (limb a k + limb b k)) / 4294967296, out ++ [(over + (limb a k + limb b k)) % 4294967296], ⟨by omega, hq31, by omega, lim_snoc hlo (by omega), by simp [hln], ?_⟩, by omega, ent_h (subG_cons rfl (subG_cons rfl (subG_cons rfl (subG_cons rfl (subG_cons rfl trivial))))) (by rw [List.flatMap_append]; rfl)⟩
    rw [val_snoc, hln, low_succ, low_succ, pow_split]; exact carry_step hval rfl rfl rfl
  · have k15 := of_decide_eq_false h15
    have e1 : k = max a.length b.length := by omega
    rw [low_all (by omega), low_all (by omega), hm.val, hn.val] at hval
    refine T_exit ?_
    refine T_regionS ?_
    refine Run.one (ok_move rfl rfl) rfl rfl rfl ?_
    refine Run.one (ok_move rfl rfl) rfl rfl rfl ?_
    refine Run.one (ok_conv rfl rfl (wrap_u32 (by omega) (by omega))) rfl rfl rfl ?_
    refine Run.one (ok_buildNat [over] rfl rfl (by decide) rfl (by simp) rfl rfl rfl) rfl rfl rfl ?_
    refine Run.append 0 rfl rfl rfl rfl rfl rfl rfl rfl hq (by rw [flat_u32_length, hln]) flat_u32 (by unfold big; simp; omega) (by unfold big; simp; omega) fun q38 hq38 => ?_
    refine Run.ghost _ rfl (ghost_sl 0 38 rfl rfl hq38 (l := out ++ [over]) (f := u32S) (by simp [hln]) List.flatMap_append.symm flat_u32 (by unfold big; simp; omega)) ?_
    have : IsNat (out ++ [over]) (m + n) := ⟨lim_snoc hlo (by omega), by rw [val_snoc, hln]; omega⟩
    refine Run.one (ok_call rfl rfl (rtrim_spec (by unfold cap; simp; omega))) rfl rfl rfl ?_
    refine Run.one (ok_assign rfl rfl) rfl rfl rfl ?_
    refine Run.nil ?_
    refine T_ret ?_
    exact ⟨_, [], .one (.tmp rfl), List.nil_sublist _, rfl, rfl⟩
theorem radd_spec {ll : List (List Nat)} (hl : ∀ l ∈ ll, Lim l) (hs : (ll.map List.length).sum + ll.length + 2 ≤ cap) : PSpec Tryz.prog G 84 [slS 1 id (chunkN ll)] (natS (dig (ll.map val).sum)) := by
  unfold cap at hs
  have hcl : (chunkN ll).length = ll.length := by simp [chunkN]
  refine fn_spec Tryz.func84 rfl rfl rfl ?_
  refine T_regionS ?_
  refine Run.one (ok_assign rfl rfl) rfl rfl rfl ?_
  refine Run.nil ?_
  refine T_regionS ?_
  refine Run.one (ok_assign rfl rfl) rfl rfl rfl ?_
  refine Run.nil ?_
  refine T_seq ?_
  refine T_regionS ?_
  refine Run.one (ok_assign rfl rfl) rfl rfl rfl ?_
  refine Run.nil ?_
  refine T_block ?_
  refine T_loop2 (fun g s => ⟨_, [(4, intS .i64 (g : Nat)), (3, natS s), (0, slS 1 id (chunkN ll))], [], [], (0, false)⟩)
      (fun g s => g ≤ ll.length ∧ Lim s ∧ val s = ((ll.take g).map val).sum ∧ s.length ≤ ((ll.take g).map List.length).sum + g) (fun g s => ll.length - g) 0 [] ⟨Nat.zero_le _, lim_nil, rfl, Nat.le_refl _⟩
      (ent_g (subG_cons rfl ⟨⟨_, rfl, nil_nat rfl⟩, subG_cons rfl trivial⟩)) ?_
  rintro g s ⟨hg, hls, hvs, hns⟩
  refine T_seq ?_
  refine T_regionS ?_
  refine Run.one (ok_move rfl rfl) rfl rfl rfl ?_
  refine Run.one (ok_move rfl rfl) rfl rfl rfl ?_
  refine Run.one (ok_len rfl rfl) rfl rfl rfl ?_
  refine Run.one (ok_cmp rfl rfl rfl rfl) rfl rfl rfl ?_
  refine Run.nil ?_
  refine T_cond rfl rfl (fun h8 => ?_) (fun h8 => ?_)
  · have k8 := of_decide_eq_true h8
    obtain ⟨a, ha⟩ : ∃ a, ll[g]? = some a := ⟨_, List.getElem?_eq_getElem (by omega)⟩
    have hla := hl a (List.mem_of_getElem? ha)
    have hsl := sum_take List.length ha
    have hsv := sum_take val ha
    have hle := sum_take_le List.length ll (g + 1)
    haveI := isNat_of hls
    haveI := isNat_of hla
    have hdl : (dig (val s + val a)).length ≤ s.length + a.length + 1 := dig_length_le (Bd.of_val (isNat_dig (n := val s + val a)) ⟨dig_length_le (bd_sum (val_lt hls) (val_lt hla))⟩).h
    refine T_skip ?_
    refine T_seq ?_
    refine T_block ?_
    refine T_region ?_
    refine Run.one (ok_move rfl rfl) rfl rfl rfl ?_
    refine Run.one (ok_move rfl rfl) rfl rfl rfl ?_
    refine Run.one (ok_move rfl rfl) rfl rfl rfl ?_
    refine Run.one (ok_indexAddr rfl rfl rfl (by omega) (y := [natS a]) (by show (chunkN ll)[g]? = _; simp [chunkN, ha])) rfl rfl rfl ?_
    refine Run.one (ok_load rfl rfl) rfl rfl rfl ?_
    refine Run.one (ok_call rfl rfl (rtwo_spec (by unfold cap; omega))) rfl rfl rfl ?_
    refine Run.one (ok_assign rfl rfl) rfl rfl rfl ?_
    refine Run.nil ?_
    refine T_region ?_
    refine Run.one (ok_move rfl rfl) rfl rfl rfl ?_
    refine Run.one (ok_ari rfl rfl rfl rfl (wrap_i64 (by omega) (by omega))) rfl rfl rfl ?_
    refine Run.one (ok_assign rfl rfl) rfl rfl rfl ?_
    refine Run.nil ?_
    exact ⟨g + 1, _, ⟨by omega, lim_dig _, by rw [val_dig]; omega, by omega⟩, by omega, ent_g (subG_cons rfl (subG_cons rfl (subG_cons rfl trivial)))⟩
  · have k8 := of_decide_eq_false h8
    have hgl : g = ll.length := by omega
    subst hgl
    rw [List.take_length] at hvs hns
    haveI := isNat_of hls
    refine T_exit ?_
    refine T_regionS ?_
    refine Run.one (ok_move rfl rfl) rfl rfl rfl ?_
    refine Run.one (ok_call rfl rfl (rtrim_spec (by unfold cap; omega))) rfl rfl rfl ?_
    refine Run.one (ok_assign rfl rfl) rfl rfl rfl ?_
    refine Run.nil ?_
    refine T_ret ?_
    exact ⟨_, [], .one (.tmp rfl), List.nil_sublist _, congrArg natS (congrArg dig hvs), rfl⟩
theorem radd2_spec {a b : List Nat} {m n k l : Nat} [ha : IsNat a m] [hb : IsNat b n] [hk : Sz a k] [hl : Sz b l] (h : k + l + 4 ≤ cap := by decide) : PSpec Tryz.prog G 84 [slS 1 id [[natS a], [natS b]]] (natS (dig (m + n))) := by
  have := radd_spec (G := G) (ll := [a, b]) (fun l h => by simp at h; rcases h with rfl | rfl; exact ha.lim; exact hb.lim) (by have := hk.h; have := hl.h; simp; omega)
  simp only [List.map_cons, List.map_nil, List.sum_cons, List.sum_nil, ha.val, hb.val, Nat.add_zero] at this
  exact this
theorem rsub_spec {a b : List Nat} {m n : Nat} [hm : IsNat a m] [hn : IsNat b n] (hs : a.length ≤ cap := by exact Sz.le (by decide)) : PSpec Tryz.prog G 88 [natS a, natS b] (tupS [natS (dig (m - n)), intS .i64 (if m < n then 10 else 0)]) := by
  unfold cap at hs
  refine fn_spec Tryz.func88 rfl rfl rfl ?_
  refine T_regionS ?_
  refine Run.one (ok_assign rfl rfl) rfl rfl rfl ?_
  refine Run.one (ok_assign rfl rfl) rfl rfl rfl ?_
  refine Run.nil ?_
  refine T_seq ?_
  refine T_regionS ?_
  refine Run.one (ok_move rfl rfl) rfl rfl rfl ?_
  refine Run.one (ok_move rfl rfl) rfl rfl rfl ?_
  refine Run.one (ok_call rfl rfl rcmp_spec) rfl rfl rfl ?_
  refine Run.one (ok_cmp rfl rfl rfl rfl) rfl rfl rfl ?_
  refine Run.nil ?_
  refine T_cond rfl rfl (fun h13 => ?_) (fun h13 => ?_)
  · have k13 := of_decide_eq_true h13
    have hlt : m < n := by unfold tri at k13; split at k13; assumption; split at k13 <;> omega
    refine T_regionS ?_
    refine Run.one ((ok_assign rfl rfl).sub (nil_nat (l := dig (m - n)) (dig_eq_nil.2 (by omega)))) rfl rfl rfl ?_
    refine Run.one (ok_assign rfl rfl) rfl rfl rfl ?_
    refine Run.nil ?_
    refine T_ret ?_
    exact ⟨_, [], .many (.cons (.tmp rfl) (.cons (.tmp rfl) (.nil))), List.nil_sublist _, by rw [if_pos hlt], rfl⟩
  · have k13 := of_decide_eq_false h13
    have hge : n ≤ m := by unfold tri at k13; split at k13 <;> omega
    refine T_skip ?_
    refine T_regionS ?_
    refine Run.ghost _ rfl (ghost_row 65 1) ?_
    refine Run.one (ok_assign rfl rfl) rfl rfl rfl ?_
    refine Run.nil ?_
    refine T_regionS ?_
    refine Run.one (ok_assign rfl rfl) rfl rfl rfl ?_
    refine Run.nil ?_
    refine T_seq ?_
    refine T_regionS ?_
    refine Run.one (ok_assign rfl rfl) rfl rfl rfl ?_
    refine Run.nil ?_
    refine T_block ?_
    refine T_loop4 (fun k q under out => ⟨_, [(8, intS .i64 (k : Nat)), (7, intS .u64 (under : Nat)), (6, eqS (rowV q k)), (0, natS a), (1, natS b)], [rowE q 65 1 k (out.flatMap u32S)], [], (0, false)⟩)
        (fun k q under out => k ≤ a.length ∧ rowOk q k ∧ under ≤ 1 ∧ Lim out ∧ out.length = k ∧ low a k + 4294967296 ^ k * under = val out + low b k) (fun k q under out => a.length - k)
        0 none 0 [] ⟨Nat.zero_le _, rfl, by omega, lim_nil, rfl, rfl⟩ (ent_h (subG_cons rfl (subG_cons rfl (subG_cons rfl (subG_cons rfl (subG_cons rfl trivial))))) rfl) ?_
    rintro k q under out ⟨hk, hq, ho, hlo, hln, hval⟩
    have hx := limb_lt hm.lim k
    have hy := limb_lt hn.lim k
    refine T_seq ?_
    refine T_regionS ?_
    refine Run.one (ok_move rfl rfl) rfl rfl rfl ?_
    refine Run.one (ok_move rfl rfl) rfl rfl rfl ?_
    refine Run.one (ok_len rfl rfl) rfl rfl rfl ?_
    refine Run.one (ok_cmp rfl rfl rfl rfl) rfl rfl rfl ?_
    refine Run.nil ?_
    refine T_cond rfl rfl (fun h17 => ?_) (fun h17 => ?_)
    · have k17 := of_decide_eq_true h17
      refine T_skip ?_
      refine T_seq ?_
      refine T_block ?_
      refine T_regionS ?_
      refine Run.one (ok_move rfl rfl) rfl rfl rfl ?_
      refine Run.one (ok_move rfl rfl) rfl rfl rfl ?_
      refine Run.one (ok_call rfl rfl (rlimb_spec hm.lim)) rfl rfl rfl ?_
      refine Run.one (ok_ari rfl rfl rfl rfl (wrap_u64 (by omega) (by omega))) rfl rfl rfl ?_
      refine Run.one (ok_move rfl rfl) rfl rfl rfl ?_
      refine Run.one (ok_move rfl rfl) rfl rfl rfl ?_
      refine Run.one (ok_call rfl rfl (rlimb_spec hn.lim)) rfl rfl rfl ?_
      refine Run.one (ok_ari rfl rfl rfl rfl (wrap_u64 (by omega) (by omega))) rfl rfl rfl ?_
      refine Run.one (ok_move rfl rfl) rfl rfl rfl ?_
      refine Run.one (ok_ari (z := ((limb a k + 4294967296 - limb b k - under : Nat) : Int)) rfl rfl rfl (congrArg some (by omega)) (wrap_u64 (by omega) (by omega))) rfl rfl rfl ?_
      refine Run.one (ok_assign rfl rfl) rfl rfl rfl ?_
      refine Run.nil ?_
      refine T_regionS ?_
      refine Run.one (ok_move rfl rfl) rfl rfl rfl ?_
      refine Run.one (ok_move rfl rfl) rfl rfl rfl ?_
      refine Run.one (ok_conv (z := (((limb a k + 4294967296 - limb b k - under) % 4294967296 : Nat) : Int)) rfl rfl wrap_u32_mod) rfl rfl rfl ?_
      refine Run.one (ok_buildNat [(limb a k + 4294967296 - limb b k - under) % 4294967296] rfl rfl (by decide) rfl (by simp) rfl rfl rfl) rfl rfl rfl ?_
      refine Run.append 0 rfl rfl rfl rfl rfl rfl rfl rfl hq (by rw [flat_u32_length, hln]) flat_u32 (by unfold big; simp; omega) (by unfold big; simp; omega) fun q34 hq34 => ?_
      refine Run.one (ok_assign rfl rfl) rfl rfl rfl ?_
      refine Run.nil ?_
      refine T_region ?_
      refine Run.one (ok_move rfl rfl) rfl rfl rfl ?_
      refine Run.one ((ok_shr rfl rfl rfl (by omega) (by simp [IntKind.bits])).sub (int_eq (shr32 _))) rfl rfl rfl ?_
      refine Run.one (ok_ari (z := ((1 - (limb a k + 4294967296 - limb b k - under) / 4294967296 : Nat) : Int)) rfl rfl rfl (congrArg some (by omega)) (wrap_u64 (by omega) (by omega))) rfl rfl rfl ?_
      refine Run.one (ok_assign rfl rfl) rfl rfl rfl ?_
      refine Run.nil ?_
      refine T_region ?_
      refine Run.one (ok_move rfl rfl) rfl rfl rfl ?_
      refine Run.one (ok_ari rfl rfl rfl rfl (wrap_i64 (by omega) (by omega))) rfl rfl rfl ?_
      refine Run.one (ok_assign rfl rfl) rfl rfl rfl ?_
      refine Run.nil ?_
      refine ⟨k + 1, q34, 1 - (limb a k + 4294967296 - limb b k - under) / 4294967296, out ++ [(limb a k + 4294967296 - limb b k - under) % 4294967296], ⟨by omega, hq34, by omega, lim_snoc hlo (by omega), by simp [hln], ?_⟩, by omega, ent_h (subG_cons rfl (subG_cons rfl (subG_cons rfl (subG_cons rfl (subG_cons rfl trivial))))) (by rw [List.flatMap_append]; rfl)⟩
      rw [val_snoc, hln, low_succ, low_succ, pow_split]; exact rsb_step hx hy ho hval
    · have k17 := of_decide_eq_false h17
      have e1 : k = a.length := by omega
      have hal := val_lt hm.lim
      rw [hm.val, ← e1] at hal
      rw [low_all (by omega), low_of_lt (by rw [hn.val]; omega), hm.val, hn.val] at hval
      have hv := val_lt hlo
      rw [hln] at hv
      have hu : under = 0 := by
        rcases Nat.lt_or_ge 0 under with h | h
        · have : under = 1 := by omega
          subst this; omega
        · omega
      subst hu
      have : IsNat out (m - n) := ⟨hlo, by omega⟩
      refine T_exit ?_
      refine T_regionS ?_
      refine Run.ghost _ rfl (ghost_sl 0 6 rfl rfl hq (l := out) (f := u32S) hln rfl flat_u32 (by unfold big; omega)) ?_
      refine Run.one (ok_move rfl rfl) rfl rfl rfl ?_
      refine Run.one (ok_call rfl rfl (rtrim_spec (by unfold cap; omega))) rfl rfl rfl ?_
      refine Run.one (ok_assign rfl rfl) rfl rfl rfl ?_
      refine Run.one (ok_assign rfl rfl) rfl rfl rfl ?_
      refine Run.nil ?_
      refine T_ret ?_
      exact ⟨_, [], .many (.cons (.tmp rfl) (.cons (.tmp rfl) (.nil))), List.nil_sublist _, by rw [if_neg (by omega)], rfl⟩
theorem rsmall_spec {l : List Nat} {n : Nat} [hn : IsNat l n] (hs : l.length ≤ cap := by exact Sz.le (by decide)) : PSpec Tryz.prog G 65 [natS l] (tupS [intS .u64 (if n < 18446744073709551616 then (n : Int) else 0), boolS (decide (n < 18446744073709551616))]) := by
  refine fn_spec Tryz.func65 rfl rfl rfl ?_
  refine T_regionS ?_
  refine Run.one (ok_assign rfl rfl) rfl rfl rfl ?_
  refine Run.one (ok_assign rfl rfl) rfl rfl rfl ?_
  refine Run.nil ?_
  refine T_regionS ?_
  refine Run.one (ok_move rfl rfl) rfl rfl rfl ?_
  refine Run.one (ok_call rfl rfl (rtrim_spec hs)) rfl rfl rfl ?_
  refine Run.one (ok_assign rfl rfl) rfl rfl rfl ?_
  refine Run.nil ?_
  refine T_seq ?_
  refine T_regionS ?_
  refine Run.one (ok_move rfl rfl) rfl rfl rfl ?_
  refine Run.one (ok_len rfl rfl) rfl rfl rfl ?_
  refine Run.one (ok_cmp rfl rfl rfl rfl) rfl rfl rfl ?_
  refine Run.nil ?_
  refine T_cond rfl rfl (fun h11 => ?_) (fun h11 => ?_)
  · have k11 := of_decide_eq_true h11
    have hbig : ¬ n < 18446744073709551616 := fun h => by have := dig_length_le (n := n) (k := 2) (by omega); omega
    refine T_regionS ?_
    refine Run.one (ok_assign rfl rfl) rfl rfl rfl ?_
    refine Run.one (ok_assign rfl rfl) rfl rfl rfl ?_
    refine Run.nil ?_
    refine T_ret ?_
    exact ⟨_, [], .many (.cons (.tmp rfl) (.cons (.tmp rfl) (.nil))), List.nil_sublist _, by rw [if_neg hbig, decide_eq_false hbig], rfl⟩
  · have k11 := of_decide_eq_false h11
    have hsm : n < 18446744073709551616 := by have := lt_of_dig_length (n := n) (k := 2) (by omega); omega
    refine T_skip ?_
    refine T_regionS ?_
    refine Run.one (ok_assign rfl rfl) rfl rfl rfl ?_
    refine Run.nil ?_
    refine T_seq ?_
    refine T_regionS ?_
    refine Run.one (ok_move rfl rfl) rfl rfl rfl ?_
    refine Run.one (ok_len rfl rfl) rfl rfl rfl ?_
    refine Run.one (ok_ari (z := (((dig n).length : Nat) : Int) - 1) rfl rfl rfl (congrArg some (by omega)) (wrap_i64 (by omega) (by omega))) rfl rfl rfl ?_
    refine Run.one (ok_assign rfl rfl) rfl rfl rfl ?_
    refine Run.nil ?_
    refine T_block ?_
    refine T_loop (γ := Nat) (fun g => ⟨_, [(6, intS .i64 ((g : Int) - 1)), (5, intS .u64 (val ((dig n).drop g) : Nat)), (4, natS (dig n))], [], [], (0, false)⟩) (fun g => g ≤ (dig n).length) (fun g => g) (dig n).length (Nat.le_refl _) (ent_g (subG_cons rfl (subG_as rfl (congrArg (intS .u64) (by rw [List.drop_length]; rfl)) (subG_cons rfl trivial)))) ?_
    intro g hg
    refine T_seq ?_
    refine T_regionS ?_
    refine Run.one (ok_move rfl rfl) rfl rfl rfl ?_
    refine Run.one (ok_cmp rfl rfl rfl rfl) rfl rfl rfl ?_
    refine Run.nil ?_
    refine T_cond rfl rfl (fun h16 => ?_) (fun h16 => ?_)
    · have k16 := of_decide_eq_true h16
      have hv : val ((dig n).drop g) < 4294967296 := by
        have h1 := val_lt (lim_drop (lim_dig n) g)
        rw [List.length_drop] at h1
        have : 4294967296 ^ ((dig n).length - g) ≤ 4294967296 ^ 1 := Nat.pow_le_pow_right (by omega) (by omega)
        omega
      have he : val ((dig n).drop (g - 1)) = limb (dig n) (g - 1) + 4294967296 * val ((dig n).drop g) := by
        rw [List.drop_eq_getElem_cons (show g - 1 < (dig n).length by omega), show g - 1 + 1 = g by omega]
        simp [val, limb, List.getD_eq_getElem?_getD, show g - 1 < (dig n).length by omega]
      have hl := limb_lt (lim_dig n) (g - 1)
      refine T_skip ?_
      refine T_seq ?_
      refine T_block ?_
      refine T_region ?_
      refine Run.one (ok_move rfl rfl) rfl rfl rfl ?_
      refine Run.one ((ok_shl rfl rfl rfl (by omega) (by simp [IntKind.bits])).sub (int_eq (n := ((4294967296 * val ((dig n).drop g) : Nat) : Int)) ((wrap_u64 (by simp; omega) (by simp; omega)).trans (by simp; omega)))) rfl rfl rfl ?_
      refine Run.one (ok_move rfl rfl) rfl rfl rfl ?_
      refine Run.one ((ok_move rfl rfl).sub (int_eq (show (g : Int) - 1 = ((g - 1 : Nat) : Int) by omega))) rfl rfl rfl ?_
      refine Run.one (ok_indexAddr rfl rfl rfl (by omega) (y := limb (dig n) (g - 1)) (limb_get (by omega))) rfl rfl rfl ?_
      refine Run.one (ok_load rfl rfl) rfl rfl rfl ?_
      refine Run.one (ok_conv rfl rfl (wrap_u64 (by omega) (by omega))) rfl rfl rfl ?_
      refine Run.one (ok_ari (z := ((val ((dig n).drop (g - 1)) : Nat) : Int)) rfl rfl rfl (congrArg some (by omega)) (wrap_u64 (by omega) (by omega))) rfl rfl rfl ?_
      refine Run.one (ok_assign rfl rfl) rfl rfl rfl ?_
      refine Run.nil ?_
      refine T_region ?_
      refine Run.one (ok_move rfl rfl) rfl rfl rfl ?_
      refine Run.one (ok_ari rfl rfl rfl rfl (wrap_i64 (by omega) (by omega))) rfl rfl rfl ?_
      refine Run.one (ok_assign rfl rfl) rfl rfl rfl ?_
      refine Run.nil ?_
      exact ⟨g - 1, (by omega : g - 1 ≤ (dig n).length), by omega, ent_g (subG_as rfl (congrArg (intS .i64) (by omega)) (subG_cons rfl (subG_cons rfl trivial)))⟩
    · have k16 := of_decide_eq_false h16
      have hg0 : g = 0 := by omega
      subst hg0
      refine T_exit ?_
      refine T_regionS ?_
      refine Run.one (ok_move rfl rfl) rfl rfl rfl ?_
      refine Run.one (ok_assign rfl rfl) rfl rfl rfl ?_
      refine Run.one (ok_assign rfl rfl) rfl rfl rfl ?_
      refine Run.nil ?_
      refine T_ret ?_
      exact ⟨_, [], .many (.cons (.tmp rfl) (.cons (.tmp rfl) (.nil))), List.nil_sublist _, by rw [if_pos hsm, decide_eq_true hsm, List.drop_zero, val_dig], rfl⟩
end Go.Proofs
