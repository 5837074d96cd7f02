/- Contracts of the products by limbs: straitref02.Mul, prod.plain, and small ones. -/
import Derived.Test.YtijnlobgmfmhjaaGreatDoorSnr
namespace Go.Proofs
open Go Go.Sv Num
variable {G : Imm}
def nzl (a : List Nat) (p : Nat) : List Nat := (List.range p).filter fun i => decide (limb a i ≠ 0)
theorem nzl_yes {a : List Nat} {p : Nat} (h : limb a p ≠ 0) : nzl a (p + 1) = nzl a p ++ [p] := by simp [nzl, List.range_succ, h]
theorem nzl_no {a : List Nat} {p : Nat} (h : limb a p = 0) : nzl a (p + 1) = nzl a p := by simp [nzl, List.range_succ, h]
theorem nzl_mono {a : List Nat} {p : Nat} : ∀ d, (nzl a p).length ≤ (nzl a (p + d)).length ∧ ((nzl a p).length = (nzl a (p + d)).length → low a p = low a (p + d))
  | 0 => ⟨Nat.le_refl _, fun _ => rfl⟩
  | d + 1 => by
    have ih := nzl_mono (a := a) (p := p) d
    by_cases h : limb a (p + d) = 0
    · rw [← Nat.add_assoc, nzl_no h, low_succ, h, Nat.mul_zero, Nat.add_zero]; exact ih
    · rw [← Nat.add_assoc, nzl_yes h, List.length_append, List.length_cons, List.length_nil]
      exact ⟨by omega, fun e => by omega⟩
theorem nzl_same {a : List Nat} {p q : Nat} (hq : limb a q ≠ 0 ∨ p ≤ q) (h : (nzl a p).length = (nzl a q).length) : p ≤ q ∧ low a p = low a q := by
  have hpq : p ≤ q := by
    rcases hq with hq | hq
    · rcases Nat.lt_or_ge q p with hlt | hge
      · have h1 := (nzl_mono (a := a) (p := q + 1) (p - (q + 1))).1
        rw [show q + 1 + (p - (q + 1)) = p by omega, nzl_yes hq, List.length_append, List.length_cons, List.length_nil] at h1
        omega
      · exact hge
    · exact hq
  have h1 := (nzl_mono (a := a) (p := p) (q - p)).2
  rw [show p + (q - p) = q by omega] at h1
  exact ⟨hpq, h1 h⟩
theorem nzl_get {a : List Nat} {p : Nat} (h : limb a p ≠ 0) : ∀ d, (nzl a (p + 1 + d))[(nzl a p).length]? = some p
  | 0 => by rw [Nat.add_zero, nzl_yes h]; simp
  | d + 1 => by
    have ih := nzl_get h d
    by_cases h1 : limb a (p + 1 + d) = 0
    · rw [← Nat.add_assoc, nzl_no h1]; exact ih
    · rw [← Nat.add_assoc, nzl_yes h1, List.getElem?_append_left (lt_of_get ih)]; exact ih
def limbsX (a : List Nat) : List (List SV) := (nzl a a.length).map fun i => [intS .i64 (i : Nat), intS .u64 (limb a i : Nat)]
theorem limbsX_length {a : List Nat} : (limbsX a).length = (nzl a a.length).length := by simp [limbsX]
theorem limbsX_get {a : List Nat} {p : Nat} (hp : p < a.length) (h : limb a p ≠ 0) : (limbsX a)[(nzl a p).length]? = some [intS .i64 (p : Nat), intS .u64 (limb a p : Nat)] := by
  have := nzl_get h (a.length - (p + 1))
  rw [show p + 1 + (a.length - (p + 1)) = a.length by omega] at this
  simp only [limbsX, List.getElem?_map, this, Option.map_some]
theorem limbsX_inv {a : List Nat} {k : Nat} {ss : List SV} (h : (limbsX a)[k]? = some ss) : ∃ p, p < a.length ∧ limb a p ≠ 0 ∧ (nzl a p).length = k ∧ ss = [intS .i64 (p : Nat), intS .u64 (limb a p : Nat)] := by
  simp only [limbsX, List.getElem?_map] at h
  cases hn : (nzl a a.length)[k]? with
  | none => rw [hn] at h; cases h
  | some p =>
    rw [hn] at h; cases h
    have hm := List.mem_of_getElem? hn
    simp only [nzl, List.mem_filter, List.mem_range, decide_eq_true_eq] at hm
    refine ⟨p, hm.1, hm.2, ?_, rfl⟩
    have hg := nzl_get hm.2 (a.length - (p + 1))
    rw [show p + 1 + (a.length - (p + 1)) = a.length by omega] at hg
    have hnd : (nzl a a.length).Nodup := List.nodup_range.sublist List.filter_sublist
    exact (List.getElem?_inj (lt_of_get hg) hnd).1 (hg.trans hn.symm)
theorem limbsX_ss {a : List Nat} {ss : List SV} (h : ss ∈ limbsX a) : ss.length = 2 := by
  obtain ⟨i, _, rfl⟩ := List.mem_map.1 h; rfl
theorem isNat_above {a : List Nat} {m n : Nat} [h : IsNat a m] : IsNat (List.replicate n 0 ++ a) (4294967296 ^ n * m) :=
  ⟨lim_append (lim_replicate n) h.lim, by rw [val_append, val_replicate_zero, List.length_replicate, h.val, Nat.zero_add]⟩
theorem rcount_spec {k m : Int} : PSpec Tryz.prog G 102 [intS .i64 k, intS .i64 m] (intS .i64 (min (max k 0) m)) := by
  refine fn_spec Tryz.func102 rfl rfl rfl ?_
  refine T_regionS ?_
  refine Run.one (ok_assign rfl rfl) rfl rfl rfl ?_
  refine Run.nil ?_
  refine T_regionS ?_
  refine Run.one (ok_move rfl rfl) rfl rfl rfl ?_
  refine Run.one (ok_max rfl rfl rfl) rfl rfl rfl ?_
  refine Run.one (ok_move rfl rfl) rfl rfl rfl ?_
  refine Run.one (ok_min rfl rfl rfl) rfl rfl rfl ?_
  refine Run.one (ok_assign rfl rfl) rfl rfl rfl ?_
  refine Run.nil ?_
  refine T_ret ?_
  exact ⟨_, [], .one (.tmp rfl), List.nil_sublist _, rfl, rfl⟩
theorem count_spec {k m : Int} : PSpec Tryz.prog G 132 [intS .i64 k, intS .i64 m] (intS .i64 (max (min k m) 0)) := by
  refine fn_spec Tryz.func132 rfl rfl rfl ?_
  refine T_regionS ?_
  refine Run.one (ok_assign rfl rfl) rfl rfl rfl ?_
  refine Run.nil ?_
  refine T_regionS ?_
  refine Run.one (ok_move rfl rfl) rfl rfl rfl ?_
  refine Run.one (ok_move rfl rfl) rfl rfl rfl ?_
  refine Run.one (ok_min rfl rfl rfl) rfl rfl rfl ?_
  refine Run.one (ok_max rfl rfl rfl) rfl rfl rfl ?_
  refine Run.one (ok_assign rfl rfl) rfl rfl rfl ?_
  refine Run.nil ?_
  refine T_ret ?_
  exact ⟨_, [], .one (.tmp rfl), List.nil_sublist _, rfl, rfl⟩
theorem rmul_spec {a b : List Nat} {m n : Nat} [hm : IsNat a m] [hn : IsNat b n] (hs : a.length + b.length + 2 ≤ cap := by exact Sz.le3 (by decide)) : PSpec Tryz.prog G 48 [natS a, natS b] (natS (dig (m * n))) := by
  have hs0 := hs
  unfold cap at hs
  refine fn_spec Tryz.func48 rfl rfl rfl ?_
  refine T_regionS ?_
  refine Run.one (ok_assign rfl rfl) rfl rfl rfl ?_
  refine Run.nil ?_
  refine T_regionS ?_
  refine Run.one (ok_move rfl rfl) rfl rfl rfl ?_
  refine Run.one (ok_len rfl rfl) rfl rfl rfl ?_
  refine Run.one (ok_move rfl rfl) rfl rfl rfl ?_
  refine Run.one (ok_len rfl rfl) rfl rfl rfl ?_
  refine Run.one (ok_ari rfl rfl rfl rfl (wrap_i64 (by omega) (by omega))) rfl rfl rfl ?_
  refine Run.makeNat (n := a.length + b.length) (c := a.length + b.length) rfl rfl rfl rfl rfl rfl rfl (Nat.le_refl _) (by omega) (by omega) fun b15 hb15 => ?_
  refine Run.one (ok_assign rfl rfl) rfl rfl rfl ?_
  refine Run.nil ?_
  refine T_seq ?_
  refine T_regionS ?_
  refine Run.one (ok_assign rfl rfl) rfl rfl rfl ?_
  refine Run.nil ?_
  refine T_block ?_
  refine T_loop2 (fun i out => ⟨_, [(6, intS .i64 (i : Nat)), (5, eqS (rowV (some (b15, a.length + b.length)) (a.length + b.length))), (0, natS a), (1, natS b)], [rowE (some (b15, a.length + b.length)) 65 1 (a.length + b.length) (out.flatMap u32S)], [], (0, false)⟩)
      (fun i out => i ≤ a.length ∧ Lim out ∧ out.length = a.length + b.length ∧ val out = low a i * n ∧ ∀ j, i + b.length ≤ j → limb out j = 0) (fun i out => a.length - i)
      0 (List.replicate (a.length + b.length) 0) ⟨Nat.zero_le _, lim_replicate _, List.length_replicate, by rw [val_replicate_zero, low_zero, Nat.zero_mul], fun j _ => limb_replicate _ j⟩ (ent_h (subG_cons rfl (subG_cons rfl (subG_cons rfl (subG_cons rfl trivial)))) rfl) ?_
  rintro i out ⟨hi, hlo, hln, hval, hz⟩
  refine T_seq ?_
  refine T_regionS ?_
  refine Run.one (ok_move rfl rfl) rfl rfl rfl ?_
  refine Run.one (ok_move rfl rfl) rfl rfl rfl ?_
  refine Run.one (ok_len rfl rfl) rfl rfl rfl ?_
  refine Run.one (ok_cmp rfl rfl rfl rfl) rfl rfl rfl ?_
  refine Run.nil ?_
  refine T_cond rfl rfl (fun h19 => ?_) (fun h19 => ?_)
  · have k19 := of_decide_eq_true h19
    have hx := limb_lt hm.lim i
    refine T_skip ?_
    refine T_seq ?_
    refine T_block ?_
    refine T_regionS ?_
    refine Run.one (ok_assign rfl rfl) rfl rfl rfl ?_
    refine Run.nil ?_
    refine T_seq ?_
    refine T_regionS ?_
    refine Run.one (ok_assign rfl rfl) rfl rfl rfl ?_
    refine Run.nil ?_
    refine T_block ?_
    refine T_loop3 (fun k over out' => ⟨_, [(8, intS .i64 (k : Nat)), (7, intS .u64 (over : Nat)), (6, intS .i64 (i : Nat)), (5, eqS (rowV (some (b15, a.length + b.length)) (a.length + b.length))), (0, natS a), (1, natS b)], [rowE (some (b15, a.length + b.length)) 65 1 (a.length + b.length) (out'.flatMap u32S)], [], (0, false)⟩)
        (fun k over out' => k ≤ b.length ∧ over < 4294967296 ∧ Lim out' ∧ out'.length = a.length + b.length ∧ val out' + 4294967296 ^ (i + k) * over = val out + 4294967296 ^ i * (limb a i * low b k) ∧ ∀ j, i + b.length ≤ j → limb out' j = 0) (fun k over out' => b.length - k)
        0 0 out ⟨Nat.zero_le _, by omega, hlo, hln, by rw [low_zero, Nat.mul_zero, Nat.mul_zero, Nat.mul_zero], hz⟩ (ent_h (subG_cons rfl (subG_cons rfl (subG_cons rfl (subG_cons rfl (subG_cons rfl (subG_cons rfl trivial)))))) rfl) ?_
    rintro k over out' ⟨hk, hc, hlo', hln', hval', hz'⟩
    refine T_seq ?_
    refine T_regionS ?_
    refine Run.one (ok_move rfl rfl) rfl rfl rfl ?_
    refine Run.one (ok_move rfl rfl) rfl rfl rfl ?_
    refine Run.one (ok_len rfl rfl) rfl rfl rfl ?_
    refine Run.one (ok_cmp rfl rfl rfl rfl) rfl rfl rfl ?_
    refine Run.nil ?_
    refine T_cond rfl rfl (fun h25 => ?_) (fun h25 => ?_)
    · have k25 := of_decide_eq_true h25
      have hy := limb_lt hn.lim k
      have ho := limb_lt hlo' (i + k)
      have hb := mul_lt64 hx hy ho hc
      obtain ⟨w, hw⟩ : ∃ w, w = limb a i * limb b k + limb out' (i + k) + over := ⟨_, rfl⟩
      refine T_skip ?_
      refine T_seq ?_
      refine T_block ?_
      refine T_drawS 22 (by kernel_rfl) ?_
      refine Run.one (ok_move rfl rfl) rfl rfl rfl ?_
      refine Run.one (ok_move rfl rfl) rfl rfl rfl ?_
      refine Run.one (ok_indexAddr rfl rfl rfl (by omega) (y := limb a i) (limb_get (by omega))) rfl rfl rfl ?_
      refine Run.one (ok_load rfl rfl) rfl rfl rfl ?_
      refine Run.one (ok_conv rfl rfl (wrap_u64 (by omega) (by omega))) rfl rfl rfl ?_
      refine Run.one (ok_move rfl rfl) rfl rfl rfl ?_
      refine Run.one (ok_move rfl rfl) rfl rfl rfl ?_
      refine Run.one (ok_indexAddr rfl rfl rfl (by omega) (y := limb b k) (limb_get (by omega))) rfl rfl rfl ?_
      refine Run.one (ok_load rfl rfl) rfl rfl rfl ?_
      refine Run.one (ok_conv rfl rfl (wrap_u64 (by omega) (by omega))) rfl rfl rfl ?_
      refine Run.one (ok_ari (z := ((limb a i * limb b k : Nat) : Int)) rfl rfl rfl (congrArg some (by omega)) (wrap_u64 (by omega) (by omega))) rfl rfl rfl ?_
      refine Run.one (ok_move rfl rfl) rfl rfl rfl ?_
      refine Run.one (ok_move rfl rfl) rfl rfl rfl ?_
      refine Run.one (ok_move rfl rfl) rfl rfl rfl ?_
      refine Run.one (ok_ari (z := ((i + k : Nat) : Int)) rfl rfl rfl (congrArg some (by omega)) (wrap_i64 (by omega) (by omega))) rfl rfl rfl ?_
      refine Run.one (ok_indexRow (i := i + k) rfl rfl rfl (by omega)) rfl rfl rfl ?_
      refine Run.one (ok_loadRow 0 rfl rfl rfl (by omega)) rfl rfl rfl ?_
      refine Run.one (ok_conv rfl rfl (wrap_u64 (by omega) (by omega))) rfl rfl rfl ?_
      refine Run.one (ok_ari (z := ((limb a i * limb b k + limb out' (i + k) : Nat) : Int)) rfl rfl rfl (congrArg some (by omega)) (wrap_u64 (by omega) (by omega))) rfl rfl rfl ?_
      refine Run.one (ok_move rfl rfl) rfl rfl rfl ?_
      refine Run.one (ok_ari (z := ((w : Nat) : Int)) rfl rfl rfl (congrArg some (by omega)) (wrap_u64 (by omega) (by omega))) rfl rfl rfl ?_
      refine Run.one (ok_assign rfl rfl) rfl rfl rfl ?_
      refine Run.nil ?_
      refine Run.nil ?_
      refine T_regionS ?_
      refine Run.one (ok_move rfl rfl) rfl rfl rfl ?_
      refine Run.one (ok_move rfl rfl) rfl rfl rfl ?_
      refine Run.one (ok_move rfl rfl) rfl rfl rfl ?_
      refine Run.one (ok_ari (z := ((i + k : Nat) : Int)) rfl rfl rfl (congrArg some (by omega)) (wrap_i64 (by omega) (by omega))) rfl rfl rfl ?_
      refine Run.one (ok_move rfl rfl) rfl rfl rfl ?_
      refine Run.one (ok_conv (z := ((w % 4294967296 : Nat) : Int)) rfl rfl wrap_u32_mod) rfl rfl rfl ?_
      refine Run.one (ok_indexRow (i := i + k) rfl rfl rfl (by omega)) rfl rfl rfl ?_
      refine Run.storeRow 0 rfl rfl rfl rfl rfl (by omega) rfl rfl ?_
      refine Run.nil ?_
      refine T_region ?_
      refine Run.one (ok_move rfl rfl) rfl rfl rfl ?_
      refine Run.one ((ok_shr rfl rfl rfl (by omega) (by simp [IntKind.bits])).sub (int_eq (shr32 _))) rfl rfl rfl ?_
      refine Run.one (ok_assign rfl rfl) rfl rfl rfl ?_
      refine Run.nil ?_
      refine T_region ?_
      refine Run.one (ok_move rfl rfl) rfl rfl rfl ?_
      refine Run.one (ok_ari rfl rfl rfl rfl (wrap_i64 (by omega) (by omega))) rfl rfl rfl ?_
      refine Run.one (ok_assign rfl rfl) rfl rfl rfl ?_
      refine Run.nil ?_
      refine ⟨k + 1, w / 4294967296, out'.set (i + k) (w % 4294967296), ⟨by omega, by omega, lim_set hlo' (by omega), by rw [List.length_set]; exact hln', ?_, fun j hj => by rw [limb_set_ne (by omega)]; exact hz' j hj⟩, by omega, ent_h (subG_cons rfl (subG_cons rfl (subG_cons rfl (subG_cons rfl (subG_cons rfl (subG_cons rfl trivial)))))) rfl⟩
      have hs := val_set (l := out') (j := i + k) (w % 4294967296) (by omega)
      rw [show i + (k + 1) = i + k + 1 by omega, pow_split, low_succ]
      subst hw
      exact mul_step (Nat.pow_add _ _ _) hval' hs
    · have k25 := of_decide_eq_false h25
      have hkl : k = b.length := by omega
      rw [hkl, low_all (Nat.le_refl _), hn.val] at hval'
      refine T_exit ?_
      refine T_region ?_
      refine Run.one (ok_move rfl rfl) rfl rfl rfl ?_
      refine Run.one (ok_move rfl rfl) rfl rfl rfl ?_
      refine Run.one (ok_move rfl rfl) rfl rfl rfl ?_
      refine Run.one (ok_len rfl rfl) rfl rfl rfl ?_
      refine Run.one (ok_ari (z := ((i + b.length : Nat) : Int)) rfl rfl rfl (congrArg some (by omega)) (wrap_i64 (by omega) (by omega))) rfl rfl rfl ?_
      refine Run.one (ok_move rfl rfl) rfl rfl rfl ?_
      refine Run.one (ok_conv rfl rfl (wrap_u32 (by omega) (by omega))) rfl rfl rfl ?_
      refine Run.one (ok_indexRow (i := i + b.length) rfl rfl rfl (by omega)) rfl rfl rfl ?_
      refine Run.storeRow 0 rfl rfl rfl rfl rfl (by omega) rfl rfl ?_
      refine Run.nil ?_
      refine T_region ?_
      refine Run.one (ok_move rfl rfl) rfl rfl rfl ?_
      refine Run.one (ok_ari rfl rfl rfl rfl (wrap_i64 (by omega) (by omega))) rfl rfl rfl ?_
      refine Run.one (ok_assign rfl rfl) rfl rfl rfl ?_
      refine Run.nil ?_
      refine ⟨i + 1, out'.set (i + b.length) over, ⟨by omega, lim_set hlo' hc, by rw [List.length_set]; exact hln', ?_, fun j hj => by rw [limb_set_ne (by omega)]; exact hz' j (by omega)⟩, by omega, ent_h (subG_cons rfl (subG_cons rfl (subG_cons rfl (subG_cons rfl trivial)))) rfl⟩
      have hs := val_set (l := out') (j := i + b.length) over (by omega)
      rw [hz' _ (Nat.le_refl _), Nat.mul_zero] at hs
      rw [low_succ, Nat.add_mul, Nat.mul_assoc]; omega
  · have k19 := of_decide_eq_false h19
    have hia : i = a.length := by omega
    rw [hia, low_all (Nat.le_refl _), hm.val] at hval
    have : IsNat out (m * n) := ⟨hlo, hval⟩
    refine T_exit ?_
    refine T_regionS ?_
    refine Run.ghost _ rfl (ghost_sl 0 5 rfl rfl hb15 (l := out) (f := u32S) hln rfl flat_u32 (by unfold big; omega)) ?_
    refine Run.one (ok_move rfl rfl) rfl rfl rfl ?_
    refine Run.one (ok_call rfl rfl (rtrim_spec (by unfold cap; omega))) rfl rfl rfl ?_
    refine Run.one (ok_assign rfl rfl) rfl rfl rfl ?_
    refine Run.nil ?_
    refine T_ret ?_
    exact ⟨_, [], .one (.tmp rfl), List.nil_sublist _, rfl, rfl⟩
theorem limbs1_spec {a : List Nat} (ha : Lim a) : IterSpec Tryz.prog G 128 [ptrS [natS a]] (limbsX a) := by
  refine iter_spec Tryz.func128 rfl rfl rfl rfl fun l E hy => ?_
  refine T_regionS ?_
  refine Run.one (ok_load rfl rfl) rfl rfl rfl ?_
  refine Run.one (ok_len rfl rfl) rfl rfl rfl ?_
  refine Run.one (ok_move rfl rfl) rfl rfl rfl ?_
  refine Run.nil ?_
  refine T_block ?_
  refine T_len 5 rfl fun la => ?_
  unfold big at la
  refine T_loop (γ := Nat) (fun g => ⟨_, [(7, intS .i64 g), (6, intS .i64 a.length), (5, natS a), (0, yieldS l), (1, ptrS [natS a])], [], [], ((nzl a g).length, false)⟩) (fun g => g ≤ a.length) (fun g => a.length - g) 0 (Nat.zero_le _) (ent_g (subG_cons rfl (subG_cons rfl (subG_cons rfl (subG_cons rfl (subG_cons rfl trivial)))))) ?_
  intro g hg
  refine T_regionS ?_
  refine Run.one (ok_cmp rfl rfl rfl rfl) rfl rfl rfl ?_
  refine Run.nil ?_
  refine T_seq ?_
  refine T_cond rfl rfl (fun h8 => ?_) (fun h8 => ?_)
  · have k8 := of_decide_eq_true h8
    have h1 := limb_lt ha g
    refine T_skip ?_
    refine T_seq ?_
    refine T_block ?_
    refine T_regionS ?_
    refine Run.one (ok_move rfl rfl) rfl rfl rfl ?_
    refine Run.one (ok_indexAddr rfl rfl rfl (by omega) (y := limb a g) (limb_get (by omega))) rfl rfl rfl ?_
    refine Run.one (ok_load rfl rfl) rfl rfl rfl ?_
    refine Run.one (ok_assign rfl rfl) rfl rfl rfl ?_
    refine Run.one (ok_assign rfl rfl) rfl rfl rfl ?_
    refine Run.nil ?_
    refine T_regionS ?_
    refine Run.one (ok_move rfl rfl) rfl rfl rfl ?_
    refine Run.oneB (ok_cmp rfl rfl rfl rfl) rfl rfl rfl (fun h3_1 => ?_) (fun h3_1 => ?_)
    · have k3_1 := bne_iff_ne.1 h3_1
      have hnz : limb a g ≠ 0 := by omega
      refine Run.one (ok_move rfl rfl) rfl rfl rfl ?_
      refine Run.one (ok_move rfl rfl) ⟨_, _, rfl, rfl, rfl⟩ rfl rfl ?_
      refine Run.one (ok_move rfl rfl) ⟨_, _, rfl, rfl, rfl⟩ rfl rfl ?_
      refine Run.one (ok_move rfl rfl) ⟨_, _, rfl, rfl, rfl⟩ rfl rfl ?_
      refine Run.one (ok_conv rfl rfl (wrap_u64 (by omega) (by omega))) ⟨_, _, rfl, rfl, rfl⟩ rfl rfl ?_
      refine Run.yield rfl hy rfl rfl rfl (limbsX_get (by omega) hnz) (subL_refl _) ⟨_, _, rfl, rfl, rfl⟩ rfl rfl fun y => ?_
      refine Run.one (ok_not rfl rfl) ⟨_, _, rfl, rfl, rfl⟩ rfl rfl ?_
      refine Run.one (ok_pick rfl rfl rfl) rfl rfl rfl ?_
      refine Run.nil ?_
      refine T_cond rfl rfl (fun h21 => ?_) (fun h21 => ?_)
      · refine T_ret ?_
        exact ⟨.inl rfl, .inr h21⟩
      · refine T_skip ?_
        refine T_region ?_
        refine Run.one (ok_ari rfl rfl rfl rfl (wrap_i64 (by omega) (by omega))) rfl rfl rfl ?_
        refine Run.one (ok_move rfl rfl) rfl rfl rfl ?_
        refine Run.nil ?_
        exact ⟨g + 1, (by omega : g + 1 ≤ a.length), by omega, rfl, subG_cons rfl (subG_cons rfl (subG_cons rfl (subG_cons rfl (subG_cons rfl trivial)))), subH_refl _, rfl, by simp only; rw [nzl_yes hnz, h21]; simp⟩
    · have k3_1 := bne_eq_false_iff_eq.1 h3_1
      have hnz : limb a g = 0 := by omega
      refine Run.one (ok_move rfl rfl) rfl rfl rfl ?_
      refine Run.no ⟨_, _, rfl, rfl, rfl⟩ rfl rfl ?_
      refine Run.no ⟨_, _, rfl, rfl, rfl⟩ rfl rfl ?_
      refine Run.no ⟨_, _, rfl, rfl, rfl⟩ rfl rfl ?_
      refine Run.no ⟨_, _, rfl, rfl, rfl⟩ rfl rfl ?_
      refine Run.no ⟨_, _, rfl, rfl, rfl⟩ rfl rfl ?_
      refine Run.no ⟨_, _, rfl, rfl, rfl⟩ rfl rfl ?_
      refine Run.one (ok_pick rfl rfl rfl) rfl rfl rfl ?_
      refine Run.nil ?_
      refine T_condF rfl rfl ?_
      refine T_skip ?_
      refine T_region ?_
      refine Run.one (ok_ari rfl rfl rfl rfl (wrap_i64 (by omega) (by omega))) rfl rfl rfl ?_
      refine Run.one (ok_move rfl rfl) rfl rfl rfl ?_
      refine Run.nil ?_
      exact ⟨g + 1, (by omega : g + 1 ≤ a.length), by omega, rfl, subG_cons rfl (subG_cons rfl (subG_cons rfl (subG_cons rfl (subG_cons rfl trivial)))), subH_refl _, rfl, by simp only; rw [nzl_no hnz]⟩
  · have k8 := of_decide_eq_false h8
    refine T_exit ?_
    exact ⟨.inr rfl, .inl (by rw [limbsX_length, show g = a.length by omega])⟩
theorem limbs_spec {a : List Nat} : PSpec Tryz.prog G 117 [natS a] (fnS 128 [ptrS [natS a]]) := by
  refine fn_spec Tryz.func117 rfl rfl rfl ?_
  refine T_regionS ?_
  refine Run.one (ok_box rfl rfl) rfl rfl rfl ?_
  refine Run.one (ok_assign rfl rfl) rfl rfl rfl ?_
  refine Run.nil ?_
  refine T_regionS ?_
  refine Run.one (ok_makeFunc rfl rfl) rfl rfl rfl ?_
  refine Run.one (ok_assign rfl rfl) rfl rfl rfl ?_
  refine Run.nil ?_
  refine T_ret ?_
  exact ⟨_, [], .one (.tmp rfl), List.nil_sublist _, rfl, rfl⟩
theorem plain_spec {a b : List Nat} {m n : Nat} [hm : IsNat a m] [hn : IsNat b n] (hs : a.length + b.length + 2 ≤ cap := by exact Sz.le3 (by decide)) : PSpec Tryz.prog G 108 [natS a, natS b] (natS (dig (m * n))) := by
  have hs0 := hs
  unfold cap at hs
  refine fn_spec Tryz.func108 rfl rfl rfl ?_
  refine T_regionS ?_
  refine Run.one (ok_box rfl rfl) rfl rfl rfl ?_
  refine Run.one (ok_assign rfl rfl) rfl rfl rfl ?_
  refine Run.nil ?_
  refine T_regionS ?_
  refine Run.one (ok_move rfl rfl) rfl rfl rfl ?_
  refine Run.one (ok_len rfl rfl) rfl rfl rfl ?_
  refine Run.one (ok_load rfl rfl) rfl rfl rfl ?_
  refine Run.one (ok_len rfl rfl) rfl rfl rfl ?_
  refine Run.one (ok_ari rfl rfl rfl rfl (wrap_i64 (by omega) (by omega))) rfl rfl rfl ?_
  refine Run.makeNat (n := a.length + b.length) (c := a.length + b.length) rfl rfl rfl rfl rfl rfl rfl (Nat.le_refl _) (by omega) (by omega) fun b16 hb16 => ?_
  refine Run.alloc rfl rfl rfl rfl rfl fun b5 => ?_
  refine Run.store 0 rfl rfl rfl rfl rfl rfl rfl rfl rfl ?_
  refine Run.nil ?_
  refine T_seq ?_
  refine T_regionS ?_
  refine Run.one (ok_move rfl rfl) rfl rfl rfl ?_
  refine Run.one (ok_call rfl rfl limbs_spec) rfl rfl rfl ?_
  refine Run.nil ?_
  refine T_block ?_
  refine T_rng rfl rfl (limbs1_spec hm.lim) (fun ss h => limbsX_ss h) (by decide) rfl
      (fun k h i => i = (0, false) ∧ ∃ p out, (nzl a p).length = k ∧ p ≤ a.length ∧ Lim out ∧ out.length = a.length + b.length ∧ val out = low a p * n ∧ (∀ j, p + b.length ≤ j → limb out j = 0) ∧ h = [⟨some b5, 23, [eqS (rowV (some (b16, a.length + b.length)) (a.length + b.length))], 0⟩, rowE (some (b16, a.length + b.length)) 65 1 (a.length + b.length) (out.flatMap u32S)])
      (fun _ _ _ => False) ⟨rfl, 0, List.replicate (a.length + b.length) 0, rfl, Nat.zero_le _, lim_replicate _, List.length_replicate, by rw [val_replicate_zero, low_zero, Nat.zero_mul], fun j _ => limb_replicate _ j, rfl⟩ ?_ ?_ ?_
  · rintro l kk ss h i hk ⟨rfl, p0, out, hp0, hpl, hlo, hln, hval, hz, rfl⟩
    obtain ⟨p, hp1, hp2, rfl, rfl⟩ := limbsX_inv hk
    obtain ⟨hpp, hlow⟩ := nzl_same (.inl hp2) hp0
    rw [hlow] at hval
    replace hz : ∀ j, p + b.length ≤ j → limb out j = 0 := fun j hj => hz j (by omega)
    have hx := limb_lt hm.lim p
    refine T_regionS ?_
    refine Run.one (ok_assign rfl rfl) rfl rfl rfl ?_
    refine Run.nil ?_
    refine T_region ?_
    refine Run.one (ok_assign rfl rfl) rfl rfl rfl ?_
    refine Run.nil ?_
    refine ⟨rfl, ?_⟩
    refine T_block ?_
    refine T_regionS ?_
    refine Run.one (ok_assign rfl rfl) rfl rfl rfl ?_
    refine Run.nil ?_
    refine T_seq ?_
    refine T_regionS ?_
    refine Run.one (ok_load rfl rfl) rfl rfl rfl ?_
    refine Run.one (ok_len rfl rfl) rfl rfl rfl ?_
    refine Run.one (ok_move rfl rfl) rfl rfl rfl ?_
    refine Run.nil ?_
    refine T_block ?_
    refine T_loop3 (fun k over out' => ⟨_, [(23, intS .i64 (k : Nat)), (22, intS .i64 b.length), (21, natS b), (8, intS .u64 (over : Nat)), (7, intS .u64 (limb a p : Nat)), (6, intS .i64 (p : Nat)), (5, eqS (.pointer (some ⟨b5, 0, none⟩))), (3, ptrS [natS b])], [⟨some b5, 23, [eqS (rowV (some (b16, a.length + b.length)) (a.length + b.length))], 0⟩, rowE (some (b16, a.length + b.length)) 65 1 (a.length + b.length) (out'.flatMap u32S)], [], (0, false)⟩)
        (fun k over out' => k ≤ b.length ∧ over < 4294967296 ∧ Lim out' ∧ out'.length = a.length + b.length ∧ val out' + 4294967296 ^ (p + k) * over = val out + 4294967296 ^ p * (limb a p * low b k) ∧ ∀ j, p + b.length ≤ j → limb out' j = 0) (fun k over out' => b.length - k)
        0 0 out ⟨Nat.zero_le _, by omega, hlo, hln, by rw [low_zero, Nat.mul_zero, Nat.mul_zero, Nat.mul_zero], hz⟩ (ent_h (subG_cons rfl (subG_cons rfl (subG_cons rfl (subG_cons rfl (subG_cons rfl (subG_cons rfl (subG_cons rfl (subG_cons rfl trivial)))))))) rfl) ?_
    rintro k over out' ⟨hk', hc, hlo', hln', hval', hz'⟩
    refine T_regionS ?_
    refine Run.one (ok_cmp rfl rfl rfl rfl) rfl rfl rfl ?_
    refine Run.nil ?_
    refine T_seq ?_
    refine T_cond rfl rfl (fun h24 => ?_) (fun h24 => ?_)
    · have k24 := of_decide_eq_true h24
      have hy := limb_lt hn.lim k
      have ho := limb_lt hlo' (p + k)
      have hb := mul_lt64 hx hy ho hc
      obtain ⟨w, hw⟩ : ∃ w, w = limb a p * limb b k + limb out' (p + k) + over := ⟨_, rfl⟩
      refine T_skip ?_
      refine T_seq ?_
      refine T_block ?_
      refine T_regionS ?_
      refine Run.one (ok_move rfl rfl) rfl rfl rfl ?_
      refine Run.one (ok_indexAddr rfl rfl rfl (by omega) (y := limb b k) (limb_get (by omega))) rfl rfl rfl ?_
      refine Run.one (ok_load rfl rfl) rfl rfl rfl ?_
      refine Run.one (ok_assign rfl rfl) rfl rfl rfl ?_
      refine Run.one (ok_assign rfl rfl) rfl rfl rfl ?_
      refine Run.nil ?_
      refine T_regionS ?_
      refine Run.one (ok_move rfl rfl) rfl rfl rfl ?_
      refine Run.one (ok_move rfl rfl) rfl rfl rfl ?_
      refine Run.one (ok_move rfl rfl) rfl rfl rfl ?_
      refine Run.one (ok_conv rfl rfl (wrap_u64 (by omega) (by omega))) rfl rfl rfl ?_
      refine Run.one (ok_ari (z := ((limb a p * limb b k : Nat) : Int)) rfl rfl rfl (congrArg some (by omega)) (wrap_u64 (by omega) (by omega))) rfl rfl rfl ?_
      refine Run.one (ok_load_own 0 rfl rfl rfl rfl) rfl rfl rfl ?_
      refine Run.one (ok_move rfl rfl) rfl rfl rfl ?_
      refine Run.one (ok_move rfl rfl) rfl rfl rfl ?_
      refine Run.one (ok_ari (z := ((p + k : Nat) : Int)) rfl rfl rfl (congrArg some (by omega)) (wrap_i64 (by omega) (by omega))) rfl rfl rfl ?_
      refine Run.one (ok_indexRow (i := p + k) rfl rfl rfl (by omega)) rfl rfl rfl ?_
      refine Run.one (ok_loadRow 1 rfl rfl rfl (by omega)) rfl rfl rfl ?_
      refine Run.one (ok_conv rfl rfl (wrap_u64 (by omega) (by omega))) rfl rfl rfl ?_
      refine Run.one (ok_ari (z := ((limb a p * limb b k + limb out' (p + k) : Nat) : Int)) rfl rfl rfl (congrArg some (by omega)) (wrap_u64 (by omega) (by omega))) rfl rfl rfl ?_
      refine Run.one (ok_ari (z := ((w : Nat) : Int)) rfl rfl rfl (congrArg some (by omega)) (wrap_u64 (by omega) (by omega))) rfl rfl rfl ?_
      refine Run.one (ok_assign rfl rfl) rfl rfl rfl ?_
      refine Run.nil ?_
      refine T_regionS ?_
      refine Run.one (ok_load_own 0 rfl rfl rfl rfl) rfl rfl rfl ?_
      refine Run.one (ok_move rfl rfl) rfl rfl rfl ?_
      refine Run.one (ok_move rfl rfl) rfl rfl rfl ?_
      refine Run.one (ok_ari (z := ((p + k : Nat) : Int)) rfl rfl rfl (congrArg some (by omega)) (wrap_i64 (by omega) (by omega))) rfl rfl rfl ?_
      refine Run.one (ok_move rfl rfl) rfl rfl rfl ?_
      refine Run.one (ok_conv (z := ((w % 4294967296 : Nat) : Int)) rfl rfl wrap_u32_mod) rfl rfl rfl ?_
      refine Run.one (ok_indexRow (i := p + k) rfl rfl rfl (by omega)) rfl rfl rfl ?_
      refine Run.storeRow 1 rfl rfl rfl rfl rfl (by omega) rfl rfl ?_
      refine Run.nil ?_
      refine T_region ?_
      refine Run.one (ok_move rfl rfl) rfl rfl rfl ?_
      refine Run.one ((ok_shr rfl rfl rfl (by omega) (by simp [IntKind.bits])).sub (int_eq (shr32 _))) rfl rfl rfl ?_
      refine Run.one (ok_assign rfl rfl) rfl rfl rfl ?_
      refine Run.nil ?_
      refine T_region ?_
      refine Run.one (ok_ari rfl rfl rfl rfl (wrap_i64 (by omega) (by omega))) rfl rfl rfl ?_
      refine Run.one (ok_move rfl rfl) rfl rfl rfl ?_
      refine Run.nil ?_
      refine ⟨k + 1, w / 4294967296, out'.set (p + k) (w % 4294967296), ⟨by omega, by omega, lim_set hlo' (by omega), by rw [List.length_set]; exact hln', ?_, fun j hj => by rw [limb_set_ne (by omega)]; exact hz' j hj⟩, by omega, ent_h (subG_cons rfl (subG_cons rfl (subG_cons rfl (subG_cons rfl (subG_cons rfl (subG_cons rfl (subG_cons rfl (subG_cons rfl trivial)))))))) rfl⟩
      have hs := val_set (l := out') (j := p + k) (w % 4294967296) (by omega)
      rw [show p + (k + 1) = p + k + 1 by omega, pow_split, low_succ]
      subst hw
      exact mul_step (Nat.pow_add _ _ _) hval' hs
    · have k24 := of_decide_eq_false h24
      have hkl : k = b.length := by omega
      rw [hkl, low_all (Nat.le_refl _), hn.val] at hval'
      refine T_exit ?_
      refine T_region ?_
      refine Run.one (ok_load_own 0 rfl rfl rfl rfl) rfl rfl rfl ?_
      refine Run.one (ok_move rfl rfl) rfl rfl rfl ?_
      refine Run.one (ok_load rfl rfl) rfl rfl rfl ?_
      refine Run.one (ok_len rfl rfl) rfl rfl rfl ?_
      refine Run.one (ok_ari (z := ((p + b.length : Nat) : Int)) rfl rfl rfl (congrArg some (by omega)) (wrap_i64 (by omega) (by omega))) rfl rfl rfl ?_
      refine Run.one (ok_move rfl rfl) rfl rfl rfl ?_
      refine Run.one (ok_conv rfl rfl (wrap_u32 (by omega) (by omega))) rfl rfl rfl ?_
      refine Run.one (ok_indexRow (i := p + b.length) rfl rfl rfl (by omega)) rfl rfl rfl ?_
      refine Run.storeRow 1 rfl rfl rfl rfl rfl (by omega) rfl rfl ?_
      refine Run.nil ?_
      refine ⟨rfl, p + 1, out'.set (p + b.length) over, by rw [nzl_yes hp2]; simp, by omega, lim_set hlo' hc, by rw [List.length_set]; exact hln', ?_, fun j hj => by rw [limb_set_ne (by omega)]; exact hz' j (by omega), rfl⟩
      have hs := val_set (l := out') (j := p + b.length) over (by omega)
      rw [hz' _ (Nat.le_refl _), Nat.mul_zero] at hs
      rw [low_succ, Nat.add_mul, Nat.mul_assoc]; omega
  · rintro h i D ⟨rfl, p0, out, hp0, hpl, hlo, hln, hval, hz, rfl⟩
    rw [limbsX_length] at hp0
    rw [(nzl_same (.inr hpl) hp0).2, low_all (Nat.le_refl _), hm.val] at hval
    have : IsNat out (m * n) := ⟨hlo, hval⟩
    refine T_regionS ?_
    refine Run.one (ok_load_own 0 rfl rfl rfl rfl) rfl rfl rfl ?_
    refine Run.ghost _ rfl (ghost_sl 1 60 rfl rfl hb16 (l := out) (f := u32S) hln rfl flat_u32 (by unfold big; omega)) ?_
    refine Run.one (ok_call rfl rfl (trim_spec (by unfold cap; omega))) rfl rfl rfl ?_
    refine Run.one (ok_assign rfl rfl) rfl rfl rfl ?_
    refine Run.nil ?_
    refine T_ret ?_
    exact ⟨_, [], .one (.tmp rfl), List.nil_sublist _, rfl, rfl⟩
  · intro h i D e c hc hInv; exact hInv.elim
theorem less_spec {a b : List Nat} {m n : Nat} [hm : IsNat a m] [hn : IsNat b n] (hs : max a.length b.length ≤ cap := by exact Sz.le2 (by decide)) : PSpec Tryz.prog G 109 [natS a, natS b] (natS (dig (m - n))) := by
  refine fn_spec Tryz.func109 rfl rfl rfl ?_
  refine T_regionS ?_
  refine Run.one (ok_assign rfl rfl) rfl rfl rfl ?_
  refine Run.nil ?_
  refine T_regionS ?_
  refine Run.one (ok_move rfl rfl) rfl rfl rfl ?_
  refine Run.one (ok_move rfl rfl) rfl rfl rfl ?_
  refine Run.one (ok_call rfl rfl (sub_spec hs)) rfl rfl rfl ?_
  refine Run.one (ok_move rfl rfl) rfl rfl rfl ?_
  refine Run.one (ok_extract rfl rfl rfl) rfl rfl rfl ?_
  refine Run.one (ok_extract rfl rfl rfl) rfl rfl rfl ?_
  refine Run.one (ok_assign rfl rfl) rfl rfl rfl ?_
  refine Run.one (ok_assign rfl rfl) rfl rfl rfl ?_
  refine Run.nil ?_
  refine T_regionS ?_
  refine Run.one (ok_move rfl rfl) rfl rfl rfl ?_
  refine Run.one (ok_assign rfl rfl) rfl rfl rfl ?_
  refine Run.nil ?_
  refine T_ret ?_
  exact ⟨_, [], .one (.tmp rfl), List.nil_sublist _, rfl, rfl⟩
theorem above_spec {a : List Nat} {n : Nat} (hs : n + a.length ≤ cap) : PSpec Tryz.prog G 111 [natS a, intS .i64 n] (natS (List.replicate n 0 ++ a)) := by
  unfold cap at hs
  refine fn_spec Tryz.func111 rfl rfl rfl ?_
  refine T_regionS ?_
  refine Run.one (ok_assign rfl rfl) rfl rfl rfl ?_
  refine Run.nil ?_
  refine T_regionS ?_
  refine Run.one (ok_move rfl rfl) rfl rfl rfl ?_
  refine Run.makeNat (n := n) (c := n) rfl rfl rfl rfl rfl rfl rfl (Nat.le_refl _) (by omega) (by unfold cap; omega) fun b6 hb6 => ?_
  refine Run.one (ok_move rfl rfl) rfl rfl rfl ?_
  refine Run.append 0 rfl rfl rfl rfl rfl rfl rfl rfl hb6 (by rw [flat_u32_length, List.length_replicate]) flat_u32 (by unfold big; omega) (by unfold big; omega) fun q8 hq8 => ?_
  refine Run.ghost _ rfl (ghost_sl 0 8 rfl rfl hq8 (l := List.replicate n 0 ++ a) (f := u32S) (by simp) List.flatMap_append.symm flat_u32 (by unfold big; omega)) ?_
  refine Run.one (ok_assign rfl rfl) rfl rfl rfl ?_
  refine Run.nil ?_
  refine T_ret ?_
  exact ⟨_, [], .one (.tmp rfl), List.nil_sublist _, rfl, rfl⟩
end Go.Proofs
