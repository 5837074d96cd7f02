/- quot: the long division. -/
import Derived.Test.YtijnlobgmfmhjaaGreatDoorSnm
namespace Go.Proofs
open Go Go.Sv Num
variable {G : Imm}
def digX (X D cnt : Nat) : List (List SV) := (List.range cnt).map fun k => [intS .i64 (cnt - 1 - k : Nat), intS .u32 (X / D / bpow (cnt - 1 - k) % 4294967296 : Nat)]
theorem digX_length {X D cnt : Nat} : (digX X D cnt).length = cnt := by simp [digX]
theorem digX_get {X D cnt k : Nat} (h : k < cnt) : (digX X D cnt)[k]? = some [intS .i64 (cnt - 1 - k : Nat), intS .u32 (X / D / bpow (cnt - 1 - k) % 4294967296 : Nat)] := by
  simp only [digX, List.getElem?_map, List.getElem?_range h, Option.map_some]
theorem digX_inv {X D cnt k : Nat} {ss : List SV} (h : (digX X D cnt)[k]? = some ss) : k < cnt ∧ ss = [intS .i64 (cnt - 1 - k : Nat), intS .u32 (X / D / bpow (cnt - 1 - k) % 4294967296 : Nat)] := by
  have h1 : k < cnt := by have := lt_of_get h; rwa [digX_length] at this
  refine ⟨h1, ?_⟩
  rw [digX_get h1] at h; exact (Option.some.inj h).symm
theorem digX_ss {X D cnt : Nat} {ss : List SV} (h : ss ∈ digX X D cnt) : ss.length = 2 := by
  obtain ⟨i, _, rfl⟩ := List.mem_map.1 h; rfl
theorem dig_low {n : Nat} (h : n ≠ 0) : 4294967296 ^ ((dig n).length - 1) ≤ n := by
  rcases Nat.lt_or_ge n (4294967296 ^ ((dig n).length - 1)) with h1 | h1
  · have h2 := dig_length_le h1
    have h3 : (dig n).length ≠ 0 := fun h0 => h (dig_len_zero.1 h0)
    omega
  · exact h1
theorem dig_top {n : Nat} (h : n ≠ 0) : limb (dig n) ((dig n).length - 1) ≠ 0 ∧ limb (dig n) ((dig n).length - 1) = n / 4294967296 ^ ((dig n).length - 1) := by
  have h1 := dig_low h
  have h3 : (dig n).length ≠ 0 := fun h0 => h (dig_len_zero.1 h0)
  have hp : 0 < 4294967296 ^ ((dig n).length - 1) := Nat.pow_pos (by decide)
  have h4 : n / 4294967296 ^ ((dig n).length - 1) < 4294967296 := by
    rw [Nat.div_lt_iff_lt_mul hp, Nat.mul_comm, ← pow_split, Nat.sub_add_cancel (Nat.pos_of_ne_zero h3)]
    exact lt_of_dig_length (Nat.le_refl _)
  have h5 : 0 < n / 4294967296 ^ ((dig n).length - 1) := Nat.div_pos h1 hp
  have h6 : limb (dig n) ((dig n).length - 1) = n / 4294967296 ^ ((dig n).length - 1) := by
    rw [limb_digit (lim_dig n), val_dig, Nat.mod_eq_of_lt h4]
  exact ⟨by rw [h6]; exact Nat.ne_of_gt h5, h6⟩
theorem div_facts {m n La Lb up : Nat} (hLa : La = (dig m).length) (hLb : Lb = (dig n).length) (hn0 : n ≠ 0) (hmn : n ≤ m) (hup : up = 32 - Lib.bitLen (limb (dig n) (Lb - 1))) :
    up ≤ 32 ∧ (dig (m * 2 ^ up)).length ≤ La + 1 ∧ (dig (n * 2 ^ up)).length = Lb ∧ 1 ≤ Lb ∧ Lb ≤ La ∧ limb (dig (n * 2 ^ up)) (Lb - 1) ≠ 0 ∧ m * 2 ^ up < n * 2 ^ up * bpow (La + 1 - Lb) ∧ n * 2 ^ up ≠ 0 ∧ m * 2 ^ up ≠ 0 := by
  have hp : 0 < 4294967296 ^ (Lb - 1) := Nat.pow_pos (by decide)
  have h2p : 0 < 2 ^ up := Nat.two_pow_pos up
  have hu : up ≤ 32 := by omega
  have hLb0 : 1 ≤ Lb := by
    have h3 : (dig n).length ≠ 0 := fun h0 => hn0 (dig_len_zero.1 h0)
    omega
  have hm : m < 4294967296 ^ La := lt_of_dig_length (by rw [hLa]; exact Nat.le_refl _)
  have hnl : 4294967296 ^ (Lb - 1) ≤ n := by rw [hLb]; exact dig_low hn0
  have hab : Lb ≤ La := by
    rcases Nat.lt_or_ge La Lb with h | h
    · exfalso
      have h1 : 4294967296 ^ La ≤ 4294967296 ^ (Lb - 1) := Nat.pow_le_pow_right (by decide) (by omega)
      exact absurd (Nat.lt_of_lt_of_le hm (Nat.le_trans h1 hnl)) (Nat.not_lt.2 hmn)
    · exact h
  have h232 : 2 ^ up ≤ 4294967296 := Nat.pow_le_pow_right (n := 2) (by decide) hu
  have e1 : (dig (m * 2 ^ up)).length ≤ La + 1 := by
    refine dig_length_le ?_
    rw [pow_split]
    exact Nat.lt_of_lt_of_le (Nat.mul_lt_mul_of_pos_right hm h2p) (Nat.mul_le_mul_left _ h232)
  obtain ⟨x, hx⟩ : ∃ x, x = limb (dig n) (Lb - 1) := ⟨_, rfl⟩
  have hxd : x = n / 4294967296 ^ (Lb - 1) := by rw [hx, hLb]; exact (dig_top hn0).2
  have hxl : x < 4294967296 := by rw [hx]; exact limb_lt (lim_dig n) _
  obtain ⟨hb1, hb2, hb3⟩ := bitLen_spec 32 x hxl (by decide)
  rw [← hx] at hup
  have hD : n * 2 ^ up < 4294967296 ^ Lb := by
    have g1 : n < (x + 1) * 4294967296 ^ (Lb - 1) := by rw [hxd]; exact Nat.lt_mul_of_div_lt (Nat.lt_succ_self _) hp
    have g2 : (x + 1) * 2 ^ up ≤ 4294967296 := by
      have : 2 ^ Lib.bitLen x * 2 ^ up = 4294967296 := by rw [← Nat.pow_add, show Lib.bitLen x + up = 32 by omega]
      rw [← this]; exact Nat.mul_le_mul_right _ hb1
    have g3 := Nat.mul_lt_mul_of_pos_right g1 h2p
    refine Nat.lt_of_lt_of_le g3 ?_
    rw [Nat.mul_right_comm]
    refine Nat.le_trans (Nat.mul_le_mul_right _ g2) ?_
    rw [Nat.mul_comm, ← pow_split, Nat.sub_add_cancel hLb0]; exact Nat.le_refl _
  have e2 : (dig (n * 2 ^ up)).length = Lb := by
    refine Nat.le_antisymm (dig_length_le hD) ?_
    rcases Nat.lt_or_ge (dig (n * 2 ^ up)).length Lb with h | h
    · exfalso
      have h1 : n * 2 ^ up < 4294967296 ^ (Lb - 1) := lt_of_dig_length (by omega)
      have h2 : n ≤ n * 2 ^ up := Nat.le_mul_of_pos_right _ h2p
      exact absurd (Nat.lt_of_le_of_lt h2 h1) (Nat.not_lt.2 hnl)
    · exact h
  have e3 : n * 2 ^ up ≠ 0 := Nat.mul_ne_zero hn0 (Nat.ne_of_gt h2p)
  refine ⟨hu, e1, e2, hLb0, hab, by have := (dig_top e3).1; rw [e2] at this; exact this, ?_, e3, Nat.mul_ne_zero (by omega) (Nat.ne_of_gt h2p)⟩
  have := first_fits (k := up) hm hnl (by omega)
  rw [show La + 1 - Lb = La - (Lb - 1) by omega]; exact this
theorem quot_val {m n up cnt : Nat} {out : List Nat} (hlo : Lim out) (hln : out.length = cnt) (hn : n * 2 ^ up ≠ 0) (hlt : m * 2 ^ up < n * 2 ^ up * bpow cnt) (hz : ∀ j, j < cnt → limb out j = m * 2 ^ up / (n * 2 ^ up) / bpow j % 4294967296) : val out = m / n := by
  have e : m * 2 ^ up / (n * 2 ^ up) = m / n := Nat.mul_div_mul_right m n (Nat.two_pow_pos up)
  have hl : m / n < 4294967296 ^ cnt := by
    rw [← e, Nat.div_lt_iff_lt_mul (Nat.pos_of_ne_zero hn), Nat.mul_comm, Nat.mul_comm (4294967296 ^ cnt), Nat.mul_comm (2 ^ up)]; exact hlt
  have : val out = val (dig (m / n)) := val_congr fun j => by
    rcases Nat.lt_or_ge j cnt with h | h
    · rw [hz j h, e, limb_dig]; rfl
    · rw [limb_out (by omega), limb_dig, Nat.div_eq_of_lt (Nat.lt_of_lt_of_le hl (Nat.pow_le_pow_right (by decide) h))]
  rw [this, val_dig]
theorem lng1_spec {R b : List Nat} {bL bR cR N n cnt X D : Nat} (hR : Lim R) (hb : Lim b) (hN : rowOk (some (bR, cR)) N) (hlN : R.length = N) (hn : b.length = n + 1) (hb0 : limb b n ≠ 0) (hcnt : N = n + 1 + cnt) (hs : N ≤ cap) (hX : val R = X) (hD : val b = D) (hlt : X < D * bpow cnt) : IterSpecH Tryz.prog G 134 [ptrS [eqS (.pointer (some ⟨bL, 0, none⟩))]] (digX X D cnt) (longH bL bR cR N R b) (fun i H' => ∃ out, Lim out ∧ out.length = N ∧ (i = (cnt, false) → val out = X % D) ∧ H' = longH bL bR cR N out b) := by
  have hs0 := hs
  unfold cap at hs
  refine iter_specH Tryz.func134 rfl rfl rfl rfl fun l E hy => ?_
  refine T_drawS 13 (by kernel_rfl) ?_
  refine Run.one (ok_load rfl rfl) rfl rfl rfl ?_
  refine Run.one (ok_nilCheck_eq rfl rfl) rfl rfl rfl ?_
  refine Run.one (ok_fieldAddr_eq rfl rfl rfl) rfl rfl rfl ?_
  refine Run.one (ok_load_own 0 rfl rfl rfl rfl) rfl rfl rfl ?_
  refine Run.one (ok_len_row rfl rfl hN) rfl rfl rfl ?_
  refine Run.one (ok_load rfl rfl) rfl rfl rfl ?_
  refine Run.one (ok_nilCheck_eq rfl rfl) rfl rfl rfl ?_
  refine Run.one (ok_fieldAddr_eq rfl rfl rfl) rfl rfl rfl ?_
  refine Run.one (ok_load_own 0 rfl rfl rfl rfl) rfl rfl rfl ?_
  refine Run.one ((ok_len rfl rfl).sub (int_eq (show ((b.length : Nat) : Int) = ((n + 1 : Nat) : Int) by omega))) rfl rfl rfl ?_
  refine Run.one (ok_ari (z := ((cnt : Nat) : Int)) rfl rfl rfl (congrArg some (by omega)) (wrap_i64 (by omega) (by omega))) rfl rfl rfl ?_
  refine Run.one (ok_ari (z := ((cnt : Nat) : Int) - 1) rfl rfl rfl (congrArg some (by omega)) (wrap_i64 (by omega) (by omega))) rfl rfl rfl ?_
  refine Run.one (ok_assign rfl rfl) rfl rfl rfl ?_
  refine Run.nil ?_
  refine Run.nil ?_
  refine T_block ?_
  refine T_loop2 (fun g out => ⟨_, [(3, intS .i64 (((g : Nat) : Int) - 1)), (0, yieldS l), (1, ptrS [eqS (.pointer (some ⟨bL, 0, none⟩))])], longH bL bR cR N out b, [], (cnt - g, false)⟩)
      (fun g out => g ≤ cnt ∧ Lim out ∧ out.length = N ∧ val out = X % (D * bpow g)) (fun g out => g)
      cnt R ⟨Nat.le_refl _, hR, hlN, by rw [hX, Nat.mod_eq_of_lt hlt]⟩ ⟨rfl, subG_cons rfl (subG_cons rfl (subG_cons rfl (trivial))), subH_refl _, rfl, by simp⟩ ?_
  rintro g out ⟨hg, hlo, hln, hval⟩
  refine T_seq ?_
  refine T_regionS ?_
  refine Run.one (ok_move rfl rfl) rfl rfl rfl ?_
  refine Run.one (ok_cmp rfl rfl rfl rfl) rfl rfl rfl ?_
  refine Run.nil ?_
  refine T_cond rfl rfl (fun h19 => ?_) (fun h19 => ?_)
  · have k19 := of_decide_eq_true h19
    obtain ⟨p, rfl⟩ : ∃ p, g = p + 1 := ⟨g - 1, by omega⟩
    obtain ⟨P, hP, hD0, hPl, hge, hdig, hrest⟩ := round_facts hlo hb hn hb0 hD hval
    obtain ⟨q, hq⟩ : ∃ q, q = min ((limb out (p + (n + 1)) * 4294967296 + limb out (p + n)) / limb b n) 4294967295 := ⟨_, rfl⟩
    rw [← hq] at hge
    have hq2 : q < 4294967296 := by rw [hq]; exact Nat.lt_of_le_of_lt (Nat.min_le_right _ _) (by decide)
    refine T_skip ?_
    refine T_seq ?_
    refine T_block ?_
    refine T_scope ?_
    refine T_regionS ?_
    refine Run.one (ok_load rfl rfl) rfl rfl rfl ?_
    refine Run.one ((ok_move rfl rfl).sub (int_eq (show ((p + 1 : Nat) : Int) - 1 = ((p : Nat) : Int) by omega))) rfl rfl rfl ?_
    refine Run.callH [] _ [] rfl rfl rfl rfl (guess_spec hln hlo hb hn (by omega) hb0 hs0) rfl rfl rfl ?_
    rintro s1 H1 ⟨rfl, rfl⟩
    refine Run.one ((ok_assign rfl rfl).sub (int_eq (n := ((q : Nat) : Int)) (congrArg Int.ofNat hq.symm))) rfl rfl rfl ?_
    refine Run.nil ?_
    refine T_seq ?_
    refine T_label ?_
    refine T_seqQ (K := fun S1 => ∃ out2, Lim out2 ∧ out2.length = N ∧ val out2 = X % (D * bpow p) ∧ Ent S1 ⟨42, [(4, intS .u64 (P / D : Nat)), (3, intS .i64 (((p + 1 : Nat) : Int) - 1)), (0, yieldS l), (1, ptrS [eqS (.pointer (some ⟨bL, 0, none⟩))])], longH bL bR cR N out2 b, [], (cnt - (p + 1), false)⟩) ?_ ?_
    · refine T_regionS ?_
      refine Run.one (ok_load rfl rfl) rfl rfl rfl ?_
      refine Run.one ((ok_move rfl rfl).sub (int_eq (show ((p + 1 : Nat) : Int) - 1 = ((p : Nat) : Int) by omega))) rfl rfl rfl ?_
      refine Run.one (ok_move rfl rfl) rfl rfl rfl ?_
      refine Run.callH [] _ [] rfl rfl rfl rfl (lless_spec hln hlo hb hN hn (by omega) hq2 hs0) rfl rfl rfl ?_
      rintro s1 H1 ⟨out1, u1, hu1, rfl, hlo1, hln1, hk1, hv1, rfl⟩
      rw [← hP, hD] at hv1
      replace hv1 : low (out1.drop p) (n + 2) + q * D = P + bpow (n + 2) * u1 := hv1
      refine Run.one (ok_assign rfl rfl) rfl rfl rfl ?_
      refine Run.nil ?_
      refine T_block ?_
      refine T_loop3 (fun q2 u2 out2 => ⟨_, [(5, boolS (decide (u2 = 0))), (4, intS .u64 (q2 : Nat)), (3, intS .i64 (((p + 1 : Nat) : Int) - 1)), (0, yieldS l), (1, ptrS [eqS (.pointer (some ⟨bL, 0, none⟩))])], longH bL bR cR N out2 b, [], (cnt - (p + 1), false)⟩)
          (fun q2 u2 out2 => u2 ≤ 1 ∧ q2 < 4294967296 ∧ P / D ≤ q2 ∧ Lim out2 ∧ out2.length = N ∧ (∀ j, j < p ∨ p + (n + 2) ≤ j → limb out2 j = limb out j) ∧ low (out2.drop p) (n + 2) + q2 * D = P + bpow (n + 2) * u2) (fun q2 u2 out2 => q2)
          q u1 out1 ⟨hu1, hq2, hge, hlo1, hln1, hk1, hv1⟩ (ent_h (subG_cons rfl (subG_cons rfl (subG_cons rfl (subG_cons rfl (subG_cons rfl (trivial)))))) rfl) ?_
      rintro q2 u2 out2 ⟨hu2, hq4, hq3, hlo2, hln2, hk2, hv2⟩
      refine T_seq ?_
      refine T_regionS ?_
      refine Run.one (ok_move rfl rfl) rfl rfl rfl ?_
      refine Run.one (ok_not rfl rfl) rfl rfl rfl ?_
      refine Run.nil ?_
      refine T_cond rfl rfl (fun h30 => ?_) (fun h30 => ?_)
      · have hu3 : u2 = 1 := by rcases Nat.lt_or_ge 0 u2 with h | h; omega; rw [show u2 = 0 by omega] at h30; simp at h30
        subst hu3
        rw [Nat.mul_one] at hv2
        have hc2 : low (out2.drop p) (n + 2) < bpow (n + 2) := low_lt (lim_drop hlo2 p) _
        have hqq := over_fit (c := 1) hD0 hv2 hc2 (Nat.le_refl _)
        obtain ⟨q5, rfl⟩ : ∃ q5, q2 = q5 + 1 := ⟨q2 - 1, by omega⟩
        refine T_skip ?_
        refine T_block ?_
        refine T_regionS ?_
        refine Run.one (ok_move rfl rfl) rfl rfl rfl ?_
        refine Run.one (ok_ari (z := ((q5 : Nat) : Int)) rfl rfl rfl (congrArg some (by omega)) (wrap_u64 (by omega) (by omega))) rfl rfl rfl ?_
        refine Run.one (ok_assign rfl rfl) rfl rfl rfl ?_
        refine Run.nil ?_
        refine T_regionS ?_
        refine Run.one (ok_load rfl rfl) rfl rfl rfl ?_
        refine Run.one ((ok_move rfl rfl).sub (int_eq (show ((p + 1 : Nat) : Int) - 1 = ((p : Nat) : Int) by omega))) rfl rfl rfl ?_
        refine Run.callH [] _ [] rfl rfl rfl rfl (more_spec hln2 hlo2 hb hn (by omega) hs0) rfl rfl rfl ?_
        rintro s1 H1 ⟨out3, c3, hc3, rfl, hlo3, hln3, hk3, hv3, rfl⟩
        rw [hD] at hv3
        replace hv3 : low (out3.drop p) (n + 2) + bpow (n + 2) * c3 = low (out2.drop p) (n + 2) + D := hv3
        rw [Nat.add_mul, Nat.one_mul] at hv2
        replace hk3 : ∀ j, j < p ∨ p + (n + 2) ≤ j → limb out3 j = limb out j := fun j hj => (hk3 j hj).trans (hk2 j hj)
        have hq5 : P / D ≤ q5 := by omega
        refine Run.nil ?_
        refine T_cond rfl rfl (fun h35 => ?_) (fun h35 => ?_)
        · have hc4 : c3 = 1 := by have := of_decide_eq_true h35; omega
          rw [hc4, Nat.mul_one] at hv3
          replace hv3 : low (out3.drop p) (n + 2) + q5 * D = P := by omega
          refine T_exit ?_
          exact ⟨out3, hlo3, hln3, hrest out3 hlo3 hk3 (fit hD0 hv3 hq5).2, ent_h (subG_as rfl (congrArg (fun x : Nat => intS .u64 x) (fit hD0 hv3 hq5).1) (subG_cons rfl (subG_cons rfl (subG_cons rfl (trivial))))) rfl⟩
        · have hc4 : c3 = 0 := by have := of_decide_eq_false h35; omega
          rw [hc4, Nat.mul_zero, Nat.add_zero] at hv3
          refine T_skip ?_
          exact ⟨q5, 1, out3, ⟨Nat.le_refl _, by omega, hq5, hlo3, hln3, hk3, by rw [Nat.mul_one]; omega⟩, by omega, ent_h (subG_cons rfl (subG_cons rfl (subG_cons rfl (subG_cons rfl (subG_cons rfl (trivial)))))) rfl⟩
      · have hu3 : u2 = 0 := by simpa using h30
        subst hu3
        rw [Nat.mul_zero, Nat.add_zero] at hv2
        refine T_exit ?_
        exact ⟨out2, hlo2, hln2, hrest out2 hlo2 hk2 (fit hD0 hv2 hq3).2, ent_h (subG_as rfl (congrArg (fun x : Nat => intS .u64 x) (fit hD0 hv2 hq3).1) (subG_cons rfl (subG_cons rfl (subG_cons rfl (trivial))))) rfl⟩
    · rintro S1 ⟨out2, hlo2, hln2, hval2, hS1⟩
      refine T_pre hS1 ?_
      refine T_regionS ?_
      have hdl : P / D < 4294967296 := by rw [hdig]; exact Nat.mod_lt _ (by omega)
      refine Run.one (ok_move rfl rfl) rfl rfl rfl ?_
      refine Run.one ((ok_move rfl rfl).sub (int_eq (show ((p + 1 : Nat) : Int) - 1 = ((p : Nat) : Int) by omega))) rfl rfl rfl ?_
      refine Run.one (ok_move rfl rfl) rfl rfl rfl ?_
      refine Run.one (ok_conv (z := ((P / D : Nat) : Int)) rfl rfl (wrap_u32 (by omega) (by omega))) rfl rfl rfl ?_
      refine Run.yield rfl hy rfl rfl rfl (by rw [digX_get (by omega), show cnt - 1 - (cnt - (p + 1)) = p by omega, ← hdig]) (subL_refl _) rfl rfl rfl fun y => ?_
      refine Run.one (ok_not rfl rfl) rfl rfl rfl ?_
      refine Run.nil ?_
      refine T_cond rfl rfl (fun h41 => ?_) (fun h41 => ?_)
      · refine T_ret ?_
        refine ⟨.inl rfl, _, List.Sublist.refl _, ⟨out2, hlo2, hln2, ?_, rfl⟩, .inr h41⟩
        intro h
        have h1 : (!y) = false := congrArg Prod.snd h
        rw [h1] at h41; cases h41
      · refine T_skip ?_
        refine T_region ?_
        refine Run.one (ok_move rfl rfl) rfl rfl rfl ?_
        refine Run.one (ok_ari (z := ((p : Nat) : Int) - 1) rfl rfl rfl (congrArg some (by omega)) (wrap_i64 (by omega) (by omega))) rfl rfl rfl ?_
        refine Run.one (ok_assign rfl rfl) rfl rfl rfl ?_
        refine Run.nil ?_
        exact ⟨p, out2, ⟨by omega, hlo2, hln2, hval2⟩, by omega, ⟨rfl, subG_cons rfl (subG_cons rfl (subG_cons rfl (trivial))), subH_refl _, rfl, by simp only; rw [h41, show cnt - p = cnt - (p + 1) + 1 by omega]⟩⟩
  · have k19 := of_decide_eq_false h19
    have hg0 : g = 0 := by omega
    subst hg0
    rw [show bpow 0 = 1 from rfl, Nat.mul_one] at hval
    refine T_exit ?_
    exact ⟨.inr rfl, _, List.Sublist.refl _, ⟨out, hlo, hln, fun _ => hval, rfl⟩, .inl (by rw [digX_length]; rfl)⟩
theorem lng_spec {bL : Nat} : PSpec Tryz.prog G 126 [eqS (.pointer (some ⟨bL, 0, none⟩))] (fnS 134 [ptrS [eqS (.pointer (some ⟨bL, 0, none⟩))]]) := by
  refine fn_spec Tryz.func126 rfl rfl rfl ?_
  refine T_regionS ?_
  refine Run.one (ok_box rfl rfl) rfl rfl rfl ?_
  refine Run.one (ok_assign rfl rfl) rfl rfl rfl ?_
  refine Run.nil ?_
  refine T_regionS ?_
  refine Run.one (ok_makeFunc rfl rfl) rfl rfl rfl ?_
  refine Run.one (ok_assign rfl rfl) rfl rfl rfl ?_
  refine Run.nil ?_
  refine T_ret ?_
  exact ⟨_, [], .one (.tmp rfl), List.nil_sublist _, rfl, rfl⟩
theorem div_spec {a b : List Nat} {m n : Nat} [hm : IsNat a m] [hn : IsNat b n] (hs : a.length + 10000 ≤ cap) (hs2 : b.length + 10000 ≤ cap) : PSpec Tryz.prog G 115 [natS a, natS b] (tupS [natS (dig (m / n)), natS (dig (if n = 0 then 0 else m % n)), intS .i64 (if n = 0 then 30 else 0)]) := by
  unfold cap at hs hs2
  have hla : (dig m).length ≤ a.length := dig_length_le (by rw [← hm.val]; exact val_lt hm.lim)
  have hlb : (dig n).length ≤ b.length := dig_length_le (by rw [← hn.val]; exact val_lt hn.lim)
  refine fn_spec Tryz.func115 rfl rfl rfl ?_
  refine T_regionS ?_
  refine Run.alloc rfl rfl rfl rfl rfl fun b4 => ?_
  refine Run.one (ok_assign rfl rfl) rfl rfl rfl ?_
  refine Run.one (ok_assign rfl rfl) rfl rfl rfl ?_
  refine Run.nil ?_
  refine T_regionS ?_
  refine Run.one (ok_move rfl rfl) rfl rfl rfl ?_
  refine Run.one (ok_call rfl rfl (trim_spec (by unfold cap; omega))) rfl rfl rfl ?_
  refine Run.one (ok_move rfl rfl) rfl rfl rfl ?_
  refine Run.one (ok_call rfl rfl (trim_spec (by unfold cap; omega))) rfl rfl rfl ?_
  refine Run.one (ok_assign rfl rfl) rfl rfl rfl ?_
  refine Run.one (ok_assign rfl rfl) rfl rfl rfl ?_
  refine Run.nil ?_
  refine T_seq ?_
  refine T_block ?_
  refine T_regionS ?_
  refine Run.one (ok_move rfl rfl) rfl rfl rfl ?_
  refine Run.one (ok_len rfl rfl) rfl rfl rfl ?_
  refine Run.one (ok_cmp rfl rfl rfl rfl) rfl rfl rfl ?_
  refine Run.one (ok_assign rfl rfl) rfl rfl rfl ?_
  refine Run.nil ?_
  refine T_cond rfl rfl (fun h18 => ?_) (fun h18 => ?_)
  · have k18 := beq_iff_eq.1 h18
    have hn0 : n = 0 := dig_len_zero.1 (by omega)
    refine T_regionS ?_
    refine Run.store 0 rfl rfl rfl rfl rfl rfl rfl rfl rfl ?_
    refine Run.ghost _ rfl (ghost_cell (nil_nat (l := dig (m / n)) (dig_eq_nil.2 (by rw [hn0]; exact Nat.div_zero m)))) ?_
    refine Run.one ((ok_assign rfl rfl).sub (nil_nat (l := dig (if n = 0 then 0 else m % n)) (by rw [if_pos hn0]; exact dig_zero))) rfl rfl rfl ?_
    refine Run.one (ok_assign rfl rfl) rfl rfl rfl ?_
    refine Run.nil ?_
    refine T_ret ?_
    exact ⟨_, [], .many (.cons (.own 0 inferInstance rfl rfl rfl) (.cons (.tmp rfl) (.cons (.tmp rfl) (.nil)))), List.nil_sublist _, by simp only [if_pos hn0], rfl⟩
  · have k18 := beq_eq_false_iff_ne.1 h18
    have hn0 : n ≠ 0 := fun h => k18 (by rw [h, dig_zero]; rfl)
    refine T_regionS ?_
    refine Run.one (ok_move rfl rfl) rfl rfl rfl ?_
    refine Run.one (ok_move rfl rfl) rfl rfl rfl ?_
    refine Run.one (ok_call rfl rfl cmp_spec) rfl rfl rfl ?_
    refine Run.one (ok_cmp rfl rfl rfl rfl) rfl rfl rfl ?_
    refine Run.one (ok_assign rfl rfl) rfl rfl rfl ?_
    refine Run.nil ?_
    refine T_cond rfl rfl (fun h22 => ?_) (fun h22 => ?_)
    · have k22 := of_decide_eq_true h22
      have hmn : m < n := by rcases Nat.lt_or_ge m n with h | h; exact h; unfold tri at k22; rw [if_neg (by omega)] at k22; split at k22 <;> omega
      refine T_regionS ?_
      refine Run.one (ok_move rfl rfl) rfl rfl rfl ?_
      refine Run.store 0 rfl rfl rfl rfl rfl rfl rfl rfl rfl ?_
      refine Run.ghost _ rfl (ghost_cell (nil_nat (l := dig (m / n)) (dig_eq_nil.2 (Nat.div_eq_of_lt hmn)))) ?_
      refine Run.one ((ok_assign rfl rfl).sub (show ∀ I v, (natS (dig (m))).den I v → (natS (dig (if n = 0 then 0 else m % n))).den I v from fun I v h => by rw [if_neg hn0, Nat.mod_eq_of_lt hmn]; exact h)) rfl rfl rfl ?_
      refine Run.one (ok_assign rfl rfl) rfl rfl rfl ?_
      refine Run.nil ?_
      refine T_ret ?_
      exact ⟨_, [], .many (.cons (.own 0 inferInstance rfl rfl rfl) (.cons (.tmp rfl) (.cons (.tmp rfl) (.nil)))), List.nil_sublist _, by simp only [if_neg hn0], rfl⟩
    · have k22 := of_decide_eq_false h22
      have hmn : n ≤ m := by rcases Nat.lt_or_ge m n with h | h; unfold tri at k22; rw [if_pos h] at k22; omega; exact h
      refine T_regionS ?_
      refine Run.one (ok_move rfl rfl) rfl rfl rfl ?_
      refine Run.one (ok_len rfl rfl) rfl rfl rfl ?_
      refine Run.one (ok_cmp rfl rfl rfl rfl) rfl rfl rfl ?_
      refine Run.one (ok_assign rfl rfl) rfl rfl rfl ?_
      refine Run.nil ?_
      refine T_cond rfl rfl (fun h28 => ?_) (fun h28 => ?_)
      · have k28 := beq_iff_eq.1 h28
        have hb1 : (dig n).length = 1 := by omega
        have hnB : n < 4294967296 := by have := lt_of_dig_length (n := n) (k := 1) (by omega); rwa [Nat.pow_one] at this
        have hmod := Nat.mod_lt m (Nat.pos_of_ne_zero hn0)
        refine T_regionS ?_
        refine Run.one (ok_move rfl rfl) rfl rfl rfl ?_
        refine Run.one (ok_move rfl rfl) rfl rfl rfl ?_
        refine Run.one (ok_indexAddr rfl rfl rfl (by omega) (y := limb (dig n) 0) (limb_get (by omega))) rfl rfl rfl ?_
        refine Run.one ((ok_load rfl rfl).sub (int_eq (n := ((n : Nat) : Int)) (by rw [limb_dig, Nat.pow_zero, Nat.div_one, Nat.mod_eq_of_lt hnB]))) rfl rfl rfl ?_
        refine Run.one (ok_call rfl rfl (short_spec hnB (by unfold cap; omega))) rfl rfl rfl ?_
        refine Run.one (ok_move rfl rfl) rfl rfl rfl ?_
        refine Run.one (ok_extract rfl rfl rfl) rfl rfl rfl ?_
        refine Run.one ((ok_extract rfl rfl rfl).sub (int_eq (n := ((m % n : Nat) : Int)) (by rw [if_neg hn0]))) rfl rfl rfl ?_
        refine Run.one ((ok_extract rfl rfl rfl).sub (int_eq (n := 0) (by rw [if_neg hn0]))) rfl rfl rfl ?_
        refine Run.one (ok_assign rfl rfl) rfl rfl rfl ?_
        refine Run.one (ok_assign rfl rfl) rfl rfl rfl ?_
        refine Run.one (ok_assign rfl rfl) rfl rfl rfl ?_
        refine Run.nil ?_
        refine T_regionS ?_
        refine Run.one (ok_move rfl rfl) rfl rfl rfl ?_
        refine Run.one (ok_move rfl rfl) rfl rfl rfl ?_
        refine Run.one (ok_conv rfl rfl (wrap_u64 (by omega) (by omega))) rfl rfl rfl ?_
        refine Run.one (ok_call rfl rfl (of_spec (by omega))) rfl rfl rfl ?_
        refine Run.one (ok_move rfl rfl) rfl rfl rfl ?_
        refine Run.store 0 rfl rfl rfl rfl rfl rfl rfl rfl rfl ?_
        refine Run.one ((ok_assign rfl rfl).sub (show ∀ I v, (natS (dig (m % n))).den I v → (natS (dig (if n = 0 then 0 else m % n))).den I v from fun I v h => by rw [if_neg hn0]; exact h)) rfl rfl rfl ?_
        refine Run.one (ok_assign rfl rfl) rfl rfl rfl ?_
        refine Run.nil ?_
        refine T_ret ?_
        exact ⟨_, [], .many (.cons (.own 0 inferInstance rfl rfl rfl) (.cons (.tmp rfl) (.cons (.tmp rfl) (.nil)))), List.nil_sublist _, by simp only [if_neg hn0], rfl⟩
      · have k28 := beq_eq_false_iff_ne.1 h28
        obtain ⟨La, hLa⟩ : ∃ La, La = (dig m).length := ⟨_, rfl⟩
        obtain ⟨Lb, hLb⟩ : ∃ Lb, Lb = (dig n).length := ⟨_, rfl⟩
        obtain ⟨up, hup⟩ : ∃ up, up = 32 - Lib.bitLen (limb (dig n) (Lb - 1)) := ⟨_, rfl⟩
        obtain ⟨f1, f2, f3, f4, f5, f6, f7, f8, f9⟩ := div_facts hLa hLb hn0 hmn hup
        obtain ⟨c, hc⟩ : ∃ c, c = La + 1 - (dig (m * 2 ^ up)).length := ⟨_, rfl⟩
        obtain ⟨cnt, hcnt⟩ : ∃ cnt, cnt = La + 1 - Lb := ⟨_, rfl⟩
        rw [← hcnt] at f7
        have hLN : (dig (m * 2 ^ up)).length + c = La + 1 := by omega
        refine T_skip ?_
        refine T_regionS ?_
        refine Run.one (ok_move rfl rfl) rfl rfl rfl ?_
        refine Run.one (ok_move rfl rfl) rfl rfl rfl ?_
        refine Run.one (ok_len rfl rfl) rfl rfl rfl ?_
        refine Run.one (ok_ari (z := ((Lb - 1 : Nat) : Int)) rfl rfl rfl (congrArg some (by omega)) (wrap_i64 (by omega) (by omega))) rfl rfl rfl ?_
        refine Run.one (ok_indexAddr rfl rfl rfl (by omega) (y := limb (dig n) (Lb - 1)) (limb_get (by omega))) rfl rfl rfl ?_
        refine Run.one (ok_load rfl rfl) rfl rfl rfl ?_
        refine Run.one ((ok_call rfl rfl (lz32_spec (limb_lt (lim_dig n) _))).sub (int_eq (n := ((up : Nat) : Int)) (by rw [hup]))) rfl rfl rfl ?_
        refine Run.one (ok_assign rfl rfl) rfl rfl rfl ?_
        refine Run.nil ?_
        refine T_regionS ?_
        refine Run.one (ok_move rfl rfl) rfl rfl rfl ?_
        refine Run.one (ok_move rfl rfl) rfl rfl rfl ?_
        refine Run.call0 rfl rfl rfl (up_own (by omega) (by unfold cap; omega) f9) rfl rfl rfl ?_
        rintro s1 H1 ⟨bR, cR, hqR, rfl, rfl⟩
        refine Run.one (ok_move rfl rfl) rfl rfl rfl ?_
        refine Run.one (ok_move rfl rfl) rfl rfl rfl ?_
        refine Run.one (ok_call rfl rfl (up_spec (by omega) (by unfold cap; omega))) rfl rfl rfl ?_
        refine Run.one (ok_build rfl rfl rfl) rfl rfl rfl ?_
        refine Run.box rfl rfl rfl rfl rfl rfl fun b60 => ?_
        refine Run.one (ok_assign rfl rfl) rfl rfl rfl ?_
        refine Run.nil ?_
        refine T_drawFPS [0, 1, 2, 3, 4, 5, 6, 7, 8, 9, 10, 11, 12, 13, 14, 15, 16, 17] 14 _ (by kernel_rfl) (by kernel_rfl) rfl (.cons_cons _ (.cons _ (.cons_cons _ .slnil))) ?_
        refine RunE.lat (ok_move rfl rfl) rfl rfl rfl ?_
        refine RunE.one (ok_move rfl rfl) rfl rfl rfl (by kernel_rfl) ?_
        refine RunE.one (ok_nilCheck_eq rfl rfl) rfl rfl rfl (by kernel_rfl) ?_
        refine RunE.one (ok_fieldAddr_eq rfl rfl rfl) rfl rfl rfl (by kernel_rfl) ?_
        refine RunE.one (ok_load_own 0 rfl rfl rfl rfl) rfl rfl rfl (by kernel_rfl) ?_
        refine RunE.one (ok_move rfl rfl) rfl rfl rfl (by kernel_rfl) ?_
        refine RunE.one (ok_len rfl rfl) rfl rfl rfl (by kernel_rfl) ?_
        refine RunE.one (ok_ari (z := ((La + 1 : Nat) : Int)) rfl rfl rfl (congrArg some (by omega)) (wrap_i64 (by omega) (by omega))) rfl rfl rfl (by kernel_rfl) ?_
        refine RunE.one (ok_move rfl rfl) rfl rfl rfl (by kernel_rfl) ?_
        refine RunE.one (ok_nilCheck_eq rfl rfl) rfl rfl rfl (by kernel_rfl) ?_
        refine RunE.one (ok_fieldAddr_eq rfl rfl rfl) rfl rfl rfl (by kernel_rfl) ?_
        refine RunE.one (ok_load_own 0 rfl rfl rfl rfl) rfl rfl rfl (by kernel_rfl) ?_
        refine RunE.one (ok_len_row rfl rfl hqR) rfl rfl rfl (by kernel_rfl) ?_
        refine RunE.one (ok_ari (z := ((c : Nat) : Int)) rfl rfl rfl (congrArg some (by omega)) (wrap_i64 (by omega) (by omega))) rfl rfl rfl (by kernel_rfl) ?_
        refine RunE.nil ?_
        refine EffAtD.appendZeros 1 rfl rfl rfl rfl rfl rfl rfl hqR (flat_u32_length _) (by unfold big; omega) (by unfold big; omega) fun q2 hq2 => ⟨.cons_cons _ (.cons _ (.cons_cons _ .slnil)), ?_⟩
        obtain ⟨bR2, cR2⟩ := q2
        rw [zero_row, ← List.flatMap_append, hLN]
        rw [hLN] at hq2
        refine Run.one (ok_nilCheck_eq rfl rfl) rfl rfl rfl ?_
        refine Run.one (ok_fieldAddr_eq rfl rfl rfl) rfl rfl rfl ?_
        refine Run.store 0 rfl rfl rfl rfl rfl rfl rfl rfl rfl ?_
        refine Run.nil ?_
        obtain ⟨Rl, hRl⟩ : ∃ l, l = dig (m * 2 ^ up) ++ List.replicate c 0 := ⟨_, rfl⟩
        rw [← hRl]
        have hRlim : Lim Rl := by rw [hRl]; exact lim_append (lim_dig _) (lim_replicate _)
        have hRlen : Rl.length = La + 1 := by rw [hRl, List.length_append, List.length_replicate, hLN]
        have hRval : val Rl = m * 2 ^ up := by rw [hRl, val_append, val_replicate_zero, val_dig, Nat.mul_zero, Nat.add_zero]
        refine T_drawS 11 (by kernel_rfl) ?_
        refine Run.one (ok_move rfl rfl) rfl rfl rfl ?_
        refine Run.one (ok_nilCheck_eq rfl rfl) rfl rfl rfl ?_
        refine Run.one (ok_fieldAddr_eq rfl rfl rfl) rfl rfl rfl ?_
        refine Run.one (ok_load_own 0 rfl rfl rfl rfl) rfl rfl rfl ?_
        refine Run.one (ok_len_row rfl rfl hq2) rfl rfl rfl ?_
        refine Run.one (ok_move rfl rfl) rfl rfl rfl ?_
        refine Run.one (ok_nilCheck_eq rfl rfl) rfl rfl rfl ?_
        refine Run.one (ok_fieldAddr_eq rfl rfl rfl) rfl rfl rfl ?_
        refine Run.one (ok_load_own 0 rfl rfl rfl rfl) rfl rfl rfl ?_
        refine Run.one (ok_len rfl rfl) rfl rfl rfl ?_
        refine Run.one (ok_ari (z := ((cnt : Nat) : Int)) rfl rfl rfl (congrArg some (by omega)) (wrap_i64 (by omega) (by omega))) rfl rfl rfl ?_
        refine Run.nil ?_
        refine Run.makeNat (n := cnt) (c := cnt) rfl rfl rfl rfl rfl rfl rfl (Nat.le_refl _) (by omega) (by unfold cap; omega) fun b89 hb89 => ?_
        refine Run.store 3 rfl rfl rfl rfl rfl rfl rfl rfl rfl ?_
        refine Run.nil ?_
        refine T_seq ?_
        refine T_regionS ?_
        refine Run.one (ok_move rfl rfl) rfl rfl rfl ?_
        refine Run.one (ok_call rfl rfl lng_spec) rfl rfl rfl ?_
        refine Run.nil ?_
        refine T_block ?_
        refine T_rngH (H0 := longH b60 bR2 cR2 (La + 1) Rl (dig (n * 2 ^ up))) (h1 := [rowE (some (b89, cnt)) 65 1 cnt ((List.replicate cnt 0).flatMap u32S), ⟨some b4, 23, [eqS (rowV (some (b89, cnt)) cnt)], 0⟩]) rfl rfl (lng1_spec hRlim (lim_dig _) hq2 hRlen (n := Lb - 1) (by omega) f6 (cnt := cnt) (by omega) (by unfold cap; omega) hRval (val_dig _) f7) (List.perm_middle (l₁ := longH b60 bR2 cR2 (La + 1) Rl (dig (n * 2 ^ up)))).symm (fun ss h => digX_ss h) (by decide) rfl
            (fun k h i => i = (0, false) ∧ k ≤ cnt ∧ ∃ out, Lim out ∧ out.length = cnt ∧ (∀ j, cnt - k ≤ j → j < cnt → limb out j = m * 2 ^ up / (n * 2 ^ up) / bpow j % 4294967296) ∧ h = [rowE (some (b89, cnt)) 65 1 cnt (out.flatMap u32S), ⟨some b4, 23, [eqS (rowV (some (b89, cnt)) cnt)], 0⟩])
            (fun _ _ _ => False) ⟨rfl, Nat.zero_le _, List.replicate cnt 0, lim_replicate _, List.length_replicate, fun j h1 h2 => by omega, rfl⟩ ?_ ?_ ?_
        · rintro l k ss h i hk ⟨rfl, _, out, hlo, hln, hz, rfl⟩
          obtain ⟨hk1, rfl⟩ := digX_inv hk
          obtain ⟨p, hp⟩ : ∃ p, p = cnt - 1 - k := ⟨_, rfl⟩
          obtain ⟨z, hzz⟩ : ∃ z, z = m * 2 ^ up / (n * 2 ^ up) / bpow p % 4294967296 := ⟨_, rfl⟩
          rw [← hp, ← hzz]
          have hzl : z < 4294967296 := by rw [hzz]; exact Nat.mod_lt _ (by decide)
          refine T_regionS ?_
          refine Run.one (ok_assign rfl rfl) rfl rfl rfl ?_
          refine Run.nil ?_
          refine T_region ?_
          refine Run.one (ok_assign rfl rfl) rfl rfl rfl ?_
          refine Run.nil ?_
          refine ⟨rfl, ?_⟩
          refine T_block ?_
          refine T_region ?_
          refine Run.one (ok_load_own 1 rfl rfl rfl rfl) rfl rfl rfl ?_
          refine Run.one (ok_move rfl rfl) rfl rfl rfl ?_
          refine Run.one (ok_move rfl rfl) rfl rfl rfl ?_
          refine Run.one (ok_indexRow (i := p) rfl rfl rfl (by omega)) rfl rfl rfl ?_
          refine Run.storeRow 0 rfl rfl rfl rfl rfl (by omega) rfl rfl ?_
          refine Run.nil ?_
          refine ⟨rfl, by omega, out.set p z, lim_set hlo hzl, by rw [List.length_set]; exact hln, fun j h1 h2 => ?_, rfl⟩
          by_cases e : j = p
          · rw [e, limb_set_eq (by omega), hzz]
          · rw [limb_set_ne (fun h => e h.symm)]; exact hz j (by omega) h2
        · rintro h H2 i D ⟨rfl, _, out, hlo, hln, hz, rfl⟩ ⟨R2, hlo2, hln2, hv2, rfl⟩
          rw [digX_length] at hz hv2
          replace hv2 := hv2 rfl
          rw [Nat.mul_mod_mul_right] at hv2
          have hvo := quot_val hlo hln f8 f7 fun j hj => hz j (by omega) hj
          have i1 : IsNat out (m / n) := ⟨hlo, hvo⟩
          have i2 : IsNat R2 (m % n * 2 ^ up) := ⟨hlo2, hv2⟩
          refine T_ghost (ghost_in 1 0 0 rfl rfl rfl hq2 hln2 rfl flat_u32 (by unfold big; omega)) ?_
          refine T_ghost (ghost_in 1 1 0 rfl rfl rfl hb89 hln rfl flat_u32 (by unfold big; omega)) ?_
          refine T_drawS 9 (by kernel_rfl) ?_
          refine Run.one (ok_load_own 1 rfl rfl rfl rfl) rfl rfl rfl ?_
          refine Run.one (ok_call rfl rfl (trim_spec (by unfold cap; omega))) rfl rfl rfl ?_
          refine Run.one (ok_move rfl rfl) rfl rfl rfl ?_
          refine Run.one (ok_nilCheck_eq rfl rfl) rfl rfl rfl ?_
          refine Run.one (ok_fieldAddr_eq rfl rfl rfl) rfl rfl rfl ?_
          refine Run.one (ok_load_own 0 rfl rfl rfl rfl) rfl rfl rfl ?_
          refine Run.one (ok_call rfl rfl (trim_spec (by unfold cap; omega))) rfl rfl rfl ?_
          refine Run.one (ok_move rfl rfl) rfl rfl rfl ?_
          refine Run.one (ok_call rfl rfl (down_spec (by omega) (by unfold cap; have h9 : (dig (m % n * 2 ^ up)).length ≤ R2.length := dig_length_le (by rw [← i2.val]; exact val_lt hlo2); omega))) rfl rfl rfl ?_
          refine Run.nil ?_
          refine Run.store 1 rfl rfl rfl rfl rfl rfl rfl rfl rfl ?_
          refine Run.one ((ok_assign rfl rfl).sub (show ∀ I v, (natS (dig (m % n * 2 ^ up / 2 ^ up))).den I v → (natS (dig (if n = 0 then 0 else m % n))).den I v from fun I v h => by rw [if_neg hn0, ← Nat.mul_div_cancel (m % n) (Nat.two_pow_pos up)]; exact h)) rfl rfl rfl ?_
          refine Run.one (ok_assign rfl rfl) rfl rfl rfl ?_
          refine Run.nil ?_
          refine T_ret ?_
          exact ⟨_, [], .many (.cons (.own 1 inferInstance rfl rfl rfl) (.cons (.tmp rfl) (.cons (.tmp rfl) (.nil)))), List.nil_sublist _, by simp only [if_neg hn0], rfl⟩
        · intro h H2 i j D e c hc hInv; exact hInv.elim
end Go.Proofs
