/- quot: the steps of the long division: guess, less, more. -/
import Derived.Test.YtijnlobgmfmhjaaGreatDoorSnl
import Derived.Test.YtijnlobgmfmhjaaGreatDoorSmd
namespace Go.Proofs
open Go Go.Sv Num
variable {G : Imm}
/-- a division on its way: the block of the two slices, the row of what is left -/
abbrev longH (bL bR cR N : Nat) (R b : List Nat) : HL := [⟨some bL, 132, [eqS (rowV (some (bR, cR)) N), natS b], 0⟩, rowE (some (bR, cR)) 65 1 N (R.flatMap u32S)]
theorem sb_split {x y u : Nat} (hx : x < 4294967296) (hy : y < 4294967296) (hu : u ≤ 1) : sb x y u % 4294967296 + y + u = x + 4294967296 * (sb x y u / 9223372036854775808) ∧ sb x y u / 9223372036854775808 ≤ 1 := by unfold sb; split <;> omega
theorem low_set_ge {l : List Nat} {a i z : Nat} : low ((l.set (a + i) z).drop a) i = low (l.drop a) i := low_congr fun j hj => by rw [drop_limb, drop_limb, limb_set_ne (by omega)]
theorem guess_spec {R b : List Nat} {bL bR cR at' n : Nat} {N : Nat} (hlN : R.length = N) (hR : Lim R) (hb : Lim b) (hn : b.length = n + 1) (hat : at' + (n + 1) < N) (hb0 : limb b n ≠ 0) (hs : N ≤ cap) : CallSpec Tryz.prog G 135 [eqS (.pointer (some ⟨bL, 0, none⟩)), intS .i64 (at' : Nat)] (longH bL bR cR N R b) (fun s H' => s = intS .u64 (min ((limb R (at' + (n + 1)) * 4294967296 + limb R (at' + n)) / limb b n) 4294967295 : Nat) ∧ H' = longH bL bR cR N R b) := by
  subst hlN
  unfold cap at hs
  have h1 := limb_lt hR (at' + (n + 1))
  have h2 := limb_lt hR (at' + n)
  have h3 := limb_lt hb n
  obtain ⟨w, hw⟩ : ∃ w, w = limb R (at' + (n + 1)) * 4294967296 + limb R (at' + n) := ⟨_, rfl⟩
  refine fn_spec Tryz.func135 rfl rfl rfl ?_
  refine T_regionS ?_
  refine Run.one (ok_assign rfl rfl) rfl rfl rfl ?_
  refine Run.nil ?_
  refine T_regionS ?_
  refine Run.one (ok_move rfl rfl) rfl rfl rfl ?_
  refine Run.one (ok_nilCheck_eq rfl rfl) rfl rfl rfl ?_
  refine Run.one (ok_fieldAddr_eq rfl rfl rfl) rfl rfl rfl ?_
  refine Run.one (ok_load_own 0 rfl rfl rfl rfl) rfl rfl rfl ?_
  refine Run.one ((ok_len rfl rfl).sub (int_eq (show ((b.length : Nat) : Int) = ((n + 1 : Nat) : Int) by omega))) rfl rfl rfl ?_
  refine Run.one (ok_assign rfl rfl) rfl rfl rfl ?_
  refine Run.nil ?_
  refine T_drawS 24 (by kernel_rfl) ?_
  refine Run.one (ok_move rfl rfl) rfl rfl rfl ?_
  refine Run.one (ok_nilCheck_eq rfl rfl) rfl rfl rfl ?_
  refine Run.one (ok_fieldAddr_eq rfl rfl rfl) rfl rfl rfl ?_
  refine Run.one (ok_load_own 0 rfl rfl rfl rfl) rfl rfl rfl ?_
  refine Run.one (ok_move rfl rfl) rfl rfl rfl ?_
  refine Run.one (ok_move rfl rfl) rfl rfl rfl ?_
  refine Run.one (ok_ari (z := ((at' + (n + 1) : Nat) : Int)) rfl rfl rfl (congrArg some (by omega)) (wrap_i64 (by omega) (by omega))) rfl rfl rfl ?_
  refine Run.one (ok_indexRow (i := at' + (n + 1)) rfl rfl rfl (by omega)) rfl rfl rfl ?_
  refine Run.one (ok_loadRow 1 rfl rfl rfl (by omega)) rfl rfl rfl ?_
  refine Run.one (ok_conv rfl rfl (wrap_u64 (by omega) (by omega))) rfl rfl rfl ?_
  refine Run.one ((ok_shl rfl rfl rfl (by omega) (by simp [IntKind.bits])).sub (int_eq (n := ((4294967296 * limb R (at' + (n + 1)) : Nat) : Int)) ((wrap_u64 (by simp; omega) (by simp; omega)).trans (by simp; omega)))) rfl rfl rfl ?_
  refine Run.one (ok_move rfl rfl) rfl rfl rfl ?_
  refine Run.one (ok_nilCheck_eq rfl rfl) rfl rfl rfl ?_
  refine Run.one (ok_fieldAddr_eq rfl rfl rfl) rfl rfl rfl ?_
  refine Run.one (ok_load_own 0 rfl rfl rfl rfl) rfl rfl rfl ?_
  refine Run.one (ok_move rfl rfl) rfl rfl rfl ?_
  refine Run.one (ok_move rfl rfl) rfl rfl rfl ?_
  refine Run.one (ok_ari (z := ((at' + (n + 1) : Nat) : Int)) rfl rfl rfl (congrArg some (by omega)) (wrap_i64 (by omega) (by omega))) rfl rfl rfl ?_
  refine Run.one (ok_ari (z := ((at' + n : Nat) : Int)) rfl rfl rfl (congrArg some (by omega)) (wrap_i64 (by omega) (by omega))) rfl rfl rfl ?_
  refine Run.one (ok_indexRow (i := at' + n) rfl rfl rfl (by omega)) rfl rfl rfl ?_
  refine Run.one (ok_loadRow 1 rfl rfl rfl (by omega)) rfl rfl rfl ?_
  refine Run.one (ok_conv rfl rfl (wrap_u64 (by omega) (by omega))) rfl rfl rfl ?_
  refine Run.one ((ok_bits rfl (by simp) rfl rfl).sub (int_eq (n := ((w : Nat) : Int)) (by rw [bitI_or (by omega) (by omega), or_high h2, hw, Nat.mul_comm]))) rfl rfl rfl ?_
  refine Run.one (ok_assign rfl rfl) rfl rfl rfl ?_
  refine Run.nil ?_
  refine Run.nil ?_
  refine T_regionS ?_
  refine Run.one (ok_move rfl rfl) rfl rfl rfl ?_
  refine Run.one (ok_move rfl rfl) rfl rfl rfl ?_
  refine Run.one (ok_nilCheck_eq rfl rfl) rfl rfl rfl ?_
  refine Run.one (ok_fieldAddr_eq rfl rfl rfl) rfl rfl rfl ?_
  refine Run.one (ok_load_own 0 rfl rfl rfl rfl) rfl rfl rfl ?_
  refine Run.one (ok_move rfl rfl) rfl rfl rfl ?_
  refine Run.one (ok_ari (z := ((n : Nat) : Int)) rfl rfl rfl (congrArg some (by omega)) (wrap_i64 (by omega) (by omega))) rfl rfl rfl ?_
  refine Run.one (ok_indexAddr rfl rfl rfl (by omega) (y := limb b n) (limb_get (by omega))) rfl rfl rfl ?_
  refine Run.one (ok_load rfl rfl) rfl rfl rfl ?_
  refine Run.one (ok_conv rfl rfl (wrap_u64 (by omega) (by omega))) rfl rfl rfl ?_
  refine Run.one ((ok_quo rfl rfl rfl (by omega) (by omega) (by have := Nat.div_le_self w (limb b n); rw [← Int.natCast_ediv]; exact wrap_u64 (Int.natCast_nonneg _) (by omega))).sub (int_eq (n := ((w / limb b n : Nat) : Int)) (Int.natCast_ediv _ _).symm)) rfl rfl rfl ?_
  refine Run.one ((ok_min rfl rfl rfl).sub (int_eq (n := ((min (w / limb b n) 4294967295 : Nat) : Int)) (by omega))) rfl rfl rfl ?_
  refine Run.one (ok_assign rfl rfl) rfl rfl rfl ?_
  refine Run.nil ?_
  refine T_ret ?_
  exact ⟨_, _, .one (.tmp rfl), List.Sublist.refl _, by rw [← hw], rfl⟩
theorem lless_spec {R b : List Nat} {bL bR cR at' n t : Nat} {N : Nat} (hlN : R.length = N) (hR : Lim R) (hb : Lim b) (hN : rowOk (some (bR, cR)) N) (hn : b.length = n) (hat : at' + n < N) (ht : t < 4294967296) (hs : N ≤ cap) : CallSpec Tryz.prog G 136 [eqS (.pointer (some ⟨bL, 0, none⟩)), intS .i64 (at' : Nat), intS .u64 (t : Nat)] (longH bL bR cR N R b) (fun s H' => ∃ out u, u ≤ 1 ∧ s = boolS (decide (u = 0)) ∧ Lim out ∧ out.length = N ∧ (∀ j, j < at' ∨ at' + (n + 1) ≤ j → limb out j = limb R j) ∧ low (out.drop at') (n + 1) + t * val b = low (R.drop at') (n + 1) + bpow (n + 1) * u ∧ H' = longH bL bR cR N out b) := by
  subst hlN
  unfold cap at hs
  refine fn_spec Tryz.func136 rfl rfl rfl ?_
  refine T_regionS ?_
  refine Run.one (ok_assign rfl rfl) rfl rfl rfl ?_
  refine Run.nil ?_
  refine T_drawS 16 (by kernel_rfl) ?_
  refine Run.one (ok_move rfl rfl) rfl rfl rfl ?_
  refine Run.one (ok_nilCheck_eq rfl rfl) rfl rfl rfl ?_
  refine Run.one (ok_fieldAddr_eq rfl rfl rfl) rfl rfl rfl ?_
  refine Run.one (ok_load_own 0 rfl rfl rfl rfl) rfl rfl rfl ?_
  refine Run.one (ok_move rfl rfl) rfl rfl rfl ?_
  refine Run.one (ok_move rfl rfl) rfl rfl rfl ?_
  refine Run.one (ok_move rfl rfl) rfl rfl rfl ?_
  refine Run.one (ok_nilCheck_eq rfl rfl) rfl rfl rfl ?_
  refine Run.one (ok_fieldAddr_eq rfl rfl rfl) rfl rfl rfl ?_
  refine Run.one (ok_load_own 0 rfl rfl rfl rfl) rfl rfl rfl ?_
  refine Run.one ((ok_len rfl rfl).sub (int_eq (show ((b.length : Nat) : Int) = ((n : Nat) : Int) by omega))) rfl rfl rfl ?_
  refine Run.one (ok_ari (z := ((at' + n : Nat) : Int)) rfl rfl rfl (congrArg some (by omega)) (wrap_i64 (by omega) (by omega))) rfl rfl rfl ?_
  refine Run.one (ok_ari (z := ((at' + n + 1 : Nat) : Int)) rfl rfl rfl (congrArg some (by omega)) (wrap_i64 (by omega) (by omega))) rfl rfl rfl ?_
  refine Run.one ((ok_sliceRow (lo := at') (hi := at' + n + 1) rfl rfl hN rfl rfl rfl rfl (by omega) (by omega)).sub (show ∀ I v, _ → (eqS (.slice (some ⟨bR, at', none⟩) (n + 1) (cR - at'))).den I v from fun I v h => by rw [show n + 1 = at' + n + 1 - at' by omega]; exact h)) rfl rfl rfl ?_
  refine Run.one (ok_assign rfl rfl) rfl rfl rfl ?_
  refine Run.one (ok_assign rfl rfl) rfl rfl rfl ?_
  refine Run.nil ?_
  refine Run.nil ?_
  refine T_regionS ?_
  refine Run.one (ok_assign rfl rfl) rfl rfl rfl ?_
  refine Run.nil ?_
  refine T_seq ?_
  refine T_regionS ?_
  refine Run.one (ok_move rfl rfl) rfl rfl rfl ?_
  refine Run.one (ok_len_eq rfl rfl) rfl rfl rfl ?_
  refine Run.one (ok_move rfl rfl) rfl rfl rfl ?_
  refine Run.nil ?_
  refine T_block ?_
  refine T_loop4 (fun i over under out => ⟨_, [(32, intS .i64 (i : Nat)), (31, intS .i64 (n + 1 : Nat)), (9, intS .u64 (under : Nat)), (8, intS .u64 (over : Nat)), (7, eqS (.slice (some ⟨bR, at', none⟩) (n + 1) (cR - at'))), (2, intS .u64 (t : Nat)), (0, eqS (.pointer (some ⟨bL, 0, none⟩)))], longH bL bR cR R.length out b, [], (0, false)⟩)
      (fun i over under out => i ≤ n + 1 ∧ over < 4294967296 ∧ under ≤ 1 ∧ (i = n + 1 → over = 0) ∧ Lim out ∧ out.length = R.length ∧ (∀ j, j < at' ∨ at' + i ≤ j → limb out j = limb R j) ∧ low (out.drop at') i + t * low b i = low (R.drop at') i + 4294967296 ^ i * (over + under)) (fun i over under out => n + 1 - i)
      0 0 0 R ⟨by omega, by omega, by omega, fun _ => rfl, hR, rfl, fun _ _ => rfl, by simp [low_zero]⟩ (ent_h (subG_cons rfl (subG_cons rfl (subG_cons rfl (subG_cons rfl (subG_cons rfl (subG_cons rfl (subG_cons rfl (trivial)))))))) rfl) ?_
  rintro i over under out ⟨hi, hov, hun, h0, hlo, hln, hk, hval⟩
  refine T_regionS ?_
  refine Run.one (ok_cmp rfl rfl rfl rfl) rfl rfl rfl ?_
  refine Run.nil ?_
  refine T_seq ?_
  refine T_cond rfl rfl (fun h33 => ?_) (fun h33 => ?_)
  · have k33 := of_decide_eq_true h33
    have hp := limb_lt hR (at' + i)
    have hx0 := limb_lt hb i
    obtain ⟨x, hx⟩ : ∃ x, x = limb b i := ⟨_, rfl⟩
    rw [← hx] at hx0
    have hw0 := mul_lt64 hx0 ht hov (show 0 < 4294967296 by omega)
    obtain ⟨w, hw⟩ : ∃ w, w = x * t + over := ⟨_, rfl⟩
    obtain ⟨y, hy⟩ : ∃ y, y = limb R (at' + i) := ⟨_, rfl⟩
    rw [← hy] at hp
    refine T_skip ?_
    refine T_seq ?_
    refine T_block ?_
    refine T_regionS ?_
    refine Run.one (ok_move rfl rfl) rfl rfl rfl ?_
    refine Run.one (ok_assign rfl rfl) rfl rfl rfl ?_
    refine Run.nil ?_
    refine T_regionS ?_
    refine Run.one (ok_assign rfl rfl) rfl rfl rfl ?_
    refine Run.nil ?_
    refine T_seqQ (K := fun S1 => Ent S1 (⟨89, [(11, intS .u64 (x : Nat)), (10, intS .i64 (i : Nat)), (32, intS .i64 (i : Nat)), (31, intS .i64 (n + 1 : Nat)), (9, intS .u64 (under : Nat)), (8, intS .u64 (over : Nat)), (7, eqS (.slice (some ⟨bR, at', none⟩) (n + 1) (cR - at'))), (2, intS .u64 (t : Nat)), (0, eqS (.pointer (some ⟨bL, 0, none⟩)))], longH bL bR cR R.length out b, [], (0, false)⟩)) ?_ ?_
    · refine T_regionS ?_
      refine Run.one (ok_move rfl rfl) rfl rfl rfl ?_
      refine Run.one (ok_move rfl rfl) rfl rfl rfl ?_
      refine Run.one (ok_nilCheck_eq rfl rfl) rfl rfl rfl ?_
      refine Run.one (ok_fieldAddr_eq rfl rfl rfl) rfl rfl rfl ?_
      refine Run.one (ok_load_own 0 rfl rfl rfl rfl) rfl rfl rfl ?_
      refine Run.one ((ok_len rfl rfl).sub (int_eq (show ((b.length : Nat) : Int) = ((n : Nat) : Int) by omega))) rfl rfl rfl ?_
      refine Run.one (ok_cmp rfl rfl rfl rfl) rfl rfl rfl ?_
      refine Run.nil ?_
      refine T_cond rfl rfl (fun h41 => ?_) (fun h41 => ?_)
      · have k41 := of_decide_eq_true h41
        refine T_region ?_
        refine Run.one (ok_move rfl rfl) rfl rfl rfl ?_
        refine Run.one (ok_nilCheck_eq rfl rfl) rfl rfl rfl ?_
        refine Run.one (ok_fieldAddr_eq rfl rfl rfl) rfl rfl rfl ?_
        refine Run.one (ok_load_own 0 rfl rfl rfl rfl) rfl rfl rfl ?_
        refine Run.one (ok_move rfl rfl) rfl rfl rfl ?_
        refine Run.one (ok_indexAddr rfl rfl rfl (by omega) (y := limb b i) (limb_get (by omega))) rfl rfl rfl ?_
        refine Run.one (ok_load rfl rfl) rfl rfl rfl ?_
        have hb1 := limb_lt hb i
        refine Run.one (ok_conv rfl rfl (wrap_u64 (by omega) (by omega))) rfl rfl rfl ?_
        refine Run.one (ok_assign rfl rfl) rfl rfl rfl ?_
        refine Run.nil ?_
        exact ent_g (subG_as rfl (congrArg (intS .u64) (by rw [hx])) (subG_cons rfl (subG_cons rfl (subG_cons rfl (subG_cons rfl (subG_cons rfl (subG_cons rfl (subG_cons rfl (subG_cons rfl (trivial))))))))))
      · have k41 := of_decide_eq_false h41
        refine T_skip ?_
        exact ent_g (subG_as rfl (congrArg (intS .u64) (by rw [hx, limb_out (by omega)]; rfl)) (subG_cons rfl (subG_cons rfl (subG_cons rfl (subG_cons rfl (subG_cons rfl (subG_cons rfl (subG_cons rfl (subG_cons rfl (trivial))))))))))
    · intro S1 hS1
      refine T_pre hS1 ?_
      refine T_regionS ?_
      refine Run.one (ok_move rfl rfl) rfl rfl rfl ?_
      refine Run.one (ok_move rfl rfl) rfl rfl rfl ?_
      refine Run.one (ok_call rfl rfl (mul64_spec (by omega) (by omega))) rfl rfl rfl ?_
      refine Run.one (ok_move rfl rfl) rfl rfl rfl ?_
      refine Run.one ((ok_extract rfl rfl rfl).sub (int_eq (n := 0) (by rw [Nat.div_eq_of_lt (by omega)]; rfl))) rfl rfl rfl ?_
      refine Run.one ((ok_extract rfl rfl rfl).sub (int_eq (n := ((x * t : Nat) : Int)) (by rw [Nat.mod_eq_of_lt (by omega)]))) rfl rfl rfl ?_
      refine Run.one (ok_assign rfl rfl) rfl rfl rfl ?_
      refine Run.one (ok_assign rfl rfl) rfl rfl rfl ?_
      refine Run.nil ?_
      refine T_regionS ?_
      refine Run.one (ok_move rfl rfl) rfl rfl rfl ?_
      refine Run.one (ok_move rfl rfl) rfl rfl rfl ?_
      refine Run.one (ok_add64 (c := 0) Tryz.func140 rfl rfl rfl rfl rfl rfl rfl rfl (by omega)) rfl rfl rfl ?_
      refine Run.one (ok_move rfl rfl) rfl rfl rfl ?_
      refine Run.one ((ok_extract rfl rfl rfl).sub (int_eq (n := ((w : Nat) : Int)) (by rw [Nat.mod_eq_of_lt (by omega), hw, Nat.add_zero]))) rfl rfl rfl ?_
      refine Run.one ((ok_extract rfl rfl rfl).sub (int_eq (n := 0) (by rw [Nat.div_eq_of_lt (by omega)]; rfl))) rfl rfl rfl ?_
      refine Run.one (ok_assign rfl rfl) rfl rfl rfl ?_
      refine Run.one (ok_assign rfl rfl) rfl rfl rfl ?_
      refine Run.nil ?_
      refine T_regionS ?_
      refine Run.one (ok_move rfl rfl) rfl rfl rfl ?_
      refine Run.one (ok_move rfl rfl) rfl rfl rfl ?_
      refine Run.one (ok_ari (z := 0) rfl rfl rfl (congrArg some (by omega)) (wrap_u64 (by omega) (by omega))) rfl rfl rfl ?_
      refine Run.one ((ok_shl rfl rfl rfl (by omega) (by simp [IntKind.bits])).sub (int_eq (n := 0) (by decide))) rfl rfl rfl ?_
      refine Run.one (ok_move rfl rfl) rfl rfl rfl ?_
      refine Run.one ((ok_shr rfl rfl rfl (by omega) (by simp [IntKind.bits])).sub (int_eq (shr32 w))) rfl rfl rfl ?_
      refine Run.one ((ok_bits rfl (by simp) rfl rfl).sub (int_eq (n := ((w / 4294967296 : Nat) : Int)) ((bitI_or (x := 0) (by omega) (by omega)).trans (by rw [Nat.zero_or])))) rfl rfl rfl ?_
      refine Run.one (ok_assign rfl rfl) rfl rfl rfl ?_
      refine Run.nil ?_
      refine T_regionS ?_
      refine Run.one (ok_move rfl rfl) rfl rfl rfl ?_
      refine Run.one (ok_move rfl rfl) rfl rfl rfl ?_
      refine Run.one (ok_indexAddr_eq (q := at' + i) rfl rfl rfl (by omega) (by omega) (by simp)) rfl rfl rfl ?_
      refine Run.one ((ok_loadRow 1 rfl rfl rfl (by omega)).sub (int_eq (n := ((y : Nat) : Int)) (by rw [hy, hk _ (.inr (Nat.le_refl _))]))) rfl rfl rfl ?_
      refine Run.one (ok_conv rfl rfl (wrap_u64 (by omega) (by omega))) rfl rfl rfl ?_
      refine Run.one (ok_move rfl rfl) rfl rfl rfl ?_
      refine Run.one ((ok_bits rfl (by simp) rfl rfl).sub (int_eq (n := ((w % 4294967296 : Nat) : Int)) ((bitI_and (y := 4294967295) (by omega) (by omega)).trans (by rw [and_mask])))) rfl rfl rfl ?_
      refine Run.one (ok_ari_wrap rfl rfl rfl rfl) rfl rfl rfl ?_
      refine Run.one (ok_move rfl rfl) rfl rfl rfl ?_
      refine Run.one ((ok_ari_wrap rfl rfl rfl rfl).sub (int_eq (show _ = ((sb y (w % 4294967296) under : Nat) : Int) by rw [wrap_u64_mod, wrap_u64_mod]; unfold sb; split <;> omega))) rfl rfl rfl ?_
      refine Run.one (ok_assign rfl rfl) rfl rfl rfl ?_
      refine Run.nil ?_
      refine T_region ?_
      refine Run.one (ok_move rfl rfl) rfl rfl rfl ?_
      refine Run.one (ok_move rfl rfl) rfl rfl rfl ?_
      refine Run.one (ok_move rfl rfl) rfl rfl rfl ?_
      refine Run.one (ok_conv (z := ((sb y (w % 4294967296) under % 4294967296 : Nat) : Int)) rfl rfl wrap_u32_mod) rfl rfl rfl ?_
      refine Run.one (ok_move rfl rfl) rfl rfl rfl ?_
      refine Run.one ((ok_shr rfl rfl rfl (by omega) (by simp [IntKind.bits])).sub (int_eq (shr63 _))) rfl rfl rfl ?_
      refine Run.one (ok_indexAddr_eq (q := at' + i) rfl rfl rfl (by omega) (by omega) (by simp)) rfl rfl rfl ?_
      refine Run.storeRow 1 rfl rfl rfl rfl rfl (by omega) rfl rfl ?_
      refine Run.one (ok_assign rfl rfl) rfl rfl rfl ?_
      refine Run.nil ?_
      refine T_region ?_
      refine Run.one (ok_ari (z := ((i + 1 : Nat) : Int)) rfl rfl rfl (congrArg some (by omega)) (wrap_i64 (by omega) (by omega))) rfl rfl rfl ?_
      refine Run.one (ok_move rfl rfl) rfl rfl rfl ?_
      refine Run.nil ?_
      obtain ⟨hs1, hs2⟩ := sb_split (x := y) (y := w % 4294967296) (u := under) hp (by omega) hun
      refine ⟨i + 1, w / 4294967296, sb y (w % 4294967296) under / 9223372036854775808, out.set (at' + i) (sb y (w % 4294967296) under % 4294967296), ⟨by omega, by omega, hs2, fun h => ?_, lim_set hlo (by omega), by rw [List.length_set]; exact hln, fun j hj => by rw [limb_set_ne (by omega)]; exact hk j (by omega), ?_⟩, by omega, ent_h (subG_cons rfl (subG_cons rfl (subG_cons rfl (subG_cons rfl (subG_cons rfl (subG_cons rfl (subG_cons rfl (trivial)))))))) rfl⟩
      · have : x = 0 := by rw [hx, limb_out (by omega)]
        rw [hw, this]; omega
      · rw [low_succ, low_succ, low_succ, low_set_ge, drop_limb, limb_set_eq (by omega), drop_limb, pow_split, ← hx, ← hy]
        exact less_step (y := 0) hval (by rw [← hw]; exact Nat.mod_add_div w 4294967296) hs1 rfl
  · have k33 := of_decide_eq_false h33
    have hie : i = n + 1 := by omega
    have hov0 := h0 hie
    rw [hie, hov0, Nat.zero_add, low_all (l := b) (by omega)] at hval
    refine T_exit ?_
    refine T_regionS ?_
    refine Run.one (ok_move rfl rfl) rfl rfl rfl ?_
    refine Run.one ((ok_cmp rfl rfl rfl rfl).sub (bool_eq (c := decide (under = 0)) (by rcases Nat.lt_or_ge 0 under with h | h; rw [decide_eq_false (by omega)]; exact beq_eq_false_iff_ne.2 (by omega); rw [decide_eq_true (by omega)]; exact beq_iff_eq.2 (by omega)))) rfl rfl rfl ?_
    refine Run.one (ok_assign rfl rfl) rfl rfl rfl ?_
    refine Run.nil ?_
    refine T_ret ?_
    exact ⟨_, _, .one (.tmp rfl), List.Sublist.refl _, out, under, hun, rfl, hlo, hln, fun j hj => hk j (by omega), hval, rfl⟩
theorem more_spec {R b : List Nat} {bL bR cR at' n : Nat} {N : Nat} (hlN : R.length = N) (hR : Lim R) (hb : Lim b) (hn : b.length = n) (hat : at' + n < N) (hs : N ≤ cap) : CallSpec Tryz.prog G 137 [eqS (.pointer (some ⟨bL, 0, none⟩)), intS .i64 (at' : Nat)] (longH bL bR cR N R b) (fun s H' => ∃ out c, c ≤ 1 ∧ s = boolS (decide (0 < c)) ∧ Lim out ∧ out.length = N ∧ (∀ j, j < at' ∨ at' + (n + 1) ≤ j → limb out j = limb R j) ∧ low (out.drop at') (n + 1) + bpow (n + 1) * c = low (R.drop at') (n + 1) + val b ∧ H' = longH bL bR cR N out b) := by
  subst hlN
  unfold cap at hs
  refine fn_spec Tryz.func137 rfl rfl rfl ?_
  refine T_regionS ?_
  refine Run.one (ok_assign rfl rfl) rfl rfl rfl ?_
  refine Run.nil ?_
  refine T_regionS ?_
  refine Run.one (ok_assign rfl rfl) rfl rfl rfl ?_
  refine Run.nil ?_
  refine T_seq ?_
  refine T_regionS ?_
  refine Run.one (ok_move rfl rfl) rfl rfl rfl ?_
  refine Run.one (ok_nilCheck_eq rfl rfl) rfl rfl rfl ?_
  refine Run.one (ok_fieldAddr_eq rfl rfl rfl) rfl rfl rfl ?_
  refine Run.one (ok_load_own 0 rfl rfl rfl rfl) rfl rfl rfl ?_
  refine Run.one ((ok_len rfl rfl).sub (int_eq (show ((b.length : Nat) : Int) = ((n : Nat) : Int) by omega))) rfl rfl rfl ?_
  refine Run.one (ok_ari (z := ((n + 1 : Nat) : Int)) rfl rfl rfl (congrArg some (by omega)) (wrap_i64 (by omega) (by omega))) rfl rfl rfl ?_
  refine Run.one (ok_move rfl rfl) rfl rfl rfl ?_
  refine Run.nil ?_
  refine T_block ?_
  refine T_loop3 (fun i over out => ⟨_, [(13, intS .i64 (i : Nat)), (12, intS .i64 (n + 1 : Nat)), (5, intS .u64 (over : Nat)), (1, intS .i64 (at' : Nat)), (0, eqS (.pointer (some ⟨bL, 0, none⟩)))], longH bL bR cR R.length out b, [], (0, false)⟩)
      (fun i over out => i ≤ n + 1 ∧ over ≤ 1 ∧ Lim out ∧ out.length = R.length ∧ (∀ j, j < at' ∨ at' + i ≤ j → limb out j = limb R j) ∧ low (out.drop at') i + 4294967296 ^ i * over = low (R.drop at') i + low b i) (fun i over out => n + 1 - i)
      0 0 R ⟨by omega, by omega, hR, rfl, fun _ _ => rfl, by simp [low_zero]⟩ (ent_h (subG_cons rfl (subG_cons rfl (subG_cons rfl (subG_cons rfl (subG_cons rfl (trivial)))))) rfl) ?_
  rintro i over out ⟨hi, hov, hlo, hln, hk, hval⟩
  refine T_regionS ?_
  refine Run.one (ok_cmp rfl rfl rfl rfl) rfl rfl rfl ?_
  refine Run.nil ?_
  refine T_seq ?_
  refine T_cond rfl rfl (fun h14 => ?_) (fun h14 => ?_)
  · have k14 := of_decide_eq_true h14
    have hp := limb_lt hR (at' + i)
    have hx0 := limb_lt hb i
    obtain ⟨x, hx⟩ : ∃ x, x = limb b i := ⟨_, rfl⟩
    rw [← hx] at hx0
    obtain ⟨y, hy⟩ : ∃ y, y = limb R (at' + i) := ⟨_, rfl⟩
    rw [← hy] at hp
    refine T_skip ?_
    refine T_seq ?_
    refine T_block ?_
    refine T_regionS ?_
    refine Run.one (ok_move rfl rfl) rfl rfl rfl ?_
    refine Run.one (ok_assign rfl rfl) rfl rfl rfl ?_
    refine Run.nil ?_
    refine T_seqQ (K := fun S1 => Ent S1 (⟨60, [(5, intS .u64 (over + x : Nat)), (6, intS .i64 (i : Nat)), (13, intS .i64 (i : Nat)), (12, intS .i64 (n + 1 : Nat)), (1, intS .i64 (at' : Nat)), (0, eqS (.pointer (some ⟨bL, 0, none⟩)))], longH bL bR cR R.length out b, [], (0, false)⟩)) ?_ ?_
    · refine T_regionS ?_
      refine Run.one (ok_move rfl rfl) rfl rfl rfl ?_
      refine Run.one (ok_move rfl rfl) rfl rfl rfl ?_
      refine Run.one (ok_nilCheck_eq rfl rfl) rfl rfl rfl ?_
      refine Run.one (ok_fieldAddr_eq rfl rfl rfl) rfl rfl rfl ?_
      refine Run.one (ok_load_own 0 rfl rfl rfl rfl) rfl rfl rfl ?_
      refine Run.one ((ok_len rfl rfl).sub (int_eq (show ((b.length : Nat) : Int) = ((n : Nat) : Int) by omega))) rfl rfl rfl ?_
      refine Run.one (ok_cmp rfl rfl rfl rfl) rfl rfl rfl ?_
      refine Run.nil ?_
      refine T_cond rfl rfl (fun h22 => ?_) (fun h22 => ?_)
      · have k22 := of_decide_eq_true h22
        refine T_region ?_
        refine Run.one (ok_move rfl rfl) rfl rfl rfl ?_
        refine Run.one (ok_move rfl rfl) rfl rfl rfl ?_
        refine Run.one (ok_nilCheck_eq rfl rfl) rfl rfl rfl ?_
        refine Run.one (ok_fieldAddr_eq rfl rfl rfl) rfl rfl rfl ?_
        refine Run.one (ok_load_own 0 rfl rfl rfl rfl) rfl rfl rfl ?_
        refine Run.one (ok_move rfl rfl) rfl rfl rfl ?_
        refine Run.one (ok_indexAddr rfl rfl rfl (by omega) (y := limb b i) (limb_get (by omega))) rfl rfl rfl ?_
        refine Run.one ((ok_load rfl rfl).sub (int_eq (n := ((x : Nat) : Int)) (by rw [hx]))) rfl rfl rfl ?_
        refine Run.one (ok_conv rfl rfl (wrap_u64 (by omega) (by omega))) rfl rfl rfl ?_
        refine Run.one (ok_ari (z := ((over + x : Nat) : Int)) rfl rfl rfl (congrArg some (by omega)) (wrap_u64 (by omega) (by omega))) rfl rfl rfl ?_
        refine Run.one (ok_assign rfl rfl) rfl rfl rfl ?_
        refine Run.nil ?_
        exact ent_g (subG_cons rfl (subG_cons rfl (subG_cons rfl (subG_cons rfl (subG_cons rfl (subG_cons rfl (trivial)))))))
      · have k22 := of_decide_eq_false h22
        refine T_skip ?_
        exact ent_g (subG_as rfl (congrArg (intS .u64) (by rw [hx, limb_out (by omega)]; rfl)) (subG_cons rfl (subG_cons rfl (subG_cons rfl (subG_cons rfl (subG_cons rfl (trivial)))))))
    · intro S1 hS1
      refine T_pre hS1 ?_
      refine T_regionS ?_
      refine Run.one (ok_move rfl rfl) rfl rfl rfl ?_
      refine Run.one (ok_move rfl rfl) rfl rfl rfl ?_
      refine Run.one (ok_nilCheck_eq rfl rfl) rfl rfl rfl ?_
      refine Run.one (ok_fieldAddr_eq rfl rfl rfl) rfl rfl rfl ?_
      refine Run.one (ok_load_own 0 rfl rfl rfl rfl) rfl rfl rfl ?_
      refine Run.one (ok_move rfl rfl) rfl rfl rfl ?_
      refine Run.one (ok_move rfl rfl) rfl rfl rfl ?_
      refine Run.one (ok_ari (z := ((at' + i : Nat) : Int)) rfl rfl rfl (congrArg some (by omega)) (wrap_i64 (by omega) (by omega))) rfl rfl rfl ?_
      refine Run.one (ok_indexRow (i := at' + i) rfl rfl rfl (by omega)) rfl rfl rfl ?_
      refine Run.one ((ok_loadRow 1 rfl rfl rfl (by omega)).sub (int_eq (n := ((y : Nat) : Int)) (by rw [hy, hk _ (.inr (Nat.le_refl _))]))) rfl rfl rfl ?_
      refine Run.one (ok_conv rfl rfl (wrap_u64 (by omega) (by omega))) rfl rfl rfl ?_
      refine Run.one (ok_ari (z := ((over + x + y : Nat) : Int)) rfl rfl rfl (congrArg some (by omega)) (wrap_u64 (by omega) (by omega))) rfl rfl rfl ?_
      refine Run.one (ok_assign rfl rfl) rfl rfl rfl ?_
      refine Run.nil ?_
      refine T_regionS ?_
      refine Run.one (ok_move rfl rfl) rfl rfl rfl ?_
      refine Run.one (ok_nilCheck_eq rfl rfl) rfl rfl rfl ?_
      refine Run.one (ok_fieldAddr_eq rfl rfl rfl) rfl rfl rfl ?_
      refine Run.one (ok_load_own 0 rfl rfl rfl rfl) rfl rfl rfl ?_
      refine Run.one (ok_move rfl rfl) rfl rfl rfl ?_
      refine Run.one (ok_move rfl rfl) rfl rfl rfl ?_
      refine Run.one (ok_ari (z := ((at' + i : Nat) : Int)) rfl rfl rfl (congrArg some (by omega)) (wrap_i64 (by omega) (by omega))) rfl rfl rfl ?_
      refine Run.one (ok_move rfl rfl) rfl rfl rfl ?_
      refine Run.one (ok_conv (z := (((over + x + y) % 4294967296 : Nat) : Int)) rfl rfl wrap_u32_mod) rfl rfl rfl ?_
      refine Run.one (ok_indexRow (i := at' + i) rfl rfl rfl (by omega)) rfl rfl rfl ?_
      refine Run.storeRow 1 rfl rfl rfl rfl rfl (by omega) rfl rfl ?_
      refine Run.nil ?_
      refine T_region ?_
      refine Run.one (ok_move rfl rfl) rfl rfl rfl ?_
      refine Run.one ((ok_shr rfl rfl rfl (by omega) (by simp [IntKind.bits])).sub (int_eq (shr32 _))) rfl rfl rfl ?_
      refine Run.one (ok_assign rfl rfl) rfl rfl rfl ?_
      refine Run.nil ?_
      refine T_region ?_
      refine Run.one (ok_ari (z := ((i + 1 : Nat) : Int)) rfl rfl rfl (congrArg some (by omega)) (wrap_i64 (by omega) (by omega))) rfl rfl rfl ?_
      refine Run.one (ok_move rfl rfl) rfl rfl rfl ?_
      refine Run.nil ?_
      refine ⟨i + 1, (over + x + y) / 4294967296, out.set (at' + i) ((over + x + y) % 4294967296), ⟨by omega, by omega, lim_set hlo (by omega), by rw [List.length_set]; exact hln, fun j hj => by rw [limb_set_ne (by omega)]; exact hk j (by omega), ?_⟩, by omega, ent_h (subG_cons rfl (subG_cons rfl (subG_cons rfl (subG_cons rfl (subG_cons rfl (trivial)))))) rfl⟩
      rw [low_succ, low_succ, low_succ, low_set_ge, drop_limb, limb_set_eq (by omega), drop_limb, pow_split, ← hx, ← hy]
      exact more_step hval
  · have k14 := of_decide_eq_false h14
    have hie : i = n + 1 := by omega
    rw [hie, low_all (l := b) (by omega)] at hval
    refine T_exit ?_
    refine T_regionS ?_
    refine Run.one (ok_move rfl rfl) rfl rfl rfl ?_
    refine Run.one ((ok_cmp rfl rfl rfl rfl).sub (bool_eq (c := decide (0 < over)) (decide_eq_decide.2 (by omega)))) rfl rfl rfl ?_
    refine Run.one (ok_assign rfl rfl) rfl rfl rfl ?_
    refine Run.nil ?_
    refine T_ret ?_
    exact ⟨_, _, .one (.tmp rfl), List.Sublist.refl _, out, over, hov, rfl, hlo, hln, fun j hj => hk j (by omega), hval, rfl⟩
end Go.Proofs
