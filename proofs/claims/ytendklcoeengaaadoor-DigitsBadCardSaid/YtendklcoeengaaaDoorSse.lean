/- straitlaw06: what the document says of four texts; the laws DigitsOrder, DigitsParts, on the facts. -/
import Derived.Test.YtendklcoeengaaaDoorSsd
namespace Go.Proofs
open Go Go.Sv Num
variable {G : Imm}
theorem wk_parse : PSpec Tryd.prog G 8 [strS [48, 48, 55]] (tupS [natS [7], intS .i64 0]) := by
  have h := parse_spec (G := G) (l := [48, 48, 55])
  rw [show pvD [48, 48, 55] = 7 by decide, show peD [48, 48, 55] = 0 by decide, show dig 7 = [7] by rw [dig_pos (by decide), show 7 / 4294967296 = 0 from rfl, dig_zero]] at h
  exact h
theorem wk_int0 : PSpec Tryd.prog G 9 [strS [45, 48]] (tupS [aggS [boolS false, natS []], intS .i64 0]) := by
  have h := parseInt_spec (G := G) (l := [45, 48])
  rw [show Lib.trimPrefix [45, 48] [45] = [48] by decide, show pvD [48] = 0 by decide, show peD [48] = 0 by decide, show (Lib.hasPrefix [45, 48] [45] && decide (0 < 0)) = false by decide, dig_zero] at h
  exact h
theorem wk_int1 : PSpec Tryd.prog G 9 [strS [43, 49]] (tupS [aggS [boolS false, natS []], intS .i64 60]) := by
  have h := parseInt_spec (G := G) (l := [43, 49])
  rw [show Lib.trimPrefix [43, 49] [45] = [43, 49] by decide, show pvD [43, 49] = 0 by decide, show peD [43, 49] = 60 by decide, show (Lib.hasPrefix [43, 49] [45] && decide (0 < 0)) = false by decide, dig_zero] at h
  exact h
instance isNat_bas : IsNat [0, 1] 4294967296 := ⟨lim_cons (by decide) (lim_cons (by decide) lim_nil), rfl⟩
instance sz_bas : Sz [0, 1] 2 := ⟨by decide⟩
theorem wk_text [Tab10 G] : PSpec Tryd.prog G 10 [slS 1 id [u32S 0, u32S 1]] (strS [52, 50, 57, 52, 57, 54, 55, 50, 57, 54]) := by
  have h := (text_spec (G := G) (l := [0, 1]) (k := 2) (by decide)).args (args' := [slS 1 id [u32S 0, u32S 1]]) ⟨fun I v h => natLit (l := [0, 1]) I v h, trivial⟩
  rw [show dec 4294967296 = [52, 50, 57, 52, 57, 54, 55, 50, 57, 54] by rw [show (4294967296 : Nat) = valD [52, 50, 57, 52, 57, 54, 55, 50, 57, 54] by decide]; exact dec_valD (by decide)] at h
  exact h
theorem tri_nat {m n : Nat} : (tri m n < 0 ↔ m < n) ∧ (tri m n = 0 ↔ m = n) := by
  unfold tri
  split <;> (try split) <;> constructor <;> constructor <;> intro h <;> first | omega | (exfalso; omega) | decide | rfl
theorem sz_of {l : List Nat} {k : Nat} (h : l.length ≤ k) : Sz l k := ⟨h⟩
theorem val_bd {l : List Nat} {k : Nat} (h : Lim l) (hk : l.length ≤ k) : Bd (val l) k := ⟨Nat.lt_of_lt_of_le (val_lt h) (Nat.pow_le_pow_right (by decide) hk)⟩
theorem get_dec {n : Nat} (h : n ≠ 0) : ∃ c, (dec n)[0]? = some c ∧ c ≠ 48 := by
  obtain ⟨c, r, h1, h2⟩ := dec_head h
  exact ⟨c, by show (Lib.decDigits n)[0]? = _; rw [h1]; rfl, h2⟩
theorem u8_ne {c : UInt8} (h : c ≠ 48) : ((c.toNat : Nat) : Int) ≠ 48 := fun e => h (UInt8.toNat_inj.1 (show c.toNat = (48 : UInt8).toNat by show c.toNat = 48; omega))
theorem parse_parts {m k : Nat} (hm : Lib.nDigits m ≤ 57) (hk : k < 1000) : PSpec Tryd.prog G 8 [strS (dec m ++ pd 3 k)] (tupS [natS (dig (m * 1000 + k)), intS .i64 0]) := by
  have h := parse_spec (G := G) (l := dec m ++ pd 3 k)
  have ho := peD_ok (l := dec m ++ pd 3 k) (okD_of (fun h => dec_ne m (List.append_eq_nil_iff.1 h).1) (by rw [List.length_append, dec_len, pd_length]; omega) (by rw [List.all_append, dec_all, all_pd]; rfl))
  rw [ho.1, ho.2, valD_append, valD_dec, pd_length, valD_pd 3 k hk] at h
  exact h
theorem wakes6_spec [Tab10 G] : PSpec Tryd.prog G 7 [] (boolS true) := by
  refine fn_spec Tryd.func7 rfl rfl rfl ?_
  refine T_regionS ?_
  refine Run.one (ok_assign rfl rfl) rfl rfl rfl ?_
  refine Run.nil ?_
  refine T_regionS ?_
  refine Run.one (ok_call rfl rfl wk_parse) rfl rfl rfl ?_
  refine Run.one (ok_move rfl rfl) rfl rfl rfl ?_
  refine Run.one (ok_extract rfl rfl rfl) rfl rfl rfl ?_
  refine Run.one (ok_extract rfl rfl rfl) rfl rfl rfl ?_
  refine Run.one (ok_assign rfl rfl) rfl rfl rfl ?_
  refine Run.one (ok_assign rfl rfl) rfl rfl rfl ?_
  refine Run.nil ?_
  refine T_regionS ?_
  refine Run.one (ok_call rfl rfl wk_int0) rfl rfl rfl ?_
  refine Run.one (ok_move rfl rfl) rfl rfl rfl ?_
  refine Run.one (ok_extract rfl rfl rfl) rfl rfl rfl ?_
  refine Run.one (ok_extract rfl rfl rfl) rfl rfl rfl ?_
  refine Run.alloc rfl rfl rfl rfl rfl fun b3 => ?_
  refine Run.store 0 rfl rfl rfl rfl rfl rfl rfl rfl rfl ?_
  refine Run.one (ok_assign rfl rfl) rfl rfl rfl ?_
  refine Run.nil ?_
  refine T_regionS ?_
  refine Run.one (ok_call rfl rfl wk_int1) rfl rfl rfl ?_
  refine Run.one (ok_move rfl rfl) rfl rfl rfl ?_
  refine Run.one (ok_extract rfl rfl rfl) rfl rfl rfl ?_
  refine Run.one (ok_extract rfl rfl rfl) rfl rfl rfl ?_
  refine Run.alloc rfl rfl rfl rfl rfl fun b5 => ?_
  refine Run.store 0 rfl rfl rfl rfl rfl rfl rfl rfl rfl ?_
  refine Run.one (ok_assign rfl rfl) rfl rfl rfl ?_
  refine Run.nil ?_
  refine T_regionS ?_
  refine Run.one (ok_buildSlice rfl rfl (by decide) rfl (by simp) rfl rfl) rfl rfl rfl ?_
  refine Run.one (ok_call rfl rfl wk_text) rfl rfl rfl ?_
  refine Run.one ((ok_cmp_str rfl rfl rfl rfl).sub (bool_eq (c := true) (rfl))) rfl rfl rfl ?_
  refine Run.one (ok_move rfl rfl) rfl rfl rfl ?_
  refine Run.one (ok_move rfl rfl) (gB rfl rfl rfl rfl) rfl rfl ?_
  refine Run.one ((ok_cmp rfl rfl rfl rfl).sub (bool_eq (c := true) (rfl))) (gB rfl rfl rfl rfl) rfl rfl ?_
  refine Run.one (ok_pick rfl rfl rfl) rfl rfl rfl ?_
  refine Run.one (ok_move rfl rfl) rfl rfl rfl ?_
  refine Run.one (ok_move rfl rfl) (gB rfl rfl rfl rfl) rfl rfl ?_
  refine Run.one (ok_len rfl rfl) (gB rfl rfl rfl rfl) rfl rfl ?_
  refine Run.one ((ok_cmp rfl rfl rfl rfl).sub (bool_eq (c := true) (rfl))) (gB rfl rfl rfl rfl) rfl rfl ?_
  refine Run.one (ok_pick rfl rfl rfl) rfl rfl rfl ?_
  refine Run.one (ok_move rfl rfl) rfl rfl rfl ?_
  refine Run.one (ok_move rfl rfl) (gB rfl rfl rfl rfl) rfl rfl ?_
  refine Run.one (ok_indexAddr rfl rfl rfl (by omega) (y := (7 : Nat)) (rfl)) (gB rfl rfl rfl rfl) rfl rfl ?_
  refine Run.one (ok_load rfl rfl) (gB rfl rfl rfl rfl) rfl rfl ?_
  refine Run.one ((ok_cmp rfl rfl rfl rfl).sub (bool_eq (c := true) (rfl))) (gB rfl rfl rfl rfl) rfl rfl ?_
  refine Run.one (ok_pick rfl rfl rfl) rfl rfl rfl ?_
  refine Run.one (ok_move rfl rfl) rfl rfl rfl ?_
  refine Run.one (ok_move rfl rfl) (gB rfl rfl rfl rfl) rfl rfl ?_
  refine Run.one ((ok_cmp rfl rfl rfl rfl).sub (bool_eq (c := true) (rfl))) (gB rfl rfl rfl rfl) rfl rfl ?_
  refine Run.one (ok_pick rfl rfl rfl) rfl rfl rfl ?_
  refine Run.one (ok_move rfl rfl) rfl rfl rfl ?_
  refine Run.one (ok_fieldAddr_eq rfl rfl rfl) (gB rfl rfl rfl rfl) rfl rfl ?_
  refine Run.one (ok_load_own 1 rfl rfl rfl rfl) (gB rfl rfl rfl rfl) rfl rfl ?_
  refine Run.one (ok_len rfl rfl) (gB rfl rfl rfl rfl) rfl rfl ?_
  refine Run.one ((ok_cmp rfl rfl rfl rfl).sub (bool_eq (c := true) (rfl))) (gB rfl rfl rfl rfl) rfl rfl ?_
  refine Run.one (ok_pick rfl rfl rfl) rfl rfl rfl ?_
  refine Run.one (ok_move rfl rfl) rfl rfl rfl ?_
  refine Run.one (ok_fieldAddr_eq rfl rfl rfl) (gB rfl rfl rfl rfl) rfl rfl ?_
  refine Run.one (ok_load_own 1 rfl rfl rfl rfl) (gB rfl rfl rfl rfl) rfl rfl ?_
  refine Run.one (ok_not rfl rfl) (gB rfl rfl rfl rfl) rfl rfl ?_
  refine Run.one (ok_pick rfl rfl rfl) rfl rfl rfl ?_
  refine Run.one (ok_move rfl rfl) rfl rfl rfl ?_
  refine Run.one (ok_move rfl rfl) (gB rfl rfl rfl rfl) rfl rfl ?_
  refine Run.one ((ok_cmp rfl rfl rfl rfl).sub (bool_eq (c := true) (rfl))) (gB rfl rfl rfl rfl) rfl rfl ?_
  refine Run.one (ok_pick rfl rfl rfl) rfl rfl rfl ?_
  refine Run.one (ok_assign rfl rfl) rfl rfl rfl ?_
  refine Run.nil ?_
  refine T_ret ?_
  exact ⟨_, [], .one (.tmp rfl), List.nil_sublist _, rfl, rfl⟩
theorem digitsOrder_spec [Tab10 G] {a b : List Nat} (ha : Lim a) (hb : Lim b) : PSpec Tryd.prog G 4 [natS a, natS b] (boolS true) := by
  refine fn_spec Tryd.func4 rfl rfl rfl ?_
  refine T_regionS ?_
  refine Run.one (ok_assign rfl rfl) rfl rfl rfl ?_
  refine Run.nil ?_
  refine T_seq ?_
  refine T_regionS ?_
  refine Run.one (ok_move rfl rfl) rfl rfl rfl ?_
  refine Run.one (ok_len rfl rfl) rfl rfl rfl ?_
  refine Run.one (ok_move rfl rfl) rfl rfl rfl ?_
  refine Run.one (ok_len rfl rfl) rfl rfl rfl ?_
  refine Run.one (ok_max rfl rfl rfl) rfl rfl rfl ?_
  refine Run.one (ok_cmp rfl rfl rfl rfl) rfl rfl rfl ?_
  refine Run.nil ?_
  refine T_cond rfl rfl (fun h14 => ?_) (fun h14 => ?_)
  · have k14 := of_decide_eq_true h14
    refine T_regionS ?_
    refine Run.one (ok_call rfl rfl wakes6_spec) rfl rfl rfl ?_
    refine Run.one (ok_assign rfl rfl) rfl rfl rfl ?_
    refine Run.nil ?_
    refine T_ret ?_
    exact ⟨_, [], .one (.tmp rfl), List.nil_sublist _, rfl, rfl⟩
  · have k14 := of_decide_eq_false h14
    obtain ⟨m, hm⟩ : ∃ m, m = val a := ⟨_, rfl⟩
    obtain ⟨n, hn⟩ : ∃ n, n = val b := ⟨_, rfl⟩
    have i1 : IsNat a m := ⟨ha, hm.symm⟩
    have i2 : IsNat b n := ⟨hb, hn.symm⟩
    have i3 : Sz a 8 := sz_of (by omega)
    have i4 : Sz b 8 := sz_of (by omega)
    have i5 : Bd m 8 := hm ▸ val_bd ha (by omega)
    have i6 : Bd n 8 := hn ▸ val_bd hb (by omega)
    have i7 : Bd 10 1 := ⟨by decide⟩
    have i8 := isNat_lit (d := 10) (by decide)
    refine T_skip ?_
    refine T_regionS ?_
    refine Run.one (ok_move rfl rfl) rfl rfl rfl ?_
    refine Run.one (ok_call rfl rfl (text_spec (k := 8) (by decide))) rfl rfl rfl ?_
    refine Run.one (ok_move rfl rfl) rfl rfl rfl ?_
    refine Run.one (ok_call rfl rfl (text_spec (k := 8) (by decide))) rfl rfl rfl ?_
    refine Run.one (ok_assign rfl rfl) rfl rfl rfl ?_
    refine Run.one (ok_assign rfl rfl) rfl rfl rfl ?_
    refine Run.nil ?_
    refine T_regionS ?_
    refine Run.one (ok_move rfl rfl) rfl rfl rfl ?_
    refine Run.one ((ok_len_str rfl rfl).sub (int_eq (n := ((Lib.nDigits m : Nat) : Int)) (by rw [dec_len]))) rfl rfl rfl ?_
    refine Run.one (ok_move rfl rfl) rfl rfl rfl ?_
    refine Run.one ((ok_len_str rfl rfl).sub (int_eq (n := ((Lib.nDigits n : Nat) : Int)) (by rw [dec_len]))) rfl rfl rfl ?_
    refine Run.oneB (ok_cmp rfl rfl rfl rfl) rfl rfl rfl (fun h4_4 => ?_) (fun h4_4 => ?_)
    · have k4_4 := of_decide_eq_true h4_4
      refine Run.one (ok_move rfl rfl) rfl rfl rfl ?_
      refine Run.no (gB rfl rfl rfl rfl) rfl rfl ?_
      refine Run.no (gB rfl rfl rfl rfl) rfl rfl ?_
      refine Run.no (gB rfl rfl rfl rfl) rfl rfl ?_
      refine Run.no (gB rfl rfl rfl rfl) rfl rfl ?_
      refine Run.no (gB rfl rfl rfl rfl) rfl rfl ?_
      refine Run.no (gB rfl rfl rfl rfl) rfl rfl ?_
      refine Run.no (gU rfl rfl rfl) rfl rfl ?_
      refine Run.no (gU rfl rfl rfl) rfl rfl ?_
      refine Run.no (gU rfl rfl rfl) rfl rfl ?_
      refine Run.no (gB rfl rfl rfl rfl) rfl rfl ?_
      refine Run.one ((ok_pick rfl rfl rfl).sub (bool_eq (c := decide (m < n)) (by first | exact (decide_eq_true (nDigits_lt (by omega))).symm | exact less_dec _ _ (by omega) | exact (decide_eq_false (by have := nDigits_lt (m := n) (n := m) (by omega); omega)).symm))) rfl rfl rfl ?_
      refine Run.one (ok_assign rfl rfl) rfl rfl rfl ?_
      refine Run.nil ?_
      refine T_seq ?_
      refine T_regionS ?_
      refine Run.one (ok_move rfl rfl) rfl rfl rfl ?_
      refine Run.one (ok_move rfl rfl) rfl rfl rfl ?_
      refine Run.one (ok_move rfl rfl) rfl rfl rfl ?_
      refine Run.one (ok_call rfl rfl rcmp_spec) rfl rfl rfl ?_
      refine Run.one ((ok_cmp rfl rfl rfl rfl).sub (bool_eq (c := decide (m < n)) (decide_eq_decide.2 tri_nat.1))) rfl rfl rfl ?_
      refine Run.one ((ok_neq_bool rfl rfl rfl Tryd.isBool4).sub (bool_eq (c := false) (by simp))) rfl rfl rfl ?_
      refine Run.one (ok_move rfl rfl) rfl rfl rfl ?_
      refine Run.one (ok_move rfl rfl) (gB rfl rfl rfl rfl) rfl rfl ?_
      refine Run.one (ok_move rfl rfl) (gB rfl rfl rfl rfl) rfl rfl ?_
      refine Run.one ((ok_cmp_str rfl rfl rfl rfl).sub (bool_eq (c := decide (m = n)) (by by_cases h : m = n; subst h; simp; rw [decide_eq_false h]; exact beq_eq_false_iff_ne.2 fun e => h (dec_inj.1 e)))) (gB rfl rfl rfl rfl) rfl rfl ?_
      refine Run.one (ok_move rfl rfl) (gB rfl rfl rfl rfl) rfl rfl ?_
      refine Run.one (ok_move rfl rfl) (gB rfl rfl rfl rfl) rfl rfl ?_
      refine Run.one (ok_call rfl rfl rcmp_spec) (gB rfl rfl rfl rfl) rfl rfl ?_
      refine Run.one ((ok_cmp rfl rfl rfl rfl).sub (bool_eq (c := decide (m = n)) (decide_eq_decide.2 tri_nat.2))) (gB rfl rfl rfl rfl) rfl rfl ?_
      refine Run.one ((ok_neq_bool rfl rfl rfl Tryd.isBool4).sub (bool_eq (c := false) (by simp))) (gB rfl rfl rfl rfl) rfl rfl ?_
      refine Run.one (ok_pick rfl rfl rfl) rfl rfl rfl ?_
      refine Run.one (ok_move rfl rfl) rfl rfl rfl ?_
      refine Run.one (ok_move rfl rfl) (gB rfl rfl rfl rfl) rfl rfl ?_
      refine Run.one (ok_call rfl rfl (dcount_spec (k := 8) (by decide))) (gB rfl rfl rfl rfl) rfl rfl ?_
      refine Run.one (ok_move rfl rfl) (gB rfl rfl rfl rfl) rfl rfl ?_
      refine Run.one ((ok_len_str rfl rfl).sub (int_eq (n := ((Lib.nDigits m : Nat) : Int)) (by rw [dec_len]))) (gB rfl rfl rfl rfl) rfl rfl ?_
      refine Run.one ((ok_cmp rfl rfl rfl rfl).sub (bool_eq (c := false) (by simp))) (gB rfl rfl rfl rfl) rfl rfl ?_
      refine Run.one (ok_pick rfl rfl rfl) rfl rfl rfl ?_
      refine Run.nil ?_
      refine T_condF rfl rfl ?_
      refine T_skip ?_
      refine T_regionS ?_
      refine Run.one (ok_move rfl rfl) rfl rfl rfl ?_
      refine Run.one (ok_buildSlice rfl rfl (by decide) rfl (by simp) rfl rfl) rfl rfl rfl ?_
      refine Run.one (ok_call rfl rfl ((rmul_spec (b := [10]) (n := 10) (by have := i3.h; unfold cap; simp; omega)).args ⟨fun _ _ h => h, fun I v h => natLit (l := [10]) I v h, trivial⟩)) rfl rfl rfl ?_
      refine Run.one (ok_call rfl rfl (text_spec (by decide))) rfl rfl rfl ?_
      refine Run.one (ok_assign rfl rfl) rfl rfl rfl ?_
      refine Run.nil ?_
      refine T_seq ?_
      refine T_regionS ?_
      refine Run.one (ok_move rfl rfl) rfl rfl rfl ?_
      refine Run.one (ok_call rfl rfl (rtrim_spec (by have := i3.h; unfold cap; omega))) rfl rfl rfl ?_
      refine Run.one (ok_len rfl rfl) rfl rfl rfl ?_
      refine Run.one (ok_cmp rfl rfl rfl rfl) rfl rfl rfl ?_
      refine Run.nil ?_
      refine T_cond rfl rfl (fun h67 => ?_) (fun h67 => ?_)
      · have k67 := beq_iff_eq.1 h67
        have hm0 : m = 0 := by have := dig_len_zero (n := m); omega
        refine T_regionS ?_
        refine Run.one (ok_move rfl rfl) rfl rfl rfl ?_
        refine Run.one ((ok_cmp_str rfl rfl rfl rfl).sub (bool_eq (c := true) (by rw [hm0, show dec 0 = [48] from dec_zero]; rfl))) rfl rfl rfl ?_
        refine Run.one (ok_move rfl rfl) rfl rfl rfl ?_
        refine Run.one (ok_move rfl rfl) (gB rfl rfl rfl rfl) rfl rfl ?_
        refine Run.one ((ok_cmp_str rfl rfl rfl rfl).sub (bool_eq (c := true) (by rw [hm0, Nat.zero_mul, show dec 0 = [48] from dec_zero]; rfl))) (gB rfl rfl rfl rfl) rfl rfl ?_
        refine Run.one (ok_pick rfl rfl rfl) rfl rfl rfl ?_
        refine Run.one (ok_move rfl rfl) rfl rfl rfl ?_
        refine Run.one (ok_call rfl rfl wakes6_spec) (gB rfl rfl rfl rfl) rfl rfl ?_
        refine Run.one (ok_pick rfl rfl rfl) rfl rfl rfl ?_
        refine Run.one (ok_assign rfl rfl) rfl rfl rfl ?_
        refine Run.nil ?_
        refine T_ret ?_
        exact ⟨_, [], .one (.tmp rfl), List.nil_sublist _, rfl, rfl⟩
      · have k67 := beq_eq_false_iff_ne.1 h67
        have hm0 : m ≠ 0 := fun h => by have := dig_len_zero (n := m); omega
        obtain ⟨c, hc, hc48⟩ := get_dec hm0
        have hdl : (dec m).length ≤ 1000 := by rw [dec_len]; exact Nat.le_trans (nDigits_le_of_lt (k := 99) (Nat.lt_of_lt_of_le i5.h (by decide))) (by decide)
        refine T_skip ?_
        refine T_regionS ?_
        refine Run.one (ok_move rfl rfl) rfl rfl rfl ?_
        refine Run.one (ok_move rfl rfl) rfl rfl rfl ?_
        refine Run.one (ok_add_str rfl rfl rfl (by simp; omega)) rfl rfl rfl ?_
        refine Run.one ((ok_cmp_str rfl rfl rfl rfl).sub (bool_eq (c := true) (by rw [show dec (m * 10) = dec m ++ [48] from dec_ten hm0]; simp))) rfl rfl rfl ?_
        refine Run.one (ok_move rfl rfl) rfl rfl rfl ?_
        refine Run.one (ok_move rfl rfl) (gB rfl rfl rfl rfl) rfl rfl ?_
        refine Run.one (ok_index_str rfl rfl rfl (by omega) (c := c) hc) (gB rfl rfl rfl rfl) rfl rfl ?_
        refine Run.one ((ok_cmp rfl rfl rfl rfl).sub (bool_eq (c := true) (bne_iff_ne.2 (u8_ne hc48)))) (gB rfl rfl rfl rfl) rfl rfl ?_
        refine Run.one (ok_pick rfl rfl rfl) rfl rfl rfl ?_
        refine Run.one (ok_move rfl rfl) rfl rfl rfl ?_
        refine Run.one (ok_call rfl rfl wakes6_spec) (gB rfl rfl rfl rfl) rfl rfl ?_
        refine Run.one (ok_pick rfl rfl rfl) rfl rfl rfl ?_
        refine Run.one (ok_assign rfl rfl) rfl rfl rfl ?_
        refine Run.nil ?_
        refine T_ret ?_
        exact ⟨_, [], .one (.tmp rfl), List.nil_sublist _, rfl, rfl⟩
    · have k4_4 := of_decide_eq_false h4_4
      refine Run.one (ok_move rfl rfl) rfl rfl rfl ?_
      refine Run.one (ok_move rfl rfl) (gB rfl rfl rfl rfl) rfl rfl ?_
      refine Run.one ((ok_len_str rfl rfl).sub (int_eq (n := ((Lib.nDigits m : Nat) : Int)) (by rw [dec_len]))) (gB rfl rfl rfl rfl) rfl rfl ?_
      refine Run.one (ok_move rfl rfl) (gB rfl rfl rfl rfl) rfl rfl ?_
      refine Run.one ((ok_len_str rfl rfl).sub (int_eq (n := ((Lib.nDigits n : Nat) : Int)) (by rw [dec_len]))) (gB rfl rfl rfl rfl) rfl rfl ?_
      refine Run.oneB (ok_cmp rfl rfl rfl rfl) (gB rfl rfl rfl rfl) rfl rfl (fun h4_10 => ?_) (fun h4_10 => ?_)
      · have k4_10 := beq_iff_eq.1 h4_10
        refine Run.one (ok_move rfl rfl) (gB rfl rfl rfl rfl) rfl rfl ?_
        refine Run.one (ok_move rfl rfl) (gB rfl rfl rfl rfl) rfl rfl ?_
        refine Run.one (ok_move rfl rfl) (gB rfl rfl rfl rfl) rfl rfl ?_
        refine Run.one (ok_cmp_str rfl rfl rfl rfl) (gB rfl rfl rfl rfl) rfl rfl ?_
        refine Run.one (ok_pick rfl rfl rfl) (gB rfl rfl rfl rfl) rfl rfl ?_
        refine Run.one ((ok_pick rfl rfl rfl).sub (bool_eq (c := decide (m < n)) (by first | exact (decide_eq_true (nDigits_lt (by omega))).symm | exact less_dec _ _ (by omega) | exact (decide_eq_false (by have := nDigits_lt (m := n) (n := m) (by omega); omega)).symm))) rfl rfl rfl ?_
        refine Run.one (ok_assign rfl rfl) rfl rfl rfl ?_
        refine Run.nil ?_
        refine T_seq ?_
        refine T_regionS ?_
        refine Run.one (ok_move rfl rfl) rfl rfl rfl ?_
        refine Run.one (ok_move rfl rfl) rfl rfl rfl ?_
        refine Run.one (ok_move rfl rfl) rfl rfl rfl ?_
        refine Run.one (ok_call rfl rfl rcmp_spec) rfl rfl rfl ?_
        refine Run.one ((ok_cmp rfl rfl rfl rfl).sub (bool_eq (c := decide (m < n)) (decide_eq_decide.2 tri_nat.1))) rfl rfl rfl ?_
        refine Run.one ((ok_neq_bool rfl rfl rfl Tryd.isBool4).sub (bool_eq (c := false) (by simp))) rfl rfl rfl ?_
        refine Run.one (ok_move rfl rfl) rfl rfl rfl ?_
        refine Run.one (ok_move rfl rfl) (gB rfl rfl rfl rfl) rfl rfl ?_
        refine Run.one (ok_move rfl rfl) (gB rfl rfl rfl rfl) rfl rfl ?_
        refine Run.one ((ok_cmp_str rfl rfl rfl rfl).sub (bool_eq (c := decide (m = n)) (by by_cases h : m = n; subst h; simp; rw [decide_eq_false h]; exact beq_eq_false_iff_ne.2 fun e => h (dec_inj.1 e)))) (gB rfl rfl rfl rfl) rfl rfl ?_
        refine Run.one (ok_move rfl rfl) (gB rfl rfl rfl rfl) rfl rfl ?_
        refine Run.one (ok_move rfl rfl) (gB rfl rfl rfl rfl) rfl rfl ?_
        refine Run.one (ok_call rfl rfl rcmp_spec) (gB rfl rfl rfl rfl) rfl rfl ?_
        refine Run.one ((ok_cmp rfl rfl rfl rfl).sub (bool_eq (c := decide (m = n)) (decide_eq_decide.2 tri_nat.2))) (gB rfl rfl rfl rfl) rfl rfl ?_
        refine Run.one ((ok_neq_bool rfl rfl rfl Tryd.isBool4).sub (bool_eq (c := false) (by simp))) (gB rfl rfl rfl rfl) rfl rfl ?_
        refine Run.one (ok_pick rfl rfl rfl) rfl rfl rfl ?_
        refine Run.one (ok_move rfl rfl) rfl rfl rfl ?_
        refine Run.one (ok_move rfl rfl) (gB rfl rfl rfl rfl) rfl rfl ?_
        refine Run.one (ok_call rfl rfl (dcount_spec (k := 8) (by decide))) (gB rfl rfl rfl rfl) rfl rfl ?_
        refine Run.one (ok_move rfl rfl) (gB rfl rfl rfl rfl) rfl rfl ?_
        refine Run.one ((ok_len_str rfl rfl).sub (int_eq (n := ((Lib.nDigits m : Nat) : Int)) (by rw [dec_len]))) (gB rfl rfl rfl rfl) rfl rfl ?_
        refine Run.one ((ok_cmp rfl rfl rfl rfl).sub (bool_eq (c := false) (by simp))) (gB rfl rfl rfl rfl) rfl rfl ?_
        refine Run.one (ok_pick rfl rfl rfl) rfl rfl rfl ?_
        refine Run.nil ?_
        refine T_condF rfl rfl ?_
        refine T_skip ?_
        refine T_regionS ?_
        refine Run.one (ok_move rfl rfl) rfl rfl rfl ?_
        refine Run.one (ok_buildSlice rfl rfl (by decide) rfl (by simp) rfl rfl) rfl rfl rfl ?_
        refine Run.one (ok_call rfl rfl ((rmul_spec (b := [10]) (n := 10) (by have := i3.h; unfold cap; simp; omega)).args ⟨fun _ _ h => h, fun I v h => natLit (l := [10]) I v h, trivial⟩)) rfl rfl rfl ?_
        refine Run.one (ok_call rfl rfl (text_spec (by decide))) rfl rfl rfl ?_
        refine Run.one (ok_assign rfl rfl) rfl rfl rfl ?_
        refine Run.nil ?_
        refine T_seq ?_
        refine T_regionS ?_
        refine Run.one (ok_move rfl rfl) rfl rfl rfl ?_
        refine Run.one (ok_call rfl rfl (rtrim_spec (by have := i3.h; unfold cap; omega))) rfl rfl rfl ?_
        refine Run.one (ok_len rfl rfl) rfl rfl rfl ?_
        refine Run.one (ok_cmp rfl rfl rfl rfl) rfl rfl rfl ?_
        refine Run.nil ?_
        refine T_cond rfl rfl (fun h67 => ?_) (fun h67 => ?_)
        · have k67 := beq_iff_eq.1 h67
          have hm0 : m = 0 := by have := dig_len_zero (n := m); omega
          refine T_regionS ?_
          refine Run.one (ok_move rfl rfl) rfl rfl rfl ?_
          refine Run.one ((ok_cmp_str rfl rfl rfl rfl).sub (bool_eq (c := true) (by rw [hm0, show dec 0 = [48] from dec_zero]; rfl))) rfl rfl rfl ?_
          refine Run.one (ok_move rfl rfl) rfl rfl rfl ?_
          refine Run.one (ok_move rfl rfl) (gB rfl rfl rfl rfl) rfl rfl ?_
          refine Run.one ((ok_cmp_str rfl rfl rfl rfl).sub (bool_eq (c := true) (by rw [hm0, Nat.zero_mul, show dec 0 = [48] from dec_zero]; rfl))) (gB rfl rfl rfl rfl) rfl rfl ?_
          refine Run.one (ok_pick rfl rfl rfl) rfl rfl rfl ?_
          refine Run.one (ok_move rfl rfl) rfl rfl rfl ?_
          refine Run.one (ok_call rfl rfl wakes6_spec) (gB rfl rfl rfl rfl) rfl rfl ?_
          refine Run.one (ok_pick rfl rfl rfl) rfl rfl rfl ?_
          refine Run.one (ok_assign rfl rfl) rfl rfl rfl ?_
          refine Run.nil ?_
          refine T_ret ?_
          exact ⟨_, [], .one (.tmp rfl), List.nil_sublist _, rfl, rfl⟩
        · have k67 := beq_eq_false_iff_ne.1 h67
          have hm0 : m ≠ 0 := fun h => by have := dig_len_zero (n := m); omega
          obtain ⟨c, hc, hc48⟩ := get_dec hm0
          have hdl : (dec m).length ≤ 1000 := by rw [dec_len]; exact Nat.le_trans (nDigits_le_of_lt (k := 99) (Nat.lt_of_lt_of_le i5.h (by decide))) (by decide)
          refine T_skip ?_
          refine T_regionS ?_
          refine Run.one (ok_move rfl rfl) rfl rfl rfl ?_
          refine Run.one (ok_move rfl rfl) rfl rfl rfl ?_
          refine Run.one (ok_add_str rfl rfl rfl (by simp; omega)) rfl rfl rfl ?_
          refine Run.one ((ok_cmp_str rfl rfl rfl rfl).sub (bool_eq (c := true) (by rw [show dec (m * 10) = dec m ++ [48] from dec_ten hm0]; simp))) rfl rfl rfl ?_
          refine Run.one (ok_move rfl rfl) rfl rfl rfl ?_
          refine Run.one (ok_move rfl rfl) (gB rfl rfl rfl rfl) rfl rfl ?_
          refine Run.one (ok_index_str rfl rfl rfl (by omega) (c := c) hc) (gB rfl rfl rfl rfl) rfl rfl ?_
          refine Run.one ((ok_cmp rfl rfl rfl rfl).sub (bool_eq (c := true) (bne_iff_ne.2 (u8_ne hc48)))) (gB rfl rfl rfl rfl) rfl rfl ?_
          refine Run.one (ok_pick rfl rfl rfl) rfl rfl rfl ?_
          refine Run.one (ok_move rfl rfl) rfl rfl rfl ?_
          refine Run.one (ok_call rfl rfl wakes6_spec) (gB rfl rfl rfl rfl) rfl rfl ?_
          refine Run.one (ok_pick rfl rfl rfl) rfl rfl rfl ?_
          refine Run.one (ok_assign rfl rfl) rfl rfl rfl ?_
          refine Run.nil ?_
          refine T_ret ?_
          exact ⟨_, [], .one (.tmp rfl), List.nil_sublist _, rfl, rfl⟩
      · have k4_10 := beq_eq_false_iff_ne.1 h4_10
        refine Run.one (ok_move rfl rfl) (gB rfl rfl rfl rfl) rfl rfl ?_
        refine Run.no (gB rfl rfl rfl rfl) rfl rfl ?_
        refine Run.no (gB rfl rfl rfl rfl) rfl rfl ?_
        refine Run.no (gB rfl rfl rfl rfl) rfl rfl ?_
        refine Run.one (ok_pick rfl rfl rfl) (gB rfl rfl rfl rfl) rfl rfl ?_
        refine Run.one ((ok_pick rfl rfl rfl).sub (bool_eq (c := decide (m < n)) (by first | exact (decide_eq_true (nDigits_lt (by omega))).symm | exact less_dec _ _ (by omega) | exact (decide_eq_false (by have := nDigits_lt (m := n) (n := m) (by omega); omega)).symm))) rfl rfl rfl ?_
        refine Run.one (ok_assign rfl rfl) rfl rfl rfl ?_
        refine Run.nil ?_
        refine T_seq ?_
        refine T_regionS ?_
        refine Run.one (ok_move rfl rfl) rfl rfl rfl ?_
        refine Run.one (ok_move rfl rfl) rfl rfl rfl ?_
        refine Run.one (ok_move rfl rfl) rfl rfl rfl ?_
        refine Run.one (ok_call rfl rfl rcmp_spec) rfl rfl rfl ?_
        refine Run.one ((ok_cmp rfl rfl rfl rfl).sub (bool_eq (c := decide (m < n)) (decide_eq_decide.2 tri_nat.1))) rfl rfl rfl ?_
        refine Run.one ((ok_neq_bool rfl rfl rfl Tryd.isBool4).sub (bool_eq (c := false) (by simp))) rfl rfl rfl ?_
        refine Run.one (ok_move rfl rfl) rfl rfl rfl ?_
        refine Run.one (ok_move rfl rfl) (gB rfl rfl rfl rfl) rfl rfl ?_
        refine Run.one (ok_move rfl rfl) (gB rfl rfl rfl rfl) rfl rfl ?_
        refine Run.one ((ok_cmp_str rfl rfl rfl rfl).sub (bool_eq (c := decide (m = n)) (by by_cases h : m = n; subst h; simp; rw [decide_eq_false h]; exact beq_eq_false_iff_ne.2 fun e => h (dec_inj.1 e)))) (gB rfl rfl rfl rfl) rfl rfl ?_
        refine Run.one (ok_move rfl rfl) (gB rfl rfl rfl rfl) rfl rfl ?_
        refine Run.one (ok_move rfl rfl) (gB rfl rfl rfl rfl) rfl rfl ?_
        refine Run.one (ok_call rfl rfl rcmp_spec) (gB rfl rfl rfl rfl) rfl rfl ?_
        refine Run.one ((ok_cmp rfl rfl rfl rfl).sub (bool_eq (c := decide (m = n)) (decide_eq_decide.2 tri_nat.2))) (gB rfl rfl rfl rfl) rfl rfl ?_
        refine Run.one ((ok_neq_bool rfl rfl rfl Tryd.isBool4).sub (bool_eq (c := false) (by simp))) (gB rfl rfl rfl rfl) rfl rfl ?_
        refine Run.one (ok_pick rfl rfl rfl) rfl rfl rfl ?_
        refine Run.one (ok_move rfl rfl) rfl rfl rfl ?_
        refine Run.one (ok_move rfl rfl) (gB rfl rfl rfl rfl) rfl rfl ?_
        refine Run.one (ok_call rfl rfl (dcount_spec (k := 8) (by decide))) (gB rfl rfl rfl rfl) rfl rfl ?_
        refine Run.one (ok_move rfl rfl) (gB rfl rfl rfl rfl) rfl rfl ?_
        refine Run.one ((ok_len_str rfl rfl).sub (int_eq (n := ((Lib.nDigits m : Nat) : Int)) (by rw [dec_len]))) (gB rfl rfl rfl rfl) rfl rfl ?_
        refine Run.one ((ok_cmp rfl rfl rfl rfl).sub (bool_eq (c := false) (by simp))) (gB rfl rfl rfl rfl) rfl rfl ?_
        refine Run.one (ok_pick rfl rfl rfl) rfl rfl rfl ?_
        refine Run.nil ?_
        refine T_condF rfl rfl ?_
        refine T_skip ?_
        refine T_regionS ?_
        refine Run.one (ok_move rfl rfl) rfl rfl rfl ?_
        refine Run.one (ok_buildSlice rfl rfl (by decide) rfl (by simp) rfl rfl) rfl rfl rfl ?_
        refine Run.one (ok_call rfl rfl ((rmul_spec (b := [10]) (n := 10) (by have := i3.h; unfold cap; simp; omega)).args ⟨fun _ _ h => h, fun I v h => natLit (l := [10]) I v h, trivial⟩)) rfl rfl rfl ?_
        refine Run.one (ok_call rfl rfl (text_spec (by decide))) rfl rfl rfl ?_
        refine Run.one (ok_assign rfl rfl) rfl rfl rfl ?_
        refine Run.nil ?_
        refine T_seq ?_
        refine T_regionS ?_
        refine Run.one (ok_move rfl rfl) rfl rfl rfl ?_
        refine Run.one (ok_call rfl rfl (rtrim_spec (by have := i3.h; unfold cap; omega))) rfl rfl rfl ?_
        refine Run.one (ok_len rfl rfl) rfl rfl rfl ?_
        refine Run.one (ok_cmp rfl rfl rfl rfl) rfl rfl rfl ?_
        refine Run.nil ?_
        refine T_cond rfl rfl (fun h67 => ?_) (fun h67 => ?_)
        · have k67 := beq_iff_eq.1 h67
          have hm0 : m = 0 := by have := dig_len_zero (n := m); omega
          refine T_regionS ?_
          refine Run.one (ok_move rfl rfl) rfl rfl rfl ?_
          refine Run.one ((ok_cmp_str rfl rfl rfl rfl).sub (bool_eq (c := true) (by rw [hm0, show dec 0 = [48] from dec_zero]; rfl))) rfl rfl rfl ?_
          refine Run.one (ok_move rfl rfl) rfl rfl rfl ?_
          refine Run.one (ok_move rfl rfl) (gB rfl rfl rfl rfl) rfl rfl ?_
          refine Run.one ((ok_cmp_str rfl rfl rfl rfl).sub (bool_eq (c := true) (by rw [hm0, Nat.zero_mul, show dec 0 = [48] from dec_zero]; rfl))) (gB rfl rfl rfl rfl) rfl rfl ?_
          refine Run.one (ok_pick rfl rfl rfl) rfl rfl rfl ?_
          refine Run.one (ok_move rfl rfl) rfl rfl rfl ?_
          refine Run.one (ok_call rfl rfl wakes6_spec) (gB rfl rfl rfl rfl) rfl rfl ?_
          refine Run.one (ok_pick rfl rfl rfl) rfl rfl rfl ?_
          refine Run.one (ok_assign rfl rfl) rfl rfl rfl ?_
          refine Run.nil ?_
          refine T_ret ?_
          exact ⟨_, [], .one (.tmp rfl), List.nil_sublist _, rfl, rfl⟩
        · have k67 := beq_eq_false_iff_ne.1 h67
          have hm0 : m ≠ 0 := fun h => by have := dig_len_zero (n := m); omega
          obtain ⟨c, hc, hc48⟩ := get_dec hm0
          have hdl : (dec m).length ≤ 1000 := by rw [dec_len]; exact Nat.le_trans (nDigits_le_of_lt (k := 99) (Nat.lt_of_lt_of_le i5.h (by decide))) (by decide)
          refine T_skip ?_
          refine T_regionS ?_
          refine Run.one (ok_move rfl rfl) rfl rfl rfl ?_
          refine Run.one (ok_move rfl rfl) rfl rfl rfl ?_
          refine Run.one (ok_add_str rfl rfl rfl (by simp; omega)) rfl rfl rfl ?_
          refine Run.one ((ok_cmp_str rfl rfl rfl rfl).sub (bool_eq (c := true) (by rw [show dec (m * 10) = dec m ++ [48] from dec_ten hm0]; simp))) rfl rfl rfl ?_
          refine Run.one (ok_move rfl rfl) rfl rfl rfl ?_
          refine Run.one (ok_move rfl rfl) (gB rfl rfl rfl rfl) rfl rfl ?_
          refine Run.one (ok_index_str rfl rfl rfl (by omega) (c := c) hc) (gB rfl rfl rfl rfl) rfl rfl ?_
          refine Run.one ((ok_cmp rfl rfl rfl rfl).sub (bool_eq (c := true) (bne_iff_ne.2 (u8_ne hc48)))) (gB rfl rfl rfl rfl) rfl rfl ?_
          refine Run.one (ok_pick rfl rfl rfl) rfl rfl rfl ?_
          refine Run.one (ok_move rfl rfl) rfl rfl rfl ?_
          refine Run.one (ok_call rfl rfl wakes6_spec) (gB rfl rfl rfl rfl) rfl rfl ?_
          refine Run.one (ok_pick rfl rfl rfl) rfl rfl rfl ?_
          refine Run.one (ok_assign rfl rfl) rfl rfl rfl ?_
          refine Run.nil ?_
          refine T_ret ?_
          exact ⟨_, [], .one (.tmp rfl), List.nil_sublist _, rfl, rfl⟩
theorem digitsParts_spec [Tab10 G] {a : List Nat} {n : Int} (ha : Lim a) : PSpec Tryd.prog G 5 [natS a, intS .i64 n] (boolS true) := by
  refine fn_spec Tryd.func5 rfl rfl rfl ?_
  refine T_regionS ?_
  refine Run.one (ok_assign rfl rfl) rfl rfl rfl ?_
  refine Run.nil ?_
  refine T_seq ?_
  refine T_regionS ?_
  refine Run.one (ok_move rfl rfl) rfl rfl rfl ?_
  refine Run.one (ok_len rfl rfl) rfl rfl rfl ?_
  refine Run.oneB (ok_cmp rfl rfl rfl rfl) rfl rfl rfl (fun h1_2 => ?_) (fun h1_2 => ?_)
  · have k1_2 := of_decide_eq_true h1_2
    refine Run.one (ok_move rfl rfl) rfl rfl rfl ?_
    refine Run.no (gB rfl rfl rfl rfl) rfl rfl ?_
    refine Run.no (gB rfl rfl rfl rfl) rfl rfl ?_
    refine Run.one (ok_pick rfl rfl rfl) rfl rfl rfl ?_
    refine Run.one (ok_move rfl rfl) rfl rfl rfl ?_
    refine Run.no (gB rfl rfl rfl rfl) rfl rfl ?_
    refine Run.no (gB rfl rfl rfl rfl) rfl rfl ?_
    refine Run.one (ok_pick rfl rfl rfl) rfl rfl rfl ?_
    refine Run.nil ?_
    refine T_condT rfl rfl ?_
    refine T_regionS ?_
    refine Run.one (ok_call rfl rfl wakes6_spec) rfl rfl rfl ?_
    refine Run.one (ok_assign rfl rfl) rfl rfl rfl ?_
    refine Run.nil ?_
    refine T_ret ?_
    exact ⟨_, [], .one (.tmp rfl), List.nil_sublist _, rfl, rfl⟩
  · have k1_2 := of_decide_eq_false h1_2
    refine Run.one (ok_move rfl rfl) rfl rfl rfl ?_
    refine Run.one (ok_move rfl rfl) (gB rfl rfl rfl rfl) rfl rfl ?_
    refine Run.one (ok_cmp rfl rfl rfl rfl) (gB rfl rfl rfl rfl) rfl rfl ?_
    refine Run.oneB (ok_pick rfl rfl rfl) rfl rfl rfl (fun h1_6 => ?_) (fun h1_6 => ?_)
    · have k1_6 := of_decide_eq_true h1_6
      refine Run.one (ok_move rfl rfl) rfl rfl rfl ?_
      refine Run.no (gB rfl rfl rfl rfl) rfl rfl ?_
      refine Run.no (gB rfl rfl rfl rfl) rfl rfl ?_
      refine Run.one (ok_pick rfl rfl rfl) rfl rfl rfl ?_
      refine Run.nil ?_
      refine T_condT rfl rfl ?_
      refine T_regionS ?_
      refine Run.one (ok_call rfl rfl wakes6_spec) rfl rfl rfl ?_
      refine Run.one (ok_assign rfl rfl) rfl rfl rfl ?_
      refine Run.nil ?_
      refine T_ret ?_
      exact ⟨_, [], .one (.tmp rfl), List.nil_sublist _, rfl, rfl⟩
    · have k1_6 := of_decide_eq_false h1_6
      refine Run.one (ok_move rfl rfl) rfl rfl rfl ?_
      refine Run.one (ok_move rfl rfl) (gB rfl rfl rfl rfl) rfl rfl ?_
      refine Run.one (ok_cmp rfl rfl rfl rfl) (gB rfl rfl rfl rfl) rfl rfl ?_
      refine Run.one (ok_pick rfl rfl rfl) rfl rfl rfl ?_
      refine Run.nil ?_
      refine T_cond rfl rfl (fun h21 => ?_) (fun h21 => ?_)
      · have k21 := of_decide_eq_true h21
        refine T_regionS ?_
        refine Run.one (ok_call rfl rfl wakes6_spec) rfl rfl rfl ?_
        refine Run.one (ok_assign rfl rfl) rfl rfl rfl ?_
        refine Run.nil ?_
        refine T_ret ?_
        exact ⟨_, [], .one (.tmp rfl), List.nil_sublist _, rfl, rfl⟩
      · have k21 := of_decide_eq_false h21
        obtain ⟨k, rfl⟩ : ∃ k : Nat, n = k := ⟨n.toNat, by omega⟩
        obtain ⟨m, hm⟩ : ∃ m, m = val a := ⟨_, rfl⟩
        have i1 : IsNat a m := ⟨ha, hm.symm⟩
        have i3 : Sz a 5 := sz_of (by omega)
        have i5 : Bd m 5 := hm ▸ val_bd ha (by omega)
        have i4 := isNat_lit (d := k) (by omega)
        have i6 : Bd k 1 := ⟨by omega⟩
        have i7 : Bd 1000 1 := ⟨by decide⟩
        have i8 := isNat_lit (d := 1000) (by decide)
        have hnm : Lib.nDigits m ≤ 57 := nDigits_le_of_lt (k := 56) (Nat.lt_of_lt_of_le i5.h (by decide))
        have hnk : Lib.nDigits k ≤ 3 := nDigits_le_of_lt (k := 2) (show k < 10 ^ 3 by omega)
        have hk3 : k < 1000 := by omega
        refine T_skip ?_
        refine T_regionS ?_
        refine Run.one (ok_move rfl rfl) rfl rfl rfl ?_
        refine Run.one (ok_conv (z := ((k : Nat) : Int)) rfl rfl (wrap_u32 (by omega) (by omega))) rfl rfl rfl ?_
        refine Run.one (ok_buildSlice rfl rfl (by decide) rfl (by simp) rfl rfl) rfl rfl rfl ?_
        refine Run.one (ok_call rfl rfl ((rtrim_spec (l := [k]) (n := k) (show 1 ≤ cap by decide)).args ⟨fun I v h => natLit (l := [k]) I v h, trivial⟩)) rfl rfl rfl ?_
        refine Run.one (ok_assign rfl rfl) rfl rfl rfl ?_
        refine Run.nil ?_
        refine T_regionS ?_
        refine Run.one (ok_move rfl rfl) rfl rfl rfl ?_
        refine Run.one (ok_buildSlice rfl rfl (by decide) rfl (by simp) rfl rfl) rfl rfl rfl ?_
        refine Run.one (ok_call rfl rfl ((rmul_spec (b := [1000]) (n := 1000) (by have := i3.h; unfold cap; simp; omega)).args ⟨fun _ _ h => h, fun I v h => natLit (l := [1000]) I v h, trivial⟩)) rfl rfl rfl ?_
        refine Run.one (ok_move rfl rfl) rfl rfl rfl ?_
        refine Run.one (ok_buildSlice rfl rfl (by decide) rfl (by simp) rfl rfl) rfl rfl rfl ?_
        refine Run.one (ok_call rfl rfl (radd2_spec (by decide))) rfl rfl rfl ?_
        refine Run.one (ok_assign rfl rfl) rfl rfl rfl ?_
        refine Run.nil ?_
        refine T_regionS ?_
        refine Run.one (ok_move rfl rfl) rfl rfl rfl ?_
        refine Run.one (ok_call rfl rfl (text_spec (by decide))) rfl rfl rfl ?_
        refine Run.one (ok_assign rfl rfl) rfl rfl rfl ?_
        refine Run.nil ?_
        refine T_seq ?_
        refine T_regionS ?_
        refine Run.one (ok_move rfl rfl) rfl rfl rfl ?_
        refine Run.one (ok_call rfl rfl (rtrim_spec (by have := i3.h; unfold cap; omega))) rfl rfl rfl ?_
        refine Run.one (ok_len rfl rfl) rfl rfl rfl ?_
        refine Run.one (ok_cmp rfl rfl rfl rfl) rfl rfl rfl ?_
        refine Run.nil ?_
        refine T_cond rfl rfl (fun h38 => ?_) (fun h38 => ?_)
        · have k38 := beq_iff_eq.1 h38
          have hm0 : m = 0 := by have := dig_len_zero (n := m); omega
          refine T_regionS ?_
          refine Run.one (ok_move rfl rfl) rfl rfl rfl ?_
          refine Run.one (ok_call rfl rfl (text_spec (by decide))) rfl rfl rfl ?_
          refine Run.one (ok_move rfl rfl) rfl rfl rfl ?_
          refine Run.one ((ok_cmp_str rfl rfl rfl rfl).sub (bool_eq (c := true) (by rw [hm0, Nat.zero_mul, Nat.zero_add]; simp))) rfl rfl rfl ?_
          refine Run.one (ok_move rfl rfl) rfl rfl rfl ?_
          refine Run.one (ok_move rfl rfl) (gB rfl rfl rfl rfl) rfl rfl ?_
          refine Run.one (ok_call rfl rfl (dcount_spec (by decide))) (gB rfl rfl rfl rfl) rfl rfl ?_
          refine Run.one (ok_move rfl rfl) (gB rfl rfl rfl rfl) rfl rfl ?_
          refine Run.one (ok_len_str rfl rfl) (gB rfl rfl rfl rfl) rfl rfl ?_
          refine Run.one ((ok_cmp rfl rfl rfl rfl).sub (bool_eq (c := true) (by rw [dec_len, hm0, Nat.zero_mul, Nat.zero_add]; simp))) (gB rfl rfl rfl rfl) rfl rfl ?_
          refine Run.one (ok_pick rfl rfl rfl) rfl rfl rfl ?_
          refine Run.one (ok_move rfl rfl) rfl rfl rfl ?_
          refine Run.one (ok_call rfl rfl wakes6_spec) (gB rfl rfl rfl rfl) rfl rfl ?_
          refine Run.one (ok_pick rfl rfl rfl) rfl rfl rfl ?_
          refine Run.one (ok_assign rfl rfl) rfl rfl rfl ?_
          refine Run.nil ?_
          refine T_ret ?_
          exact ⟨_, [], .one (.tmp rfl), List.nil_sublist _, rfl, rfl⟩
        · have k38 := beq_eq_false_iff_ne.1 h38
          have hm0 : m ≠ 0 := fun h => by have := dig_len_zero (n := m); omega
          refine T_skip ?_
          refine T_seq ?_
          refine T_block ?_
          refine T_loop (γ := Nat) (fun j => ⟨_, [(7, strS (List.replicate j 48 ++ dec k)), (6, natS (dig (m * 1000 + k))), (0, natS a)], [], [], (0, false)⟩) (fun j => j + Lib.nDigits k ≤ 3) (fun j => 3 - j) 0 (by omega) (ent_g (subG_cons rfl (subG_cons rfl (subG_cons rfl (trivial))))) ?_
          intro j hj
          have hjl : (List.replicate j 48 ++ dec k).length = j + Lib.nDigits k := by rw [List.length_append, List.length_replicate, dec_len]
          refine T_seq ?_
          refine T_regionS ?_
          refine Run.one (ok_move rfl rfl) rfl rfl rfl ?_
          refine Run.one ((ok_len_str rfl rfl).sub (int_eq (n := ((j + Lib.nDigits k : Nat) : Int)) (by rw [hjl]))) rfl rfl rfl ?_
          refine Run.one (ok_cmp rfl rfl rfl rfl) rfl rfl rfl ?_
          refine Run.nil ?_
          refine T_cond rfl rfl (fun h55 => ?_) (fun h55 => ?_)
          · have k55 := of_decide_eq_true h55
            refine T_skip ?_
            refine T_block ?_
            refine T_region ?_
            refine Run.one (ok_move rfl rfl) rfl rfl rfl ?_
            refine Run.one (ok_add_str rfl rfl rfl (by rw [hjl]; simp; omega)) rfl rfl rfl ?_
            refine Run.one (ok_assign rfl rfl) rfl rfl rfl ?_
            refine Run.nil ?_
            exact ⟨j + 1, by omega, by omega, rfl, subG_as rfl (congrArg strS (by rw [List.replicate_succ]; rfl)) (subG_cons rfl (subG_cons rfl (trivial))), subH_refl _, rfl, rfl⟩
          · have k55 := of_decide_eq_false h55
            have hpd : List.replicate j 48 ++ dec k = pd 3 k := by rw [pd_dec hnk, show 3 - Lib.nDigits k = j by omega]
            rw [hpd]
            refine T_exit ?_
            refine T_regionS ?_
            refine Run.one (ok_move rfl rfl) rfl rfl rfl ?_
            refine Run.one (ok_call rfl rfl (text_spec (by decide))) rfl rfl rfl ?_
            refine Run.one (ok_move rfl rfl) rfl rfl rfl ?_
            refine Run.one (ok_add_str rfl rfl rfl (by rw [dec_len, pd_length]; omega)) rfl rfl rfl ?_
            refine Run.one (ok_assign rfl rfl) rfl rfl rfl ?_
            refine Run.nil ?_
            refine T_regionS ?_
            refine Run.one (ok_move rfl rfl) rfl rfl rfl ?_
            refine Run.one (ok_call rfl rfl (parse_parts hnm hk3)) rfl rfl rfl ?_
            refine Run.one (ok_move rfl rfl) rfl rfl rfl ?_
            refine Run.one (ok_extract rfl rfl rfl) rfl rfl rfl ?_
            refine Run.one (ok_extract rfl rfl rfl) rfl rfl rfl ?_
            refine Run.one (ok_assign rfl rfl) rfl rfl rfl ?_
            refine Run.one (ok_assign rfl rfl) rfl rfl rfl ?_
            refine Run.nil ?_
            refine T_regionS ?_
            refine Run.one (ok_move rfl rfl) rfl rfl rfl ?_
            refine Run.one (ok_call rfl rfl (text_spec (by decide))) rfl rfl rfl ?_
            refine Run.one (ok_move rfl rfl) rfl rfl rfl ?_
            refine Run.one ((ok_cmp_str rfl rfl rfl rfl).sub (bool_eq (c := true) (by rw [show dec (m * 1000 + k) = dec m ++ pd 3 k from dec_append (k := 3) hm0 hk3]; simp))) rfl rfl rfl ?_
            refine Run.one (ok_move rfl rfl) rfl rfl rfl ?_
            refine Run.one (ok_move rfl rfl) (gB rfl rfl rfl rfl) rfl rfl ?_
            refine Run.one ((ok_cmp rfl rfl rfl rfl).sub (bool_eq (c := true) (rfl))) (gB rfl rfl rfl rfl) rfl rfl ?_
            refine Run.one (ok_pick rfl rfl rfl) rfl rfl rfl ?_
            refine Run.one (ok_move rfl rfl) rfl rfl rfl ?_
            refine Run.one (ok_move rfl rfl) (gB rfl rfl rfl rfl) rfl rfl ?_
            refine Run.one (ok_move rfl rfl) (gB rfl rfl rfl rfl) rfl rfl ?_
            refine Run.one ((ok_call rfl rfl rsame4_spec).sub (bool_eq (c := true) (by simp))) (gB rfl rfl rfl rfl) rfl rfl ?_
            refine Run.one (ok_pick rfl rfl rfl) rfl rfl rfl ?_
            refine Run.one (ok_move rfl rfl) rfl rfl rfl ?_
            refine Run.one (ok_call rfl rfl wakes6_spec) (gB rfl rfl rfl rfl) rfl rfl ?_
            refine Run.one (ok_pick rfl rfl rfl) rfl rfl rfl ?_
            refine Run.one (ok_assign rfl rfl) rfl rfl rfl ?_
            refine Run.nil ?_
            refine T_ret ?_
            exact ⟨_, [], .one (.tmp rfl), List.nil_sublist _, rfl, rfl⟩
end Go.Proofs
