/- The law DigitsBad, on the facts. -/
import Derived.Test.YtendklcoeengaaaDoorSsf
namespace Go.Proofs
open Go Go.Sv Num
variable {G : Imm}
theorem peD_beq (l : List UInt8) : (peD l == 0) = okD l := by unfold peD; cases okD l <;> rfl
theorem parse_minus {s : List UInt8} : PSpec Tryd.prog G 9 [strS ([45] ++ s)] (tupS [aggS [boolS (decide (0 < pvD s)), natS (dig (pvD s))], intS .i64 (peD s)]) := by
  have h := parseInt_spec (G := G) (l := [45] ++ s)
  have h1 : Lib.hasPrefix ([45] ++ s) [45] = true := by simp [Lib.hasPrefix, List.isPrefixOf]
  rw [show Lib.trimPrefix ([45] ++ s) [45] = s by unfold Lib.trimPrefix; rw [h1]; rfl, h1, Bool.true_and] at h
  exact h
theorem peD_minus (s : List UInt8) : peD (45 :: s) = 60 ∧ pvD (45 :: s) = 0 := peD_bad (okD_bad (l := 45 :: s) (k := 0) (by simp) (by show isD 45 = false; decide))
theorem parse_mm {s : List UInt8} : PSpec Tryd.prog G 9 [strS ([45, 45] ++ s)] (tupS [aggS [boolS false, natS (dig 0)], intS .i64 60]) := by
  have h := parse_minus (G := G) (s := [45] ++ s)
  rw [show pvD ([45] ++ s) = 0 from (peD_minus s).2, show peD ([45] ++ s) = 60 from (peD_minus s).1] at h
  exact h
theorem okD_long {l : List UInt8} (h : 60 < l.length) : okD l = false := by
  unfold okD; rw [show decide (l.length ≤ 60) = false from decide_eq_false (by omega)]; simp
theorem parse_long {l : List UInt8} (h : 60 < l.length) : PSpec Tryd.prog G 8 [strS l] (tupS [natS (dig 0), intS .i64 60]) := by
  have h1 := parse_spec (G := G) (l := l)
  rw [(peD_bad (okD_long h)).1, (peD_bad (okD_long h)).2] at h1
  exact h1
theorem parse_mlong {l : List UInt8} (h : 60 < l.length) : PSpec Tryd.prog G 9 [strS ([45] ++ l)] (tupS [aggS [boolS false, natS (dig 0)], intS .i64 60]) := by
  have h1 := parse_minus (G := G) (s := l)
  rw [(peD_bad (okD_long h)).1, (peD_bad (okD_long h)).2] at h1
  exact h1
theorem okD_put {s : List UInt8} {j : Nat} {c : UInt8} (h : s.all isD = true) (hj : j ≤ s.length) : okD (s.take j ++ [c] ++ s.drop j) = (isD c && decide (s.length ≤ 59)) := by
  have h1 : (s.take j ++ [c] ++ s.drop j).length = s.length + 1 := by simp; omega
  have h2 : (s.take j).all isD = true := List.all_eq_true.2 fun x hx => List.all_eq_true.1 h x (List.mem_of_mem_take hx)
  have h3 : (s.drop j).all isD = true := List.all_eq_true.2 fun x hx => List.all_eq_true.1 h x (List.mem_of_mem_drop hx)
  unfold okD
  rw [h1, List.all_append, List.all_append, h2, h3]
  have h4 : (s.take j ++ [c] ++ s.drop j).isEmpty = false := by
    cases hs : s.take j ++ [c] ++ s.drop j with
    | nil => rw [hs] at h1; simp at h1
    | cons _ _ => rfl
  rw [h4, show decide (s.length + 1 ≤ 60) = decide (s.length ≤ 59) from decide_eq_decide.2 (by omega)]
  simp only [List.all_cons, List.all_nil, Bool.and_true, Bool.true_and, Bool.not_false]
  cases isD c <;> cases decide (s.length ≤ 59) <;> rfl
theorem isD_int {c : Int} (h0 : 0 ≤ c) (h1 : c ≤ 255) : isD (UInt8.ofNat c.toNat) = (decide (48 ≤ c) && decide (c ≤ 57)) := by
  unfold isD
  rw [UInt8.toNat_ofNat', show c.toNat % 2 ^ 8 = c.toNat by omega]
  congr 1
  · exact decide_eq_decide.2 (by omega)
  · exact decide_eq_decide.2 (by omega)
theorem tmod_bd (a : Int) (n : Nat) : -((n + 1 : Nat) : Int) < a.tmod ((n + 1 : Nat) : Int) ∧ a.tmod ((n + 1 : Nat) : Int) < ((n + 1 : Nat) : Int) := by
  have h1 := Int.natAbs_tmod a ((n + 1 : Nat) : Int)
  rw [Int.natAbs_natCast] at h1
  have h2 := Nat.mod_lt a.natAbs (show 0 < n + 1 by omega)
  omega
theorem digitsBad_spec [Tab10 G] {s : List UInt8} {p c : Int} (hc0 : 0 ≤ c) (hc1 : c ≤ 255) : PSpec Tryd.prog G 3 [strS s, intS .i64 p, intS .u8 c] (boolS true) := by
  refine fn_spec Tryd.func3 rfl rfl rfl ?_
  refine T_regionS ?_
  refine Run.one (ok_assign rfl rfl) rfl rfl rfl ?_
  refine Run.nil ?_
  refine T_seq ?_
  refine T_regionS ?_
  refine Run.one (ok_move rfl rfl) rfl rfl rfl ?_
  refine Run.one (ok_len_str rfl rfl) rfl rfl rfl ?_
  refine Run.one (ok_cmp rfl rfl rfl rfl) rfl rfl rfl ?_
  refine Run.nil ?_
  refine T_cond rfl rfl (fun h25 => ?_) (fun h25 => ?_)
  · have k25 := of_decide_eq_true h25
    refine T_regionS ?_
    refine Run.one (ok_call rfl rfl wakes6_spec) rfl rfl rfl ?_
    refine Run.one (ok_assign rfl rfl) rfl rfl rfl ?_
    refine Run.nil ?_
    refine T_ret ?_
    exact ⟨_, [], .one (.tmp rfl), List.nil_sublist _, rfl, rfl⟩
  · have k25 := of_decide_eq_false h25
    refine T_skip ?_
    refine T_seq ?_
    refine T_regionS ?_
    refine Run.one (ok_assign rfl rfl) rfl rfl rfl ?_
    refine Run.nil ?_
    refine T_block ?_
    refine T_loop (γ := Nat) (fun k => ⟨_, [(7, intS .i64 (k : Nat)), (0, strS s), (1, intS .i64 p), (2, intS .u8 c)], [], [], (0, false)⟩) (fun k => k ≤ s.length ∧ (s.take k).all isD = true) (fun k => s.length - k) 0 ⟨Nat.zero_le _, rfl⟩ (ent_g (subG_cons rfl (subG_cons rfl (subG_cons rfl (subG_cons rfl (trivial)))))) ?_
    rintro k ⟨hk, hall⟩
    refine T_seq ?_
    refine T_regionS ?_
    refine Run.one (ok_move rfl rfl) rfl rfl rfl ?_
    refine Run.one (ok_move rfl rfl) rfl rfl rfl ?_
    refine Run.one (ok_len_str rfl rfl) rfl rfl rfl ?_
    refine Run.one (ok_cmp rfl rfl rfl rfl) rfl rfl rfl ?_
    refine Run.nil ?_
    refine T_cond rfl rfl (fun h30 => ?_) (fun h30 => ?_)
    · have k30 := of_decide_eq_true h30
      refine T_skip ?_
      refine T_seq ?_
      refine T_block ?_
      refine T_regionS ?_
      refine Run.one (ok_move rfl rfl) rfl rfl rfl ?_
      refine Run.one (ok_move rfl rfl) rfl rfl rfl ?_
      refine Run.one (ok_index_str rfl rfl rfl (by omega) (c := s[k]) (List.getElem?_eq_getElem (by omega))) rfl rfl rfl ?_
      refine Run.oneB (ok_cmp rfl rfl rfl rfl) rfl rfl rfl (fun h6_3 => ?_) (fun h6_3 => ?_)
      · have k6_3 := of_decide_eq_true h6_3
        refine Run.one (ok_move rfl rfl) rfl rfl rfl ?_
        refine Run.no (gB rfl rfl rfl rfl) rfl rfl ?_
        refine Run.no (gB rfl rfl rfl rfl) rfl rfl ?_
        refine Run.no (gB rfl rfl rfl rfl) rfl rfl ?_
        refine Run.no (gB rfl rfl rfl rfl) rfl rfl ?_
        refine Run.one (ok_pick rfl rfl rfl) rfl rfl rfl ?_
        refine Run.nil ?_
        refine T_condT rfl rfl ?_
        refine T_regionS ?_
        refine Run.one (ok_call rfl rfl wakes6_spec) rfl rfl rfl ?_
        refine Run.one (ok_assign rfl rfl) rfl rfl rfl ?_
        refine Run.nil ?_
        refine T_ret ?_
        exact ⟨_, [], .one (.tmp rfl), List.nil_sublist _, rfl, rfl⟩
      · have k6_3 := of_decide_eq_false h6_3
        refine Run.one (ok_move rfl rfl) rfl rfl rfl ?_
        refine Run.one (ok_move rfl rfl) (gB rfl rfl rfl rfl) rfl rfl ?_
        refine Run.one (ok_move rfl rfl) (gB rfl rfl rfl rfl) rfl rfl ?_
        refine Run.one (ok_index_str rfl rfl rfl (by omega) (c := s[k]) (List.getElem?_eq_getElem (by omega))) (gB rfl rfl rfl rfl) rfl rfl ?_
        refine Run.one (ok_cmp rfl rfl rfl rfl) (gB rfl rfl rfl rfl) rfl rfl ?_
        refine Run.one (ok_pick rfl rfl rfl) rfl rfl rfl ?_
        refine Run.nil ?_
        refine T_cond rfl rfl (fun h42 => ?_) (fun h42 => ?_)
        · have k42 := of_decide_eq_true h42
          refine T_regionS ?_
          refine Run.one (ok_call rfl rfl wakes6_spec) rfl rfl rfl ?_
          refine Run.one (ok_assign rfl rfl) rfl rfl rfl ?_
          refine Run.nil ?_
          refine T_ret ?_
          exact ⟨_, [], .one (.tmp rfl), List.nil_sublist _, rfl, rfl⟩
        · have k42 := of_decide_eq_false h42
          refine T_skip ?_
          refine T_region ?_
          refine Run.one (ok_move rfl rfl) rfl rfl rfl ?_
          refine Run.one (ok_ari (z := ((k + 1 : Nat) : Int)) rfl rfl rfl (congrArg some (by omega)) (wrap_i64 (by omega) (by omega))) rfl rfl rfl ?_
          refine Run.one (ok_assign rfl rfl) rfl rfl rfl ?_
          refine Run.nil ?_
          exact ⟨k + 1, ⟨by omega, all_take (by omega) hall (by omega) (by omega)⟩, by omega, rfl, subG_cons rfl (subG_cons rfl (subG_cons rfl (subG_cons rfl (trivial)))), subH_refl _, rfl, rfl⟩
    · have k30 := of_decide_eq_false h30
      obtain rfl : k = s.length := by omega
      rw [List.take_length] at hall
      have hpe : okD s = decide (0 < (s.length : Int)) := by
        unfold okD
        rw [hall, show decide (s.length ≤ 60) = true from decide_eq_true (by omega)]
        cases s with
        | nil => rfl
        | cons a r => symm; simp
      obtain ⟨j, hj, hjl⟩ : ∃ j : Nat, (p.tmod ((s.length + 1 : Nat) : Int) + (s.length : Int) + 1) % ((s.length + 1 : Nat) : Int) = ((j : Nat) : Int) ∧ j ≤ s.length := ⟨((p.tmod ((s.length + 1 : Nat) : Int) + (s.length : Int) + 1) % ((s.length + 1 : Nat) : Int)).toNat, by have := Int.emod_nonneg (p.tmod ((s.length + 1 : Nat) : Int) + (s.length : Int) + 1) (show ((s.length + 1 : Nat) : Int) ≠ 0 by omega); omega, by have := Int.emod_lt_of_pos (p.tmod ((s.length + 1 : Nat) : Int) + (s.length : Int) + 1) (show 0 < ((s.length + 1 : Nat) : Int) by omega); have := Int.emod_nonneg (p.tmod ((s.length + 1 : Nat) : Int) + (s.length : Int) + 1) (show ((s.length + 1 : Nat) : Int) ≠ 0 by omega); omega⟩
      have hbd := tmod_bd p s.length
      have hok := okD_put (c := UInt8.ofNat c.toNat) hall hjl
      rw [isD_int hc0 hc1] at hok
      refine T_exit ?_
      refine T_regionS ?_
      refine Run.one (ok_move rfl rfl) rfl rfl rfl ?_
      refine Run.one (ok_call rfl rfl parse_spec) rfl rfl rfl ?_
      refine Run.one (ok_move rfl rfl) rfl rfl rfl ?_
      refine Run.one (ok_extract rfl rfl rfl) rfl rfl rfl ?_
      refine Run.one (ok_extract rfl rfl rfl) rfl rfl rfl ?_
      refine Run.one (ok_assign rfl rfl) rfl rfl rfl ?_
      refine Run.one (ok_assign rfl rfl) rfl rfl rfl ?_
      refine Run.nil ?_
      refine T_regionS ?_
      refine Run.one (ok_move rfl rfl) rfl rfl rfl ?_
      refine Run.one (ok_add_str rfl rfl rfl (by simp; omega)) rfl rfl rfl ?_
      refine Run.one (ok_call rfl rfl parse_minus) rfl rfl rfl ?_
      refine Run.one (ok_move rfl rfl) rfl rfl rfl ?_
      refine Run.one (ok_extract rfl rfl rfl) rfl rfl rfl ?_
      refine Run.one (ok_extract rfl rfl rfl) rfl rfl rfl ?_
      refine Run.alloc rfl rfl rfl rfl rfl fun b10 => ?_
      refine Run.store 0 rfl rfl rfl rfl rfl rfl rfl rfl rfl ?_
      refine Run.one (ok_assign rfl rfl) rfl rfl rfl ?_
      refine Run.nil ?_
      refine T_seq ?_
      refine T_regionS ?_
      refine Run.one (ok_move rfl rfl) rfl rfl rfl ?_
      refine Run.one ((ok_cmp rfl rfl rfl rfl).sub (bool_eq (peD_beq s))) rfl rfl rfl ?_
      refine Run.one (ok_move rfl rfl) rfl rfl rfl ?_
      refine Run.one (ok_len_str rfl rfl) rfl rfl rfl ?_
      refine Run.one (ok_cmp rfl rfl rfl rfl) rfl rfl rfl ?_
      refine Run.one ((ok_neq_bool rfl rfl rfl Tryd.isBool4).sub (bool_eq (c := false) (by rw [hpe]; simp))) rfl rfl rfl ?_
      refine Run.one (ok_move rfl rfl) rfl rfl rfl ?_
      refine Run.one (ok_move rfl rfl) (gB rfl rfl rfl rfl) rfl rfl ?_
      refine Run.one (ok_move rfl rfl) (gB rfl rfl rfl rfl) rfl rfl ?_
      refine Run.one ((ok_cmp rfl rfl rfl rfl).sub (bool_eq (c := false) (by simp))) (gB rfl rfl rfl rfl) rfl rfl ?_
      refine Run.one (ok_pick rfl rfl rfl) rfl rfl rfl ?_
      refine Run.nil ?_
      refine T_condF rfl rfl ?_
      refine T_skip ?_
      refine T_regionS ?_
      refine Run.one (ok_move rfl rfl) rfl rfl rfl ?_
      refine Run.one (ok_move rfl rfl) rfl rfl rfl ?_
      refine Run.one (ok_len_str rfl rfl) rfl rfl rfl ?_
      refine Run.one (ok_ari (z := ((s.length + 1 : Nat) : Int)) rfl rfl rfl (congrArg some (by omega)) (wrap_i64 (by omega) (by omega))) rfl rfl rfl ?_
      refine Run.one (ok_tmod rfl rfl rfl (by omega)) rfl rfl rfl ?_
      refine Run.one (ok_move rfl rfl) rfl rfl rfl ?_
      refine Run.one (ok_len_str rfl rfl) rfl rfl rfl ?_
      refine Run.one (ok_ari (z := p.tmod ((s.length + 1 : Nat) : Int) + (s.length : Int)) rfl rfl rfl rfl (wrap_i64 (by omega) (by omega))) rfl rfl rfl ?_
      refine Run.one (ok_ari (z := p.tmod ((s.length + 1 : Nat) : Int) + (s.length : Int) + 1) rfl rfl rfl rfl (wrap_i64 (by omega) (by omega))) rfl rfl rfl ?_
      refine Run.one (ok_move rfl rfl) rfl rfl rfl ?_
      refine Run.one (ok_len_str rfl rfl) rfl rfl rfl ?_
      refine Run.one (ok_ari (z := ((s.length + 1 : Nat) : Int)) rfl rfl rfl (congrArg some (by omega)) (wrap_i64 (by omega) (by omega))) rfl rfl rfl ?_
      refine Run.one ((ok_rem rfl rfl rfl (by omega) (by omega)).sub (int_eq (n := ((j : Nat) : Int)) hj)) rfl rfl rfl ?_
      refine Run.one (ok_assign rfl rfl) rfl rfl rfl ?_
      refine Run.nil ?_
      refine T_drawS 12 (by kernel_rfl) ?_
      refine Run.one (ok_move rfl rfl) rfl rfl rfl ?_
      refine Run.one (ok_move rfl rfl) rfl rfl rfl ?_
      refine Run.one ((ok_slice_str (lo := 0) (hi := j) rfl rfl (.inl ⟨rfl, rfl⟩) (.inr ⟨_, _, rfl, rfl⟩) (by omega) hjl).sub (str_eq List.drop_zero)) rfl rfl rfl ?_
      refine Run.one (ok_move rfl rfl) rfl rfl rfl ?_
      refine Run.one (ok_buildSlice rfl rfl (by decide) rfl (by simp) rfl rfl) rfl rfl rfl ?_
      refine Run.one (ok_str_of rfl rfl (u8_lit hc0 hc1)) rfl rfl rfl ?_
      refine Run.one (ok_add_str rfl rfl rfl (by simp; omega)) rfl rfl rfl ?_
      refine Run.one (ok_move rfl rfl) rfl rfl rfl ?_
      refine Run.one (ok_move rfl rfl) rfl rfl rfl ?_
      refine Run.one ((ok_slice_str (lo := j) (hi := s.length) rfl rfl (.inr ⟨_, _, rfl, rfl⟩) (.inl ⟨rfl, rfl⟩) hjl (Nat.le_refl _)).sub (str_eq (by rw [List.take_length]))) rfl rfl rfl ?_
      refine Run.one (ok_add_str rfl rfl rfl (by simp; omega)) rfl rfl rfl ?_
      refine Run.one (ok_assign rfl rfl) rfl rfl rfl ?_
      refine Run.nil ?_
      refine Run.nil ?_
      refine T_regionS ?_
      refine Run.one (ok_move rfl rfl) rfl rfl rfl ?_
      refine Run.one (ok_call rfl rfl parse_spec) rfl rfl rfl ?_
      refine Run.one (ok_move rfl rfl) rfl rfl rfl ?_
      refine Run.one (ok_extract rfl rfl rfl) rfl rfl rfl ?_
      refine Run.one (ok_extract rfl rfl rfl) rfl rfl rfl ?_
      refine Run.one (ok_assign rfl rfl) rfl rfl rfl ?_
      refine Run.one (ok_assign rfl rfl) rfl rfl rfl ?_
      refine Run.nil ?_
      refine T_regionS ?_
      refine Run.one (ok_move rfl rfl) rfl rfl rfl ?_
      refine Run.one (ok_add_str rfl rfl rfl (by simp; omega)) rfl rfl rfl ?_
      refine Run.one (ok_call rfl rfl parse_mm) rfl rfl rfl ?_
      refine Run.one (ok_move rfl rfl) rfl rfl rfl ?_
      refine Run.one (ok_extract rfl rfl rfl) rfl rfl rfl ?_
      refine Run.one (ok_extract rfl rfl rfl) rfl rfl rfl ?_
      refine Run.alloc rfl rfl rfl rfl rfl fun b15 => ?_
      refine Run.store 0 rfl rfl rfl rfl rfl rfl rfl rfl rfl ?_
      refine Run.one (ok_assign rfl rfl) rfl rfl rfl ?_
      refine Run.nil ?_
      refine T_ghost (ghost_drop (h' := []) (List.nil_sublist _)) ?_
      refine T_regionS ?_
      refine Run.one (ok_move rfl rfl) rfl rfl rfl ?_
      refine Run.one (ok_assign rfl rfl) rfl rfl rfl ?_
      refine Run.nil ?_
      refine T_seq ?_
      refine T_block ?_
      refine T_loop (γ := Nat) (fun i => ⟨_, [(17, strS (List.replicate i 48 ++ s)), (16, intS .i64 60), (14, intS .i64 (peD (s.take j ++ [UInt8.ofNat c.toNat] ++ s.drop j))), (12, strS (s.take j ++ [UInt8.ofNat c.toNat] ++ s.drop j)), (2, intS .u8 c)], [], [], (0, false)⟩) (fun i => i + s.length ≤ 61) (fun i => 61 - i) 0 (by omega) (ent_g (subG_cons rfl (subG_cons rfl (subG_cons rfl (subG_cons rfl (subG_cons rfl (trivial))))))) ?_
      intro i hi
      have hil : (List.replicate i 48 ++ s).length = i + s.length := by rw [List.length_append, List.length_replicate]
      refine T_seq ?_
      refine T_regionS ?_
      refine Run.one (ok_move rfl rfl) rfl rfl rfl ?_
      refine Run.one ((ok_len_str rfl rfl).sub (int_eq (n := ((i + s.length : Nat) : Int)) (by rw [hil]))) rfl rfl rfl ?_
      refine Run.one (ok_cmp rfl rfl rfl rfl) rfl rfl rfl ?_
      refine Run.nil ?_
      refine T_cond rfl rfl (fun h104 => ?_) (fun h104 => ?_)
      · have k104 := of_decide_eq_true h104
        refine T_skip ?_
        refine T_block ?_
        refine T_region ?_
        refine Run.one (ok_move rfl rfl) rfl rfl rfl ?_
        refine Run.one (ok_add_str rfl rfl rfl (by rw [hil]; simp; omega)) rfl rfl rfl ?_
        refine Run.one (ok_assign rfl rfl) rfl rfl rfl ?_
        refine Run.nil ?_
        exact ⟨i + 1, by omega, by omega, rfl, subG_as rfl (congrArg strS (by rw [List.replicate_succ]; rfl)) (subG_cons rfl (subG_cons rfl (subG_cons rfl (subG_cons rfl (trivial))))), subH_refl _, rfl, rfl⟩
      · have k104 := of_decide_eq_false h104
        have hlong : 60 < (List.replicate i 48 ++ s).length := by omega
        refine T_exit ?_
        refine T_regionS ?_
        refine Run.one (ok_move rfl rfl) rfl rfl rfl ?_
        refine Run.one (ok_call rfl rfl (parse_long hlong)) rfl rfl rfl ?_
        refine Run.one (ok_move rfl rfl) rfl rfl rfl ?_
        refine Run.one (ok_extract rfl rfl rfl) rfl rfl rfl ?_
        refine Run.one (ok_extract rfl rfl rfl) rfl rfl rfl ?_
        refine Run.one (ok_assign rfl rfl) rfl rfl rfl ?_
        refine Run.one (ok_assign rfl rfl) rfl rfl rfl ?_
        refine Run.nil ?_
        refine T_regionS ?_
        refine Run.one (ok_move rfl rfl) rfl rfl rfl ?_
        refine Run.one (ok_add_str rfl rfl rfl (by rw [hil]; simp; omega)) rfl rfl rfl ?_
        refine Run.one (ok_call rfl rfl (parse_mlong hlong)) rfl rfl rfl ?_
        refine Run.one (ok_move rfl rfl) rfl rfl rfl ?_
        refine Run.one (ok_extract rfl rfl rfl) rfl rfl rfl ?_
        refine Run.one (ok_extract rfl rfl rfl) rfl rfl rfl ?_
        refine Run.alloc rfl rfl rfl rfl rfl fun b20 => ?_
        refine Run.store 0 rfl rfl rfl rfl rfl rfl rfl rfl rfl ?_
        refine Run.one (ok_assign rfl rfl) rfl rfl rfl ?_
        refine Run.nil ?_
        refine T_regionS ?_
        refine Run.one (ok_move rfl rfl) rfl rfl rfl ?_
        refine Run.oneB (ok_cmp rfl rfl rfl rfl) rfl rfl rfl (fun h21_1 => ?_) (fun h21_1 => ?_)
        · have k21_1 := of_decide_eq_true h21_1
          refine Run.one (ok_move rfl rfl) rfl rfl rfl ?_
          refine Run.one (ok_move rfl rfl) (gB rfl rfl rfl rfl) rfl rfl ?_
          refine Run.one (ok_cmp rfl rfl rfl rfl) (gB rfl rfl rfl rfl) rfl rfl ?_
          refine Run.oneB (ok_pick rfl rfl rfl) rfl rfl rfl (fun h21_5 => ?_) (fun h21_5 => ?_)
          · have k21_5 := of_decide_eq_true h21_5
            refine Run.one (ok_move rfl rfl) rfl rfl rfl ?_
            refine Run.one (ok_move rfl rfl) (gB rfl rfl rfl rfl) rfl rfl ?_
            refine Run.one ((ok_len_str rfl rfl).sub (int_eq (n := ((s.length + 1 : Nat) : Int)) (by simp; omega))) (gB rfl rfl rfl rfl) rfl rfl ?_
            refine Run.one (ok_cmp rfl rfl rfl rfl) (gB rfl rfl rfl rfl) rfl rfl ?_
            refine Run.one ((ok_pick rfl rfl rfl).sub (bool_eq (c := okD (s.take j ++ [UInt8.ofNat c.toNat] ++ s.drop j)) (by rw [hok]; first | (rw [decide_eq_true k21_1, decide_eq_true k21_5]; exact decide_eq_decide.2 (by omega)) | (rw [decide_eq_false k21_5]; simp) | (rw [decide_eq_false k21_1]; rfl)))) rfl rfl rfl ?_
            refine Run.one (ok_assign rfl rfl) rfl rfl rfl ?_
            refine Run.nil ?_
            refine T_regionS ?_
            refine Run.one (ok_move rfl rfl) rfl rfl rfl ?_
            refine Run.one ((ok_cmp rfl rfl rfl rfl).sub (bool_eq (peD_beq _))) rfl rfl rfl ?_
            refine Run.one (ok_move rfl rfl) rfl rfl rfl ?_
            refine Run.one ((ok_eql_bool rfl rfl rfl Tryd.isBool4).sub (bool_eq (c := true) (by simp))) rfl rfl rfl ?_
            refine Run.one (ok_move rfl rfl) rfl rfl rfl ?_
            refine Run.one (ok_move rfl rfl) (gB rfl rfl rfl rfl) rfl rfl ?_
            refine Run.one ((ok_cmp rfl rfl rfl rfl).sub (bool_eq (c := true) (rfl))) (gB rfl rfl rfl rfl) rfl rfl ?_
            refine Run.one (ok_pick rfl rfl rfl) rfl rfl rfl ?_
            refine Run.one (ok_move rfl rfl) rfl rfl rfl ?_
            refine Run.one (ok_move rfl rfl) (gB rfl rfl rfl rfl) rfl rfl ?_
            refine Run.one ((ok_cmp rfl rfl rfl rfl).sub (bool_eq (c := true) (rfl))) (gB rfl rfl rfl rfl) rfl rfl ?_
            refine Run.one (ok_pick rfl rfl rfl) rfl rfl rfl ?_
            refine Run.one (ok_move rfl rfl) rfl rfl rfl ?_
            refine Run.one (ok_move rfl rfl) (gB rfl rfl rfl rfl) rfl rfl ?_
            refine Run.one ((ok_cmp rfl rfl rfl rfl).sub (bool_eq (c := true) (rfl))) (gB rfl rfl rfl rfl) rfl rfl ?_
            refine Run.one (ok_pick rfl rfl rfl) rfl rfl rfl ?_
            refine Run.one (ok_move rfl rfl) rfl rfl rfl ?_
            refine Run.one (ok_call rfl rfl wakes6_spec) (gB rfl rfl rfl rfl) rfl rfl ?_
            refine Run.one (ok_pick rfl rfl rfl) rfl rfl rfl ?_
            refine Run.one (ok_assign rfl rfl) rfl rfl rfl ?_
            refine Run.nil ?_
            refine T_ret ?_
            exact ⟨_, [], .one (.tmp rfl), List.nil_sublist _, rfl, rfl⟩
          · have k21_5 := of_decide_eq_false h21_5
            refine Run.one (ok_move rfl rfl) rfl rfl rfl ?_
            refine Run.no (gB rfl rfl rfl rfl) rfl rfl ?_
            refine Run.no (gB rfl rfl rfl rfl) rfl rfl ?_
            refine Run.no (gB rfl rfl rfl rfl) rfl rfl ?_
            refine Run.one ((ok_pick rfl rfl rfl).sub (bool_eq (c := okD (s.take j ++ [UInt8.ofNat c.toNat] ++ s.drop j)) (by rw [hok]; first | (rw [decide_eq_true k21_1, decide_eq_true k21_5]; exact decide_eq_decide.2 (by omega)) | (rw [decide_eq_false k21_5]; simp) | (rw [decide_eq_false k21_1]; rfl)))) rfl rfl rfl ?_
            refine Run.one (ok_assign rfl rfl) rfl rfl rfl ?_
            refine Run.nil ?_
            refine T_regionS ?_
            refine Run.one (ok_move rfl rfl) rfl rfl rfl ?_
            refine Run.one ((ok_cmp rfl rfl rfl rfl).sub (bool_eq (peD_beq _))) rfl rfl rfl ?_
            refine Run.one (ok_move rfl rfl) rfl rfl rfl ?_
            refine Run.one ((ok_eql_bool rfl rfl rfl Tryd.isBool4).sub (bool_eq (c := true) (by simp))) rfl rfl rfl ?_
            refine Run.one (ok_move rfl rfl) rfl rfl rfl ?_
            refine Run.one (ok_move rfl rfl) (gB rfl rfl rfl rfl) rfl rfl ?_
            refine Run.one ((ok_cmp rfl rfl rfl rfl).sub (bool_eq (c := true) (rfl))) (gB rfl rfl rfl rfl) rfl rfl ?_
            refine Run.one (ok_pick rfl rfl rfl) rfl rfl rfl ?_
            refine Run.one (ok_move rfl rfl) rfl rfl rfl ?_
            refine Run.one (ok_move rfl rfl) (gB rfl rfl rfl rfl) rfl rfl ?_
            refine Run.one ((ok_cmp rfl rfl rfl rfl).sub (bool_eq (c := true) (rfl))) (gB rfl rfl rfl rfl) rfl rfl ?_
            refine Run.one (ok_pick rfl rfl rfl) rfl rfl rfl ?_
            refine Run.one (ok_move rfl rfl) rfl rfl rfl ?_
            refine Run.one (ok_move rfl rfl) (gB rfl rfl rfl rfl) rfl rfl ?_
            refine Run.one ((ok_cmp rfl rfl rfl rfl).sub (bool_eq (c := true) (rfl))) (gB rfl rfl rfl rfl) rfl rfl ?_
            refine Run.one (ok_pick rfl rfl rfl) rfl rfl rfl ?_
            refine Run.one (ok_move rfl rfl) rfl rfl rfl ?_
            refine Run.one (ok_call rfl rfl wakes6_spec) (gB rfl rfl rfl rfl) rfl rfl ?_
            refine Run.one (ok_pick rfl rfl rfl) rfl rfl rfl ?_
            refine Run.one (ok_assign rfl rfl) rfl rfl rfl ?_
            refine Run.nil ?_
            refine T_ret ?_
            exact ⟨_, [], .one (.tmp rfl), List.nil_sublist _, rfl, rfl⟩
        · have k21_1 := of_decide_eq_false h21_1
          refine Run.one (ok_move rfl rfl) rfl rfl rfl ?_
          refine Run.no (gB rfl rfl rfl rfl) rfl rfl ?_
          refine Run.no (gB rfl rfl rfl rfl) rfl rfl ?_
          refine Run.one (ok_pick rfl rfl rfl) rfl rfl rfl ?_
          refine Run.one (ok_move rfl rfl) rfl rfl rfl ?_
          refine Run.no (gB rfl rfl rfl rfl) rfl rfl ?_
          refine Run.no (gB rfl rfl rfl rfl) rfl rfl ?_
          refine Run.no (gB rfl rfl rfl rfl) rfl rfl ?_
          refine Run.one ((ok_pick rfl rfl rfl).sub (bool_eq (c := okD (s.take j ++ [UInt8.ofNat c.toNat] ++ s.drop j)) (by rw [hok]; first | (rw [decide_eq_true k21_1, decide_eq_true k21_5]; exact decide_eq_decide.2 (by omega)) | (rw [decide_eq_false k21_5]; simp) | (rw [decide_eq_false k21_1]; rfl)))) rfl rfl rfl ?_
          refine Run.one (ok_assign rfl rfl) rfl rfl rfl ?_
          refine Run.nil ?_
          refine T_regionS ?_
          refine Run.one (ok_move rfl rfl) rfl rfl rfl ?_
          refine Run.one ((ok_cmp rfl rfl rfl rfl).sub (bool_eq (peD_beq _))) rfl rfl rfl ?_
          refine Run.one (ok_move rfl rfl) rfl rfl rfl ?_
          refine Run.one ((ok_eql_bool rfl rfl rfl Tryd.isBool4).sub (bool_eq (c := true) (by simp))) rfl rfl rfl ?_
          refine Run.one (ok_move rfl rfl) rfl rfl rfl ?_
          refine Run.one (ok_move rfl rfl) (gB rfl rfl rfl rfl) rfl rfl ?_
          refine Run.one ((ok_cmp rfl rfl rfl rfl).sub (bool_eq (c := true) (rfl))) (gB rfl rfl rfl rfl) rfl rfl ?_
          refine Run.one (ok_pick rfl rfl rfl) rfl rfl rfl ?_
          refine Run.one (ok_move rfl rfl) rfl rfl rfl ?_
          refine Run.one (ok_move rfl rfl) (gB rfl rfl rfl rfl) rfl rfl ?_
          refine Run.one ((ok_cmp rfl rfl rfl rfl).sub (bool_eq (c := true) (rfl))) (gB rfl rfl rfl rfl) rfl rfl ?_
          refine Run.one (ok_pick rfl rfl rfl) rfl rfl rfl ?_
          refine Run.one (ok_move rfl rfl) rfl rfl rfl ?_
          refine Run.one (ok_move rfl rfl) (gB rfl rfl rfl rfl) rfl rfl ?_
          refine Run.one ((ok_cmp rfl rfl rfl rfl).sub (bool_eq (c := true) (rfl))) (gB rfl rfl rfl rfl) rfl rfl ?_
          refine Run.one (ok_pick rfl rfl rfl) rfl rfl rfl ?_
          refine Run.one (ok_move rfl rfl) rfl rfl rfl ?_
          refine Run.one (ok_call rfl rfl wakes6_spec) (gB rfl rfl rfl rfl) rfl rfl ?_
          refine Run.one (ok_pick rfl rfl rfl) rfl rfl rfl ?_
          refine Run.one (ok_assign rfl rfl) rfl rfl rfl ?_
          refine Run.nil ?_
          refine T_ret ?_
          exact ⟨_, [], .one (.tmp rfl), List.nil_sublist _, rfl, rfl⟩
end Go.Proofs
