/- straitlaw11: what the document says of lines; the law LineBack, on the facts. -/
import Derived.Test.YtcdlcfihjfhkgaaGreatDoorSsn
namespace Go.Proofs
open Go Go.Sv Num
variable {G : Imm}
abbrev bad6 : List (List UInt8) := [[43, 49], [49, 47], [47, 49], [49, 47, 45, 50], [], [49, 47, 50, 47, 51]]
theorem bad6_num : ∀ k, k < 6 → num3 (bad6.getD k default) = (0, 0, 60) ∧ (bad6.getD k default).length ≤ 100 := by decide +kernel
theorem agg_lit {b : Bool} {m : List Nat} {d : Nat} (I : Imm) (x : Value) (h : (aggS [boolS b, natS m, slS 1 id [[intS .u32 (d : Nat)]]]).den I x) : (aggS [boolS b, natS m, natS [d]]).den I x := by
  obtain ⟨xs, hv, hd, h1⟩ := h
  refine ⟨xs, hv, ?_, h1⟩
  obtain ⟨x, y, z, rfl, hx, hy, hz⟩ := dens_three hd
  exact dens_cons hx (dens_cons hy (dens_cons (natLit (l := [d]) I z hz) dens_nil))
theorem txt72 : txtF (mkRat (-7) 2) = [45, 55, 47, 50] := by
  have h1 : (mkRat (-7) 2).num = -7 := by decide +kernel
  have h2 : (mkRat (-7) 2).den = 2 := by decide +kernel
  have h3 : Lib.decDigits 7 = [55] := by rw [Lib.decDigits, dif_pos (by decide)]; rfl
  have h4 : Lib.decDigits 2 = [50] := by rw [Lib.decDigits, dif_pos (by decide)]; rfl
  unfold txtF itxt
  rw [h1, h2, if_pos (by decide), if_neg (by decide), h4, show (-7 : Int).natAbs = 7 from rfl, h3]; rfl
instance bq72 : Bq (mkRat (-7) 2) 1 := ⟨by decide +kernel, by decide +kernel⟩
theorem wakes11_spec [Tab G] [Tab10 G] [MaxLen G] : PSpec Tryz.prog G 12 [] (boolS true) := by
  have hn1 := number_spec (G := G) (s := [45, 48, 55, 47, 50]) (by decide)
  rw [show num3 [45, 48, 55, 47, 50] = (mkRat (-7) 2, 2, 0) by decide +kernel] at hn1
  have hn2 := number_spec (G := G) (s := [49, 47, 48, 48]) (by decide)
  rw [show num3 [49, 47, 48, 48] = (0, 2, 30) by decide +kernel] at hn2
  have hln := lines_spec (G := G) (s := [97, 32, 98, 10, 99, 10]) (by decide)
  rw [show lnOk [97, 32, 98, 10, 99, 10] = true by decide +kernel, if_pos rfl, if_pos (Or.inr rfl), show spl 10 (Lib.trimSuffix [97, 32, 98, 10, 99, 10] [10]) = [[97, 32, 98], [99]] by decide +kernel] at hln
  have hwd := words_spec (G := G) (s := [97, 32, 32, 98]) (by decide)
  rw [show ful (spl 32 [97, 32, 32, 98]) = false by decide +kernel, if_neg (by decide), if_neg (by decide)] at hwd
  have htx := ltext_spec (G := G) (b := decide ((mkRat (-7) 2).num < 0)) (l := dig (mkRat (-7) 2).num.natAbs) (d := dig (mkRat (-7) 2).den) (q := mkRat (-7) 2) (k := 1) (by decide)
  rw [txt72] at htx
  refine fn_spec Tryz.func12 rfl rfl rfl ?_
  refine T_regionS ?_
  refine Run.one (ok_assign rfl rfl) rfl rfl rfl ?_
  refine Run.nil ?_
  refine T_regionS ?_
  refine Run.one (ok_call rfl rfl hn1) rfl rfl rfl ?_
  refine Run.one (ok_move rfl rfl) rfl rfl rfl ?_
  refine Run.one (ok_extract rfl rfl rfl) rfl rfl rfl ?_
  refine Run.one (ok_extract rfl rfl rfl) rfl rfl rfl ?_
  refine Run.one (ok_extract rfl rfl rfl) rfl rfl rfl ?_
  refine Run.alloc rfl rfl rfl rfl rfl fun b1 => ?_
  refine Run.store 0 rfl rfl rfl rfl rfl rfl rfl rfl rfl ?_
  refine Run.one (ok_assign rfl rfl) rfl rfl rfl ?_
  refine Run.one (ok_assign rfl rfl) rfl rfl rfl ?_
  refine Run.nil ?_
  refine T_regionS ?_
  refine Run.one (ok_call rfl rfl hn2) rfl rfl rfl ?_
  refine Run.one (ok_move rfl rfl) rfl rfl rfl ?_
  refine Run.one (ok_extract rfl rfl rfl) rfl rfl rfl ?_
  refine Run.one (ok_extract rfl rfl rfl) rfl rfl rfl ?_
  refine Run.one (ok_extract rfl rfl rfl) rfl rfl rfl ?_
  refine Run.alloc rfl rfl rfl rfl rfl fun b4 => ?_
  refine Run.store 0 rfl rfl rfl rfl rfl rfl rfl rfl rfl ?_
  refine Run.one (ok_assign rfl rfl) rfl rfl rfl ?_
  refine Run.one (ok_assign rfl rfl) rfl rfl rfl ?_
  refine Run.nil ?_
  refine T_seq ?_
  refine T_regionS ?_
  refine Run.one (ok_buildSlice rfl rfl (by decide) rfl (by simp) rfl rfl) rfl rfl rfl ?_
  refine Run.one (ok_len rfl rfl) rfl rfl rfl ?_
  refine Run.one (ok_move rfl rfl) rfl rfl rfl ?_
  refine Run.nil ?_
  refine T_block ?_
  refine T_loop (γ := Nat) (fun k => ⟨_, [(28, intS .i64 (k : Nat)), (27, intS .i64 6), (26, slS 1 tC bad6), (1, eqS (.pointer (some ⟨b1, 0, none⟩))), (2, intS .i64 2), (3, intS .i64 0), (5, intS .i64 2), (6, intS .i64 30)], [⟨some b4, 27, canQ 0, 0⟩, ⟨some b1, 27, canQ (mkRat (-7) 2), 0⟩], [], (0, false)⟩) (fun k => k ≤ 6) (fun k => 6 - k) 0 (Nat.zero_le _) (ent_h (subG_cons rfl (subG_cons rfl ⟨⟨_, rfl, fun I v h => sl_map (f := tC) (l := bad6) h⟩, subG_cons rfl (subG_cons rfl (subG_cons rfl (subG_cons rfl (subG_cons rfl (trivial)))))⟩)) rfl) ?_
  intro k hk
  refine T_regionS ?_
  refine Run.one (ok_cmp rfl rfl rfl rfl) rfl rfl rfl ?_
  refine Run.nil ?_
  refine T_seq ?_
  refine T_cond rfl rfl (fun h29 => ?_) (fun h29 => ?_)
  · have k29 := of_decide_eq_true h29
    have hk6 : k < 6 := by omega
    obtain ⟨hn, hnl⟩ := bad6_num k hk6
    have hns := number_spec (G := G) (s := bad6.getD k default) (by omega)
    rw [hn] at hns
    refine T_skip ?_
    refine T_seq ?_
    refine T_block ?_
    refine T_regionS ?_
    refine Run.one (ok_indexAddr rfl rfl rfl (by omega) (y := bad6.getD k default) (getDt (by exact hk6))) rfl rfl rfl ?_
    refine Run.one (ok_load rfl rfl) rfl rfl rfl ?_
    refine Run.one (ok_assign rfl rfl) rfl rfl rfl ?_
    refine Run.nil ?_
    refine T_regionS ?_
    refine Run.one (ok_move rfl rfl) rfl rfl rfl ?_
    refine Run.one (ok_call rfl rfl hns) rfl rfl rfl ?_
    refine Run.one (ok_move rfl rfl) rfl rfl rfl ?_
    refine Run.one (ok_extract rfl rfl rfl) rfl rfl rfl ?_
    refine Run.one (ok_extract rfl rfl rfl) rfl rfl rfl ?_
    refine Run.one (ok_extract rfl rfl rfl) rfl rfl rfl ?_
    refine Run.alloc rfl rfl rfl rfl rfl fun b9 => ?_
    refine Run.store 0 rfl rfl rfl rfl rfl rfl rfl rfl rfl ?_
    refine Run.one (ok_assign rfl rfl) rfl rfl rfl ?_
    refine Run.one (ok_assign rfl rfl) rfl rfl rfl ?_
    refine Run.nil ?_
    refine T_regionS ?_
    refine Run.one (ok_move rfl rfl) rfl rfl rfl ?_
    refine Run.one ((ok_cmp rfl rfl rfl rfl).sub (bool_eq (c := false) (rfl))) rfl rfl rfl ?_
    refine Run.one (ok_move rfl rfl) rfl rfl rfl ?_
    refine Run.one (ok_move rfl rfl) (gB rfl rfl rfl rfl) rfl rfl ?_
    refine Run.one ((ok_cmp rfl rfl rfl rfl).sub (bool_eq (c := false) (rfl))) (gB rfl rfl rfl rfl) rfl rfl ?_
    refine Run.one (ok_pick rfl rfl rfl) rfl rfl rfl ?_
    refine Run.nil ?_
    refine T_condF rfl rfl ?_
    refine T_skip ?_
    refine T_ghost (ghost_drop (h' := [_, _]) (List.sublist_cons_self _ _)) ?_
    refine T_region ?_
    refine Run.one (ok_ari (z := ((k + 1 : Nat) : Int)) rfl rfl rfl (congrArg some (by omega)) (wrap_i64 (by omega) (by omega))) rfl rfl rfl ?_
    refine Run.one (ok_move rfl rfl) rfl rfl rfl ?_
    refine Run.nil ?_
    exact ⟨k + 1, by omega, by omega, ent_h (subG_cons rfl (subG_cons rfl (subG_cons rfl (subG_cons rfl (subG_cons rfl (subG_cons rfl (subG_cons rfl (subG_cons rfl (trivial))))))))) rfl⟩
  · have k29 := of_decide_eq_false h29
    refine T_exit ?_
    refine T_regionS ?_
    refine Run.one (ok_call rfl rfl hln) rfl rfl rfl ?_
    refine Run.one (ok_move rfl rfl) rfl rfl rfl ?_
    refine Run.one (ok_extract rfl rfl rfl) rfl rfl rfl ?_
    refine Run.one (ok_extract rfl rfl rfl) rfl rfl rfl ?_
    refine Run.one (ok_assign rfl rfl) rfl rfl rfl ?_
    refine Run.one (ok_assign rfl rfl) rfl rfl rfl ?_
    refine Run.nil ?_
    refine T_regionS ?_
    refine Run.one (ok_call rfl rfl hwd) rfl rfl rfl ?_
    refine Run.one (ok_move rfl rfl) rfl rfl rfl ?_
    refine Run.one (ok_extract rfl rfl rfl) rfl rfl rfl ?_
    refine Run.one (ok_extract rfl rfl rfl) rfl rfl rfl ?_
    refine Run.one (ok_assign rfl rfl) rfl rfl rfl ?_
    refine Run.one (ok_assign rfl rfl) rfl rfl rfl ?_
    refine Run.nil ?_
    refine T_drawS 45 (by kernel_rfl) ?_
    refine Run.one (ok_move rfl rfl) rfl rfl rfl ?_
    refine Run.one ((ok_cmp rfl rfl rfl rfl).sub (bool_eq (c := true) (rfl))) rfl rfl rfl ?_
    refine Run.one (ok_move rfl rfl) rfl rfl rfl ?_
    refine Run.one (ok_move rfl rfl) (gB rfl rfl rfl rfl) rfl rfl ?_
    refine Run.one ((ok_cmp rfl rfl rfl rfl).sub (bool_eq (c := true) (rfl))) (gB rfl rfl rfl rfl) rfl rfl ?_
    refine Run.one (ok_pick rfl rfl rfl) rfl rfl rfl ?_
    refine Run.one (ok_move rfl rfl) rfl rfl rfl ?_
    refine Run.one (ok_load_own_agg 1 rfl rfl rfl rfl rfl) (gB rfl rfl rfl rfl) rfl rfl ?_
    refine Run.one (ok_call rfl rfl (rzOf_spec (n := -7) (by decide) (by decide))) (gB rfl rfl rfl rfl) rfl rfl ?_
    refine Run.one (ok_buildSlice rfl rfl (by decide) rfl (by simp) rfl rfl) (gB rfl rfl rfl rfl) rfl rfl ?_
    refine Run.one ((ok_build rfl rfl rfl).sub (agg_lit (d := 2))) (gB rfl rfl rfl rfl) rfl rfl ?_
    refine Run.one ((ok_call rfl rfl rqtold_spec).sub (bool_eq (c := true) (decide_eq_true (by rw [show (mkRat (-7) 2).num = -7 by decide +kernel, show (mkRat (-7) 2).den = 2 by decide +kernel, show dig 2 = [2] by rw [dig_pos (by decide), show 2 / 4294967296 = 0 from rfl, dig_zero]]; exact ⟨⟨rfl, rfl⟩, rfl⟩)))) (gB rfl rfl rfl rfl) rfl rfl ?_
    refine Run.one (ok_pick rfl rfl rfl) rfl rfl rfl ?_
    refine Run.one (ok_move rfl rfl) rfl rfl rfl ?_
    refine Run.one (ok_move rfl rfl) (gB rfl rfl rfl rfl) rfl rfl ?_
    refine Run.one ((ok_cmp rfl rfl rfl rfl).sub (bool_eq (c := true) (rfl))) (gB rfl rfl rfl rfl) rfl rfl ?_
    refine Run.one (ok_pick rfl rfl rfl) rfl rfl rfl ?_
    refine Run.one (ok_move rfl rfl) rfl rfl rfl ?_
    refine Run.one (ok_move rfl rfl) (gB rfl rfl rfl rfl) rfl rfl ?_
    refine Run.one ((ok_cmp rfl rfl rfl rfl).sub (bool_eq (c := true) (rfl))) (gB rfl rfl rfl rfl) rfl rfl ?_
    refine Run.one (ok_pick rfl rfl rfl) rfl rfl rfl ?_
    refine Run.one (ok_move rfl rfl) rfl rfl rfl ?_
    refine Run.one (ok_move rfl rfl) (gB rfl rfl rfl rfl) rfl rfl ?_
    refine Run.one ((ok_cmp rfl rfl rfl rfl).sub (bool_eq (c := true) (rfl))) (gB rfl rfl rfl rfl) rfl rfl ?_
    refine Run.one (ok_pick rfl rfl rfl) rfl rfl rfl ?_
    refine Run.one (ok_move rfl rfl) rfl rfl rfl ?_
    refine Run.one (ok_move rfl rfl) (gB rfl rfl rfl rfl) rfl rfl ?_
    refine Run.one (ok_len rfl rfl) (gB rfl rfl rfl rfl) rfl rfl ?_
    refine Run.one ((ok_cmp rfl rfl rfl rfl).sub (bool_eq (c := true) (rfl))) (gB rfl rfl rfl rfl) rfl rfl ?_
    refine Run.one (ok_pick rfl rfl rfl) rfl rfl rfl ?_
    refine Run.one (ok_move rfl rfl) rfl rfl rfl ?_
    refine Run.one (ok_move rfl rfl) (gB rfl rfl rfl rfl) rfl rfl ?_
    refine Run.one ((ok_cmp rfl rfl rfl rfl).sub (bool_eq (c := true) (rfl))) (gB rfl rfl rfl rfl) rfl rfl ?_
    refine Run.one (ok_pick rfl rfl rfl) rfl rfl rfl ?_
    refine Run.one (ok_move rfl rfl) rfl rfl rfl ?_
    refine Run.one (ok_load_own_agg 1 rfl rfl rfl rfl rfl) (gB rfl rfl rfl rfl) rfl rfl ?_
    refine Run.one (ok_call rfl rfl htx) (gB rfl rfl rfl rfl) rfl rfl ?_
    refine Run.one ((ok_cmp_str rfl rfl rfl rfl).sub (bool_eq (c := true) (rfl))) (gB rfl rfl rfl rfl) rfl rfl ?_
    refine Run.one (ok_pick rfl rfl rfl) rfl rfl rfl ?_
    refine Run.one (ok_move rfl rfl) rfl rfl rfl ?_
    refine Run.one (ok_buildSlice rfl rfl (by decide) rfl (by simp) rfl rfl) (gB rfl rfl rfl rfl) rfl rfl ?_
    refine Run.one (ok_call rfl rfl ((ljoin_spec (ws := [[97], [98]]) (by decide)).args ⟨fun I v h => sl_map (f := tC) (l := [[97], [98]]) h, trivial⟩)) (gB rfl rfl rfl rfl) rfl rfl ?_
    refine Run.one ((ok_cmp_str rfl rfl rfl rfl).sub (bool_eq (c := true) (rfl))) (gB rfl rfl rfl rfl) rfl rfl ?_
    refine Run.one (ok_pick rfl rfl rfl) rfl rfl rfl ?_
    refine Run.one (ok_assign rfl rfl) rfl rfl rfl ?_
    refine Run.nil ?_
    refine Run.nil ?_
    refine T_ret ?_
    exact ⟨_, [], .one (.tmp rfl), List.nil_sublist _, rfl, rfl⟩
end Go.Proofs
